/- What is proved here: part 4 of 6 of the proof of the given statement FnPairings: the contracts of the Go functions that it reaches, the plain facts on lists and numbers, and (in the last part) the statement itself. No conditions beyond the given ones. -/
import Derived.Test.YtmbjefdkjdemhaaMFnPairingswSlim
import Derived.Test.YtmbjefdkjdemhaaMFnPairingsa
import Derived.Test.YtmbjefdkjdemhaaMFnPairingsc

section
namespace Go.Proofs.Ytmbjefdkjdemhaa.Pf
open Go.RowKit Go.Proofs.YtmbjefdkjdemhaaW.PrintWords Go.Proofs.YtmbjefdkjdemhaaW.PrintLast Go.Proofs.YtmbjefdkjdemhaaW.PrintMore
attribute [local go_sem] max2_int min2_int max_two min_two max_three min_three max_four min_four   -- for this text's walks alone
set_option linter.unusedVariables false
set_option linter.unusedSimpArgs false
/-! ### spec_PairLine: function 23 -/
def spec_PairLine.j0 : Nat → Bool → Int → Int → Bool → Int → Int → Bool → Int → Int → Bool → Int → Int → Option (Int × Int)
 | 0, _, _, _, _, _, _, _, _, _, _, _, _ => none
 | k + 1, x36, x417000, x417001, x417002, x418000, x418001, x418002, x419000, x419001, x419002, x421000, x421001 => if x36 = true then (some (x421000, x421001)) else ((spec_l07Slope.f k x417000 x417001 x417002 x418000 x418001 x418002).bind fun bt424 => (if bt424.2 = true then ((spec_FpSub.f 0 x419000).bind fun t426 => ((spec_FpSub.f t426 x417000).bind fun t427 => ((spec_FpSub.f 0 x417001).bind fun t428 => ((spec_FpMul.f bt424.1 t427).bind fun t429 => ((spec_FpSub.f t428 t429).bind fun t430 => (some (t430, x419001))))))) else (some (x421000, x421001))))
def spec_PairLine.f (k : Nat) (a0_0 : Int) (a0_1 : Int) (a0_2 : Bool) (a1_0 : Int) (a1_1 : Int) (a1_2 : Bool) (a2_0 : Int) (a2_1 : Int) (a2_2 : Bool) : Option (Int × Int) := if a0_2 = true then (spec_PairLine.j0 k true a0_0 a0_1 a0_2 a1_0 a1_1 a1_2 a2_0 a2_1 a2_2 1 0) else (if a1_2 = true then (spec_PairLine.j0 k true a0_0 a0_1 a0_2 a1_0 a1_1 a1_2 a2_0 a2_1 a2_2 1 0) else (if a2_2 = true then (spec_PairLine.j0 k true a0_0 a0_1 a0_2 a1_0 a1_1 a1_2 a2_0 a2_1 a2_2 1 0) else ((spec_PointOk.f a0_0 a0_1 a0_2).bind fun t421 => (if t421 = true then ((spec_PointOk.f a1_0 a1_1 a1_2).bind fun t422 => (if t422 = true then ((spec_PointOk.f a2_0 a2_1 a2_2).bind fun t423 => (spec_PairLine.j0 k (!t423) a0_0 a0_1 a0_2 a1_0 a1_1 a1_2 a2_0 a2_1 a2_2 1 0)) else (spec_PairLine.j0 k true a0_0 a0_1 a0_2 a1_0 a1_1 a1_2 a2_0 a2_1 a2_2 1 0))) else (spec_PairLine.j0 k true a0_0 a0_1 a0_2 a1_0 a1_1 a1_2 a2_0 a2_1 a2_2 1 0)))))
theorem spec_PairLine.mono_l : ∀ k, (∀ y0 y1 y2 y3 y4 y5 y6 y7 y8 y9 y10 y11, LeO (spec_PairLine.j0 k y0 y1 y2 y3 y4 y5 y6 y7 y8 y9 y10 y11) (spec_PairLine.j0 (k + 1) y0 y1 y2 y3 y4 y5 y6 y7 y8 y9 y10 y11))
 | 0 => fun _ _ _ _ _ _ _ _ _ _ _ _ r h => by simp [spec_PairLine.j0] at h
 | k + 1 => by
  have ih0 := spec_PairLine.mono_l k
  ·intro y0 y1 y2 y3 y4 y5 y6 y7 y8 y9 y10 y11
   unfold spec_PairLine.j0
   repeat' first
   | (with_reducible exact ih0 _ _ _ _ _ _ _ _ _ _ _ _)
   | (with_reducible exact spec_l07Slope.mono _ _ _ _ _ _ _)
   | (with_reducible exact LeO.refl _)
   | (with_reducible exact LeO.none _)
   | (with_reducible refine LeO.ite ?_ ?_)
   | (with_reducible refine LeO.bind ?_ (fun _ => ?_))
   | exact ih0 _ _ _ _ _ _ _ _ _ _ _ _
   | exact spec_l07Slope.mono _ _ _ _ _ _ _
   | exact LeO.none _
   | refine LeO.ite ?_ ?_
   | refine LeO.bind ?_ (fun _ => ?_)
theorem spec_PairLine.mono : ∀ a0 a1 a2 a3 a4 a5 a6 a7 a8 k, LeO (spec_PairLine.f k a0 a1 a2 a3 a4 a5 a6 a7 a8) (spec_PairLine.f (k + 1) a0 a1 a2 a3 a4 a5 a6 a7 a8) := by
 intro a0 a1 a2 a3 a4 a5 a6 a7 a8 k
 have ih0 := spec_PairLine.mono_l k
 unfold spec_PairLine.f
 repeat' first
   | (with_reducible exact ih0 _ _ _ _ _ _ _ _ _ _ _ _)
   | (with_reducible exact spec_l07Slope.mono _ _ _ _ _ _ _)
   | (with_reducible exact LeO.refl _)
   | (with_reducible exact LeO.none _)
   | (with_reducible refine LeO.ite ?_ ?_)
   | (with_reducible refine LeO.bind ?_ (fun _ => ?_))
   | exact ih0 _ _ _ _ _ _ _ _ _ _ _ _
   | exact spec_l07Slope.mono _ _ _ _ _ _ _
   | exact LeO.none _
   | refine LeO.ite ?_ ?_
   | refine LeO.bind ?_ (fun _ => ?_)
def spec_PairLine.T8 : Bool × List (List Nat × List Nat) := (true, [([], []), ([0], [0]), ([1], [1]), ([], []), ([], []), ([3, 4, 2], [3, 4]), ([2, 5, 5], [2, 5]), ([], []), ([7], [7]), ([6, 8], [6, 8]), ([9, 6, 0, 1, 2, 3, 4, 5, 6, 7, 8, 9], [9])])
def spec_PairLine.B8 : List Nat := [0, 1, 3, 0, 0, 31, 63, 0, 128, 511, 1023]
theorem spec_PairLine.tab8 : rtab .any (opsOf Try.f23 8) = spec_PairLine.T8 := by kernel_rfl
theorem spec_PairLine.bits8 : waitsOk spec_PairLine.T8.2 spec_PairLine.B8 = true := by kernel_rfl
set_option maxHeartbeats 8000000 in
set_option maxRecDepth 100000 in
theorem spec_PairLine.calls (k : Nat) (a0_0 : Int) (a0_1 : Int) (a0_2 : Bool) (a1_0 : Int) (a1_1 : Int) (a1_2 : Bool) (a2_0 : Int) (a2_1 : Int) (a2_2 : Bool) (r1 : Int) (r2 : Int) (w : World) (h : spec_PairLine.f k a0_0 a0_1 a0_2 a1_0 a1_1 a1_2 a2_0 a2_1 a2_2 = some (r1, r2)) :
  Calls Try.prog 23 #[.agg #[.int .i64 a0_0, .int .i64 a0_1, .bool a0_2], .agg #[.int .i64 a1_0, .int .i64 a1_1, .bool a1_2], .agg #[.int .i64 a2_0, .int .i64 a2_1, .bool a2_2]] w fun e w' => e = .returned (.agg #[.int .i64 r1, .int .i64 r2]) ∧ Below w.heap.size w w' := by
 have hu25 := Try.underlying25
 have hu31 := Try.underlying31
 have HB := Aside0.mk (Below.refl w.heap.size w)
 have H : (if a0_2 = true then (spec_PairLine.j0 k true a0_0 a0_1 a0_2 a1_0 a1_1 a1_2 a2_0 a2_1 a2_2 1 0) else (if a1_2 = true then (spec_PairLine.j0 k true a0_0 a0_1 a0_2 a1_0 a1_1 a1_2 a2_0 a2_1 a2_2 1 0) else (if a2_2 = true then (spec_PairLine.j0 k true a0_0 a0_1 a0_2 a1_0 a1_1 a1_2 a2_0 a2_1 a2_2 1 0) else ((spec_PointOk.f a0_0 a0_1 a0_2).bind fun t421 => (if t421 = true then ((spec_PointOk.f a1_0 a1_1 a1_2).bind fun t422 => (if t422 = true then ((spec_PointOk.f a2_0 a2_1 a2_2).bind fun t423 => (spec_PairLine.j0 k (!t423) a0_0 a0_1 a0_2 a1_0 a1_1 a1_2 a2_0 a2_1 a2_2 1 0)) else (spec_PairLine.j0 k true a0_0 a0_1 a0_2 a1_0 a1_1 a1_2 a2_0 a2_1 a2_2 1 0))) else (spec_PairLine.j0 k true a0_0 a0_1 a0_2 a1_0 a1_1 a1_2 a2_0 a2_1 a2_2 1 0)))))) = some (r1, r2) := h
 clear h
 have HC4 := Aside0.mk H
 clear H
 go_enter Try.func23, Try.ntmps23
 go_upto_region 2 with (first | ((with_reducible refine gate_dst (N := 3) rfl ?_); refine box_event ?hg (N := 3) ?hd (cs := #[.int .i64 a0_0, .int .i64 a0_1, .bool a0_2]) (t := 25) ?hr ?_; (case hd => rfl); (case hg => rfl); (case hr => first | (go_simp; done) | (go_simp; rfl)); intro gb416 hg w5 hbox hb; have BK416 := Aside0.mk (hbox); have GW416 := bG HB hg; have GE416 := bG HB hg; replace HB := bS HB hb; clear hb hbox hg) | ((with_reducible refine gate_dst (N := 4) rfl ?_); refine box_event ?hg (N := 4) ?hd (cs := #[.int .i64 a1_0, .int .i64 a1_1, .bool a1_2]) (t := 25) ?hr ?_; (case hd => rfl); (case hg => rfl); (case hr => first | (go_simp; done) | (go_simp; rfl)); intro gb417 hg w6 hbox hb; have BK417 := Aside0.mk (hbox); have GW417 := bG HB hg; have GE417 := bG HB hg; replace HB := bS HB hb; have NB416_417 := bL BK416 hg; have NB417_416 := bR BK416 hg; replace BK416 := bB BK416 hb; clear hb hbox hg) | ((with_reducible refine gate_dst (N := 5) rfl ?_); refine box_event ?hg (N := 5) ?hd (cs := #[.int .i64 a2_0, .int .i64 a2_1, .bool a2_2]) (t := 25) ?hr ?_; (case hd => rfl); (case hg => rfl); (case hr => first | (go_simp; done) | (go_simp; rfl)); intro gb418 hg w7 hbox hb; have BK418 := Aside0.mk (hbox); have GW418 := bG HB hg; have GE418 := bG HB hg; replace HB := bS HB hb; have NB416_418 := bL BK416 hg; have NB418_416 := bR BK416 hg; replace BK416 := bB BK416 hb; have NB417_418 := bL BK417 hg; have NB418_417 := bR BK417 hg; replace BK417 := bB BK417 hb; clear hb hbox hg) | ((with_reducible refine gate_dst (N := 6) rfl ?_); refine box_event ?hg (N := 6) ?hd (cs := #[.int .i64 0, .int .i64 0]) (t := 31) ?hr ?_; (case hd => rfl); (case hg => rfl); (case hr => first | (go_simp; done) | (go_simp; rfl)); intro gb419 hg w8 hbox hb; have BK419 := Aside0.mk (hbox); have GW419 := bG HB hg; have GE419 := bG HB hg; replace HB := bS HB hb; have NB416_419 := bL BK416 hg; have NB419_416 := bR BK416 hg; replace BK416 := bB BK416 hb; have NB417_419 := bL BK417 hg; have NB419_417 := bR BK417 hg; replace BK417 := bB BK417 hb; have NB418_419 := bL BK418 hg; have NB419_418 := bR BK418 hg; replace BK418 := bB BK418 hb; clear hb hbox hg) | ((with_reducible refine gate_dst (N := 7) rfl ?_); refine box_event ?hg (N := 7) ?hd (cs := #[.int .i64 0, .int .i64 0]) (t := 31) ?hr ?_; (case hd => rfl); (case hg => rfl); (case hr => first | (go_simp; done) | (go_simp; rfl)); intro gb420 hg w9 hbox hb; have BK420 := Aside0.mk (hbox); have GW420 := bG HB hg; have GE420 := bG HB hg; replace HB := bS HB hb; have NB416_420 := bL BK416 hg; have NB420_416 := bR BK416 hg; replace BK416 := bB BK416 hb; have NB417_420 := bL BK417 hg; have NB420_417 := bR BK417 hg; replace BK417 := bB BK417 hb; have NB418_420 := bL BK418 hg; have NB420_418 := bR BK418 hg; replace BK418 := bB BK418 hb; have NB419_420 := bL BK419 hg; have NB420_419 := bR BK419 hg; replace BK419 := bB BK419 hb; clear hb hbox hg; have hnb10 := NB420_416.out; have hnc10 := NB416_420.out; have hnb11 := NB420_417.out; have hnc11 := NB417_420.out; have hnb12 := NB420_418.out; have hnc12 := NB418_420.out; have hnb13 := NB420_419.out; have hnc13 := NB419_420.out; have hcz14_0 : w9.cell? ⟨gb420, 0, none⟩ = some (.int .i64 0) := bc BK420 0; have hcz14_1 : w9.cell? ⟨gb420, 1, none⟩ = some (.int .i64 0) := bc BK420 1; have hfz14_0 := blk_frozen BK420.out 0; have hfz14_1 := blk_frozen BK420.out 1))
 (try simp only [Act.put, List.setIfInBounds_toArray, List.set_cons_zero, List.set_cons_succ])
 go_cut [36] (fun v36 wc => ∃ (kq : Nat) (x36_3 : Bool), v36 = .bool x36_3 ∧ Aside0 (spec_PairLine.j0 kq x36_3 a0_0 a0_1 a0_2 a1_0 a1_1 a1_2 a2_0 a2_1 a2_2 1 0 = some (r1, r2)) ∧ Aside0 (kq ≤ k) ∧ Aside0 (wc.heap[gb416]? = some (.cells #[.int .i64 a0_0, .int .i64 a0_1, .bool a0_2] 25 (0, 0))) ∧ Aside0 (wc.heap[gb417]? = some (.cells #[.int .i64 a1_0, .int .i64 a1_1, .bool a1_2] 25 (0, 0))) ∧ Aside0 (wc.heap[gb418]? = some (.cells #[.int .i64 a2_0, .int .i64 a2_1, .bool a2_2] 25 (0, 0))) ∧ Aside0 (wc.heap[gb419]? = some (.cells #[.int .i64 0, .int .i64 0] 31 (0, 0))) ∧ Aside0 (wc.heap[gb420]? = some (.cells #[.int .i64 1, .int .i64 0] 31 (0, 0))) ∧ Aside0 (Below w.heap.size w wc))
 case first =>
  have H := HC4.out
  clear HC4
  by_cases c15 : a0_2 = true
  ·subst c15
   have H1 : (spec_PairLine.j0 k true a0_0 a0_1 true a1_0 a1_1 a1_2 a2_0 a2_1 a2_2 1 0) = some (r1, r2) := by rw [if_pos rfl] at H; exact H
   clear H
   have H := H1
   clear H1
   have H' := Aside0.mk H
   clear H
   have hnb16 := NB416_417.out
   have hnc16 := NB417_416.out
   have hnb17 := NB416_418.out
   have hnc17 := NB418_416.out
   have hnb18 := NB416_419.out
   have hnc18 := NB419_416.out
   have hnb19 := NB416_420.out
   have hnc19 := NB420_416.out
   have hcz20_0 : w9.cell? ⟨gb416, 0, none⟩ = some (.int .i64 a0_0) := bc BK416 0
   have hcz20_1 : w9.cell? ⟨gb416, 1, none⟩ = some (.int .i64 a0_1) := bc BK416 1
   have hcz20_2 : w9.cell? ⟨gb416, 2, none⟩ = some (.bool true) := bc BK416 2
   have hfz20_0 := blk_frozen BK416.out 0
   have hfz20_1 := blk_frozen BK416.out 1
   have hfz20_2 := blk_frozen BK416.out 2
   go_wp2
   go_meet
   case rel => exact ⟨_, (true), (by first | rfl | (simp; done) | (simp [*]; done)), H', ⟨by first | omega | exact Nat.le_refl _⟩, ⟨bP BK416⟩, ⟨bP BK417⟩, ⟨bP BK418⟩, ⟨bP BK419⟩, ⟨by (with_reducible repeat (first | refine blk_drewN ?_ _ | refine blk_drew ?_ | refine blk_alloc ?_ _)); refine blk_put (cs := #[.int .i64 1, .int .i64 0]) ?_ 1 _ rfl; (with_reducible repeat (first | refine blk_drewN ?_ _ | refine blk_drew ?_ | refine blk_alloc ?_ _)); refine blk_put (cs := #[.int .i64 0, .int .i64 0]) ?_ 0 _ rfl; (with_reducible repeat (first | refine blk_drewN ?_ _ | refine blk_drew ?_ | refine blk_alloc ?_ _)); exact BK420.out⟩, ⟨bZ HB⟩⟩
  ·replace c15 := Bool.eq_false_iff.mpr c15
   subst c15
   have H1 : (if a1_2 = true then (spec_PairLine.j0 k true a0_0 a0_1 false a1_0 a1_1 a1_2 a2_0 a2_1 a2_2 1 0) else (if a2_2 = true then (spec_PairLine.j0 k true a0_0 a0_1 false a1_0 a1_1 a1_2 a2_0 a2_1 a2_2 1 0) else ((spec_PointOk.f a0_0 a0_1 false).bind fun t421 => (if t421 = true then ((spec_PointOk.f a1_0 a1_1 a1_2).bind fun t422 => (if t422 = true then ((spec_PointOk.f a2_0 a2_1 a2_2).bind fun t423 => (spec_PairLine.j0 k (!t423) a0_0 a0_1 false a1_0 a1_1 a1_2 a2_0 a2_1 a2_2 1 0)) else (spec_PairLine.j0 k true a0_0 a0_1 false a1_0 a1_1 a1_2 a2_0 a2_1 a2_2 1 0))) else (spec_PairLine.j0 k true a0_0 a0_1 false a1_0 a1_1 a1_2 a2_0 a2_1 a2_2 1 0))))) = some (r1, r2) := by rw [if_neg (show ¬ (false = true) by decide)] at H; exact H
   clear H
   have H := H1
   clear H1
   by_cases c21 : a1_2 = true
   ·subst c21
    have H1 : (spec_PairLine.j0 k true a0_0 a0_1 false a1_0 a1_1 true a2_0 a2_1 a2_2 1 0) = some (r1, r2) := by rw [if_pos rfl] at H; exact H
    clear H
    have H := H1
    clear H1
    have H' := Aside0.mk H
    clear H
    have hnb22 := NB416_417.out
    have hnc22 := NB417_416.out
    have hnb23 := NB416_418.out
    have hnc23 := NB418_416.out
    have hnb24 := NB416_419.out
    have hnc24 := NB419_416.out
    have hnb25 := NB416_420.out
    have hnc25 := NB420_416.out
    have hcz26_0 : w9.cell? ⟨gb416, 0, none⟩ = some (.int .i64 a0_0) := bc BK416 0
    have hcz26_1 : w9.cell? ⟨gb416, 1, none⟩ = some (.int .i64 a0_1) := bc BK416 1
    have hcz26_2 : w9.cell? ⟨gb416, 2, none⟩ = some (.bool false) := bc BK416 2
    have hfz26_0 := blk_frozen BK416.out 0
    have hfz26_1 := blk_frozen BK416.out 1
    have hfz26_2 := blk_frozen BK416.out 2
    have hnb27 := NB417_418.out
    have hnc27 := NB418_417.out
    have hnb28 := NB417_419.out
    have hnc28 := NB419_417.out
    have hnb29 := NB417_420.out
    have hnc29 := NB420_417.out
    have hcz30_0 : w9.cell? ⟨gb417, 0, none⟩ = some (.int .i64 a1_0) := bc BK417 0
    have hcz30_1 : w9.cell? ⟨gb417, 1, none⟩ = some (.int .i64 a1_1) := bc BK417 1
    have hcz30_2 : w9.cell? ⟨gb417, 2, none⟩ = some (.bool true) := bc BK417 2
    have hfz30_0 := blk_frozen BK417.out 0
    have hfz30_1 := blk_frozen BK417.out 1
    have hfz30_2 := blk_frozen BK417.out 2
    go_wp2
    go_meet
    case rel => exact ⟨_, (true), (by first | rfl | (simp; done) | (simp [*]; done)), H', ⟨by first | omega | exact Nat.le_refl _⟩, ⟨bP BK416⟩, ⟨bP BK417⟩, ⟨bP BK418⟩, ⟨bP BK419⟩, ⟨by (with_reducible repeat (first | refine blk_drewN ?_ _ | refine blk_drew ?_ | refine blk_alloc ?_ _)); refine blk_put (cs := #[.int .i64 1, .int .i64 0]) ?_ 1 _ rfl; (with_reducible repeat (first | refine blk_drewN ?_ _ | refine blk_drew ?_ | refine blk_alloc ?_ _)); refine blk_put (cs := #[.int .i64 0, .int .i64 0]) ?_ 0 _ rfl; (with_reducible repeat (first | refine blk_drewN ?_ _ | refine blk_drew ?_ | refine blk_alloc ?_ _)); exact BK420.out⟩, ⟨bZ HB⟩⟩
   ·replace c21 := Bool.eq_false_iff.mpr c21
    subst c21
    have H1 : (if a2_2 = true then (spec_PairLine.j0 k true a0_0 a0_1 false a1_0 a1_1 false a2_0 a2_1 a2_2 1 0) else ((spec_PointOk.f a0_0 a0_1 false).bind fun t421 => (if t421 = true then ((spec_PointOk.f a1_0 a1_1 false).bind fun t422 => (if t422 = true then ((spec_PointOk.f a2_0 a2_1 a2_2).bind fun t423 => (spec_PairLine.j0 k (!t423) a0_0 a0_1 false a1_0 a1_1 false a2_0 a2_1 a2_2 1 0)) else (spec_PairLine.j0 k true a0_0 a0_1 false a1_0 a1_1 false a2_0 a2_1 a2_2 1 0))) else (spec_PairLine.j0 k true a0_0 a0_1 false a1_0 a1_1 false a2_0 a2_1 a2_2 1 0)))) = some (r1, r2) := by rw [if_neg (show ¬ (false = true) by decide)] at H; exact H
    clear H
    have H := H1
    clear H1
    by_cases c31 : a2_2 = true
    ·subst c31
     have H1 : (spec_PairLine.j0 k true a0_0 a0_1 false a1_0 a1_1 false a2_0 a2_1 true 1 0) = some (r1, r2) := by rw [if_pos rfl] at H; exact H
     clear H
     have H := H1
     clear H1
     have H' := Aside0.mk H
     clear H
     have hnb32 := NB416_417.out
     have hnc32 := NB417_416.out
     have hnb33 := NB416_418.out
     have hnc33 := NB418_416.out
     have hnb34 := NB416_419.out
     have hnc34 := NB419_416.out
     have hnb35 := NB416_420.out
     have hnc35 := NB420_416.out
     have hcz36_0 : w9.cell? ⟨gb416, 0, none⟩ = some (.int .i64 a0_0) := bc BK416 0
     have hcz36_1 : w9.cell? ⟨gb416, 1, none⟩ = some (.int .i64 a0_1) := bc BK416 1
     have hcz36_2 : w9.cell? ⟨gb416, 2, none⟩ = some (.bool false) := bc BK416 2
     have hfz36_0 := blk_frozen BK416.out 0
     have hfz36_1 := blk_frozen BK416.out 1
     have hfz36_2 := blk_frozen BK416.out 2
     have hnb37 := NB417_418.out
     have hnc37 := NB418_417.out
     have hnb38 := NB417_419.out
     have hnc38 := NB419_417.out
     have hnb39 := NB417_420.out
     have hnc39 := NB420_417.out
     have hcz40_0 : w9.cell? ⟨gb417, 0, none⟩ = some (.int .i64 a1_0) := bc BK417 0
     have hcz40_1 : w9.cell? ⟨gb417, 1, none⟩ = some (.int .i64 a1_1) := bc BK417 1
     have hcz40_2 : w9.cell? ⟨gb417, 2, none⟩ = some (.bool false) := bc BK417 2
     have hfz40_0 := blk_frozen BK417.out 0
     have hfz40_1 := blk_frozen BK417.out 1
     have hfz40_2 := blk_frozen BK417.out 2
     have hnb41 := NB418_419.out
     have hnc41 := NB419_418.out
     have hnb42 := NB418_420.out
     have hnc42 := NB420_418.out
     have hcz43_0 : w9.cell? ⟨gb418, 0, none⟩ = some (.int .i64 a2_0) := bc BK418 0
     have hcz43_1 : w9.cell? ⟨gb418, 1, none⟩ = some (.int .i64 a2_1) := bc BK418 1
     have hcz43_2 : w9.cell? ⟨gb418, 2, none⟩ = some (.bool true) := bc BK418 2
     have hfz43_0 := blk_frozen BK418.out 0
     have hfz43_1 := blk_frozen BK418.out 1
     have hfz43_2 := blk_frozen BK418.out 2
     go_wp2
     go_meet
     case rel => exact ⟨_, (true), (by first | rfl | (simp; done) | (simp [*]; done)), H', ⟨by first | omega | exact Nat.le_refl _⟩, ⟨bP BK416⟩, ⟨bP BK417⟩, ⟨bP BK418⟩, ⟨bP BK419⟩, ⟨by (with_reducible repeat (first | refine blk_drewN ?_ _ | refine blk_drew ?_ | refine blk_alloc ?_ _)); refine blk_put (cs := #[.int .i64 1, .int .i64 0]) ?_ 1 _ rfl; (with_reducible repeat (first | refine blk_drewN ?_ _ | refine blk_drew ?_ | refine blk_alloc ?_ _)); refine blk_put (cs := #[.int .i64 0, .int .i64 0]) ?_ 0 _ rfl; (with_reducible repeat (first | refine blk_drewN ?_ _ | refine blk_drew ?_ | refine blk_alloc ?_ _)); exact BK420.out⟩, ⟨bZ HB⟩⟩
    ·replace c31 := Bool.eq_false_iff.mpr c31
     subst c31
     have H1 : ((spec_PointOk.f a0_0 a0_1 false).bind fun t421 => (if t421 = true then ((spec_PointOk.f a1_0 a1_1 false).bind fun t422 => (if t422 = true then ((spec_PointOk.f a2_0 a2_1 false).bind fun t423 => (spec_PairLine.j0 k (!t423) a0_0 a0_1 false a1_0 a1_1 false a2_0 a2_1 false 1 0)) else (spec_PairLine.j0 k true a0_0 a0_1 false a1_0 a1_1 false a2_0 a2_1 false 1 0))) else (spec_PairLine.j0 k true a0_0 a0_1 false a1_0 a1_1 false a2_0 a2_1 false 1 0))) = some (r1, r2) := by rw [if_neg (show ¬ (false = true) by decide)] at H; exact H
     clear H
     have H := H1
     clear H1
     replace H := Option.bind_eq_some_iff.mp H
     obtain ⟨t421, A440, H⟩ := H
     replace H : (if t421 = true then ((spec_PointOk.f a1_0 a1_1 false).bind fun t422 => (if t422 = true then ((spec_PointOk.f a2_0 a2_1 false).bind fun t423 => (spec_PairLine.j0 k (!t423) a0_0 a0_1 false a1_0 a1_1 false a2_0 a2_1 false 1 0)) else (spec_PairLine.j0 k true a0_0 a0_1 false a1_0 a1_1 false a2_0 a2_1 false 1 0))) else (spec_PairLine.j0 k true a0_0 a0_1 false a1_0 a1_1 false a2_0 a2_1 false 1 0)) = some (r1, r2) := H
     have A44 := Aside0.mk A440
     clear A440
     by_cases c45 : t421 = true
     ·subst c45
      have H1 : ((spec_PointOk.f a1_0 a1_1 false).bind fun t422 => (if t422 = true then ((spec_PointOk.f a2_0 a2_1 false).bind fun t423 => (spec_PairLine.j0 k (!t423) a0_0 a0_1 false a1_0 a1_1 false a2_0 a2_1 false 1 0)) else (spec_PairLine.j0 k true a0_0 a0_1 false a1_0 a1_1 false a2_0 a2_1 false 1 0))) = some (r1, r2) := by rw [if_pos rfl] at H; exact H
      clear H
      have H := H1
      clear H1
      replace H := Option.bind_eq_some_iff.mp H
      obtain ⟨t422, A460, H⟩ := H
      replace H : (if t422 = true then ((spec_PointOk.f a2_0 a2_1 false).bind fun t423 => (spec_PairLine.j0 k (!t423) a0_0 a0_1 false a1_0 a1_1 false a2_0 a2_1 false 1 0)) else (spec_PairLine.j0 k true a0_0 a0_1 false a1_0 a1_1 false a2_0 a2_1 false 1 0)) = some (r1, r2) := H
      have A46 := Aside0.mk A460
      clear A460
      by_cases c47 : t422 = true
      ·subst c47
       have H1 : ((spec_PointOk.f a2_0 a2_1 false).bind fun t423 => (spec_PairLine.j0 k (!t423) a0_0 a0_1 false a1_0 a1_1 false a2_0 a2_1 false 1 0)) = some (r1, r2) := by rw [if_pos rfl] at H; exact H
       clear H
       have H := H1
       clear H1
       replace H := Option.bind_eq_some_iff.mp H
       obtain ⟨t423, A480, H⟩ := H
       replace H : (spec_PairLine.j0 k (!t423) a0_0 a0_1 false a1_0 a1_1 false a2_0 a2_1 false 1 0) = some (r1, r2) := H
       have A48 := Aside0.mk A480
       clear A480
       have H' := Aside0.mk H
       clear H
       have hnb49 := NB416_417.out
       have hnc49 := NB417_416.out
       have hnb50 := NB416_418.out
       have hnc50 := NB418_416.out
       have hnb51 := NB416_419.out
       have hnc51 := NB419_416.out
       have hnb52 := NB416_420.out
       have hnc52 := NB420_416.out
       have hcz53_0 : w9.cell? ⟨gb416, 0, none⟩ = some (.int .i64 a0_0) := bc BK416 0
       have hcz53_1 : w9.cell? ⟨gb416, 1, none⟩ = some (.int .i64 a0_1) := bc BK416 1
       have hcz53_2 : w9.cell? ⟨gb416, 2, none⟩ = some (.bool false) := bc BK416 2
       have hfz53_0 := blk_frozen BK416.out 0
       have hfz53_1 := blk_frozen BK416.out 1
       have hfz53_2 := blk_frozen BK416.out 2
       have hnb54 := NB417_418.out
       have hnc54 := NB418_417.out
       have hnb55 := NB417_419.out
       have hnc55 := NB419_417.out
       have hnb56 := NB417_420.out
       have hnc56 := NB420_417.out
       have hcz57_0 : w9.cell? ⟨gb417, 0, none⟩ = some (.int .i64 a1_0) := bc BK417 0
       have hcz57_1 : w9.cell? ⟨gb417, 1, none⟩ = some (.int .i64 a1_1) := bc BK417 1
       have hcz57_2 : w9.cell? ⟨gb417, 2, none⟩ = some (.bool false) := bc BK417 2
       have hfz57_0 := blk_frozen BK417.out 0
       have hfz57_1 := blk_frozen BK417.out 1
       have hfz57_2 := blk_frozen BK417.out 2
       have hnb58 := NB418_419.out
       have hnc58 := NB419_418.out
       have hnb59 := NB418_420.out
       have hnc59 := NB420_418.out
       have hcz60_0 : w9.cell? ⟨gb418, 0, none⟩ = some (.int .i64 a2_0) := bc BK418 0
       have hcz60_1 : w9.cell? ⟨gb418, 1, none⟩ = some (.int .i64 a2_1) := bc BK418 1
       have hcz60_2 : w9.cell? ⟨gb418, 2, none⟩ = some (.bool false) := bc BK418 2
       have hfz60_0 := blk_frozen BK418.out 0
       have hfz60_1 := blk_frozen BK418.out 1
       have hfz60_2 := blk_frozen BK418.out 2
       go_wp2_with (first | (go_at_call 55; (with_reducible refine (spec_PointOk.calls a0_0 a0_1 false true _ A44.out).mono ?_); rintro e w61 ⟨rfl, hb⟩; replace BK416 := bB BK416 hb; replace BK417 := bB BK417 hb; replace BK418 := bB BK418 hb; replace BK419 := bB BK419 hb; replace BK420 := Aside0.mk (blk_below (g := gb420) (o := .cells #[.int .i64 1, .int .i64 0] 31 (0, 0)) (by (with_reducible repeat (first | refine blk_drewN ?_ _ | refine blk_drew ?_ | refine blk_alloc ?_ _)); refine blk_put (cs := #[.int .i64 1, .int .i64 0]) ?_ 1 _ rfl; (with_reducible repeat (first | refine blk_drewN ?_ _ | refine blk_drew ?_ | refine blk_alloc ?_ _)); refine blk_put (cs := #[.int .i64 0, .int .i64 0]) ?_ 0 _ rfl; (with_reducible repeat (first | refine blk_drewN ?_ _ | refine blk_drew ?_ | refine blk_alloc ?_ _)); exact BK420.out) hb); replace HB := bS HB hb; (try clear hb); (try clear hb2); (try clear hk); (try clear hi); have hcz62_0 : w61.cell? ⟨gb417, 0, none⟩ = some (.int .i64 a1_0) := bc BK417 0; have hcz62_1 : w61.cell? ⟨gb417, 1, none⟩ = some (.int .i64 a1_1) := bc BK417 1; have hcz62_2 : w61.cell? ⟨gb417, 2, none⟩ = some (.bool false) := bc BK417 2; have hfz62_0 := blk_frozen BK417.out 0; have hfz62_1 := blk_frozen BK417.out 1; have hfz62_2 := blk_frozen BK417.out 2) | (go_at_call 55; (with_reducible refine (spec_PointOk.calls a1_0 a1_1 false true _ A46.out).mono ?_); rintro e w63 ⟨rfl, hb⟩; replace BK416 := bB BK416 hb; replace BK417 := bB BK417 hb; replace BK418 := bB BK418 hb; replace BK419 := bB BK419 hb; replace BK420 := bB BK420 hb; replace HB := bS HB hb; (try clear hb); (try clear hb2); (try clear hk); (try clear hi); have hcz64_0 : w63.cell? ⟨gb418, 0, none⟩ = some (.int .i64 a2_0) := bc BK418 0; have hcz64_1 : w63.cell? ⟨gb418, 1, none⟩ = some (.int .i64 a2_1) := bc BK418 1; have hcz64_2 : w63.cell? ⟨gb418, 2, none⟩ = some (.bool false) := bc BK418 2; have hfz64_0 := blk_frozen BK418.out 0; have hfz64_1 := blk_frozen BK418.out 1; have hfz64_2 := blk_frozen BK418.out 2) | (go_at_call 55; (with_reducible refine (spec_PointOk.calls a2_0 a2_1 false t423 _ A48.out).mono ?_); rintro e w65 ⟨rfl, hb⟩; replace BK416 := bB BK416 hb; replace BK417 := bB BK417 hb; replace BK418 := bB BK418 hb; replace BK419 := bB BK419 hb; replace BK420 := bB BK420 hb; replace HB := bS HB hb; (try clear hb); (try clear hb2); (try clear hk); (try clear hi)))
       go_meet
       case rel => exact ⟨_, (!t423), (by first | rfl | (simp; done) | (simp [*]; done)), H', ⟨by first | omega | exact Nat.le_refl _⟩, ⟨bP BK416⟩, ⟨bP BK417⟩, ⟨bP BK418⟩, ⟨bP BK419⟩, ⟨bP BK420⟩, ⟨bZ HB⟩⟩
      ·replace c47 := Bool.eq_false_iff.mpr c47
       subst c47
       have H1 : (spec_PairLine.j0 k true a0_0 a0_1 false a1_0 a1_1 false a2_0 a2_1 false 1 0) = some (r1, r2) := by rw [if_neg (show ¬ (false = true) by decide)] at H; exact H
       clear H
       have H := H1
       clear H1
       have H' := Aside0.mk H
       clear H
       have hnb66 := NB416_417.out
       have hnc66 := NB417_416.out
       have hnb67 := NB416_418.out
       have hnc67 := NB418_416.out
       have hnb68 := NB416_419.out
       have hnc68 := NB419_416.out
       have hnb69 := NB416_420.out
       have hnc69 := NB420_416.out
       have hcz70_0 : w9.cell? ⟨gb416, 0, none⟩ = some (.int .i64 a0_0) := bc BK416 0
       have hcz70_1 : w9.cell? ⟨gb416, 1, none⟩ = some (.int .i64 a0_1) := bc BK416 1
       have hcz70_2 : w9.cell? ⟨gb416, 2, none⟩ = some (.bool false) := bc BK416 2
       have hfz70_0 := blk_frozen BK416.out 0
       have hfz70_1 := blk_frozen BK416.out 1
       have hfz70_2 := blk_frozen BK416.out 2
       have hnb71 := NB417_418.out
       have hnc71 := NB418_417.out
       have hnb72 := NB417_419.out
       have hnc72 := NB419_417.out
       have hnb73 := NB417_420.out
       have hnc73 := NB420_417.out
       have hcz74_0 : w9.cell? ⟨gb417, 0, none⟩ = some (.int .i64 a1_0) := bc BK417 0
       have hcz74_1 : w9.cell? ⟨gb417, 1, none⟩ = some (.int .i64 a1_1) := bc BK417 1
       have hcz74_2 : w9.cell? ⟨gb417, 2, none⟩ = some (.bool false) := bc BK417 2
       have hfz74_0 := blk_frozen BK417.out 0
       have hfz74_1 := blk_frozen BK417.out 1
       have hfz74_2 := blk_frozen BK417.out 2
       have hnb75 := NB418_419.out
       have hnc75 := NB419_418.out
       have hnb76 := NB418_420.out
       have hnc76 := NB420_418.out
       have hcz77_0 : w9.cell? ⟨gb418, 0, none⟩ = some (.int .i64 a2_0) := bc BK418 0
       have hcz77_1 : w9.cell? ⟨gb418, 1, none⟩ = some (.int .i64 a2_1) := bc BK418 1
       have hcz77_2 : w9.cell? ⟨gb418, 2, none⟩ = some (.bool false) := bc BK418 2
       have hfz77_0 := blk_frozen BK418.out 0
       have hfz77_1 := blk_frozen BK418.out 1
       have hfz77_2 := blk_frozen BK418.out 2
       go_wp2_with (first | (go_at_call 55; (with_reducible refine (spec_PointOk.calls a0_0 a0_1 false true _ A44.out).mono ?_); rintro e w78 ⟨rfl, hb⟩; replace BK416 := bB BK416 hb; replace BK417 := bB BK417 hb; replace BK418 := bB BK418 hb; replace BK419 := bB BK419 hb; replace BK420 := Aside0.mk (blk_below (g := gb420) (o := .cells #[.int .i64 1, .int .i64 0] 31 (0, 0)) (by (with_reducible repeat (first | refine blk_drewN ?_ _ | refine blk_drew ?_ | refine blk_alloc ?_ _)); refine blk_put (cs := #[.int .i64 1, .int .i64 0]) ?_ 1 _ rfl; (with_reducible repeat (first | refine blk_drewN ?_ _ | refine blk_drew ?_ | refine blk_alloc ?_ _)); refine blk_put (cs := #[.int .i64 0, .int .i64 0]) ?_ 0 _ rfl; (with_reducible repeat (first | refine blk_drewN ?_ _ | refine blk_drew ?_ | refine blk_alloc ?_ _)); exact BK420.out) hb); replace HB := bS HB hb; (try clear hb); (try clear hb2); (try clear hk); (try clear hi); have hcz79_0 : w78.cell? ⟨gb417, 0, none⟩ = some (.int .i64 a1_0) := bc BK417 0; have hcz79_1 : w78.cell? ⟨gb417, 1, none⟩ = some (.int .i64 a1_1) := bc BK417 1; have hcz79_2 : w78.cell? ⟨gb417, 2, none⟩ = some (.bool false) := bc BK417 2; have hfz79_0 := blk_frozen BK417.out 0; have hfz79_1 := blk_frozen BK417.out 1; have hfz79_2 := blk_frozen BK417.out 2) | (go_at_call 55; (with_reducible refine (spec_PointOk.calls a1_0 a1_1 false false _ A46.out).mono ?_); rintro e w80 ⟨rfl, hb⟩; replace BK416 := bB BK416 hb; replace BK417 := bB BK417 hb; replace BK418 := bB BK418 hb; replace BK419 := bB BK419 hb; replace BK420 := bB BK420 hb; replace HB := bS HB hb; (try clear hb); (try clear hb2); (try clear hk); (try clear hi)))
       go_meet
       case rel => exact ⟨_, (true), (by first | rfl | (simp; done) | (simp [*]; done)), H', ⟨by first | omega | exact Nat.le_refl _⟩, ⟨bP BK416⟩, ⟨bP BK417⟩, ⟨bP BK418⟩, ⟨bP BK419⟩, ⟨bP BK420⟩, ⟨bZ HB⟩⟩
     ·replace c45 := Bool.eq_false_iff.mpr c45
      subst c45
      have H1 : (spec_PairLine.j0 k true a0_0 a0_1 false a1_0 a1_1 false a2_0 a2_1 false 1 0) = some (r1, r2) := by rw [if_neg (show ¬ (false = true) by decide)] at H; exact H
      clear H
      have H := H1
      clear H1
      have H' := Aside0.mk H
      clear H
      have hnb81 := NB416_417.out
      have hnc81 := NB417_416.out
      have hnb82 := NB416_418.out
      have hnc82 := NB418_416.out
      have hnb83 := NB416_419.out
      have hnc83 := NB419_416.out
      have hnb84 := NB416_420.out
      have hnc84 := NB420_416.out
      have hcz85_0 : w9.cell? ⟨gb416, 0, none⟩ = some (.int .i64 a0_0) := bc BK416 0
      have hcz85_1 : w9.cell? ⟨gb416, 1, none⟩ = some (.int .i64 a0_1) := bc BK416 1
      have hcz85_2 : w9.cell? ⟨gb416, 2, none⟩ = some (.bool false) := bc BK416 2
      have hfz85_0 := blk_frozen BK416.out 0
      have hfz85_1 := blk_frozen BK416.out 1
      have hfz85_2 := blk_frozen BK416.out 2
      have hnb86 := NB417_418.out
      have hnc86 := NB418_417.out
      have hnb87 := NB417_419.out
      have hnc87 := NB419_417.out
      have hnb88 := NB417_420.out
      have hnc88 := NB420_417.out
      have hcz89_0 : w9.cell? ⟨gb417, 0, none⟩ = some (.int .i64 a1_0) := bc BK417 0
      have hcz89_1 : w9.cell? ⟨gb417, 1, none⟩ = some (.int .i64 a1_1) := bc BK417 1
      have hcz89_2 : w9.cell? ⟨gb417, 2, none⟩ = some (.bool false) := bc BK417 2
      have hfz89_0 := blk_frozen BK417.out 0
      have hfz89_1 := blk_frozen BK417.out 1
      have hfz89_2 := blk_frozen BK417.out 2
      have hnb90 := NB418_419.out
      have hnc90 := NB419_418.out
      have hnb91 := NB418_420.out
      have hnc91 := NB420_418.out
      have hcz92_0 : w9.cell? ⟨gb418, 0, none⟩ = some (.int .i64 a2_0) := bc BK418 0
      have hcz92_1 : w9.cell? ⟨gb418, 1, none⟩ = some (.int .i64 a2_1) := bc BK418 1
      have hcz92_2 : w9.cell? ⟨gb418, 2, none⟩ = some (.bool false) := bc BK418 2
      have hfz92_0 := blk_frozen BK418.out 0
      have hfz92_1 := blk_frozen BK418.out 1
      have hfz92_2 := blk_frozen BK418.out 2
      go_wp2_with (first | (go_at_call 55; (with_reducible refine (spec_PointOk.calls a0_0 a0_1 false false _ A44.out).mono ?_); rintro e w93 ⟨rfl, hb⟩; replace BK416 := bB BK416 hb; replace BK417 := bB BK417 hb; replace BK418 := bB BK418 hb; replace BK419 := bB BK419 hb; replace BK420 := Aside0.mk (blk_below (g := gb420) (o := .cells #[.int .i64 1, .int .i64 0] 31 (0, 0)) (by (with_reducible repeat (first | refine blk_drewN ?_ _ | refine blk_drew ?_ | refine blk_alloc ?_ _)); refine blk_put (cs := #[.int .i64 1, .int .i64 0]) ?_ 1 _ rfl; (with_reducible repeat (first | refine blk_drewN ?_ _ | refine blk_drew ?_ | refine blk_alloc ?_ _)); refine blk_put (cs := #[.int .i64 0, .int .i64 0]) ?_ 0 _ rfl; (with_reducible repeat (first | refine blk_drewN ?_ _ | refine blk_drew ?_ | refine blk_alloc ?_ _)); exact BK420.out) hb); replace HB := bS HB hb; (try clear hb); (try clear hb2); (try clear hk); (try clear hi)))
      go_meet
      case rel => exact ⟨_, (true), (by first | rfl | (simp; done) | (simp [*]; done)), H', ⟨by first | omega | exact Nat.le_refl _⟩, ⟨bP BK416⟩, ⟨bP BK417⟩, ⟨bP BK418⟩, ⟨bP BK419⟩, ⟨bP BK420⟩, ⟨bZ HB⟩⟩
 case rest =>
  clear HC4
  try clear c1
  try clear c2
  try clear p2
  try clear c3
  try clear c4
  try clear c5
  try clear c6
  try clear c7
  try clear c8
  try clear c9
  try clear c10
  try clear c11
  try clear c12
  try clear c13
  try clear c15
  try clear c16
  try clear c17
  try clear c18
  try clear c19
  try clear c21
  try clear c22
  try clear c23
  try clear c24
  try clear c25
  try clear c27
  try clear c28
  try clear c29
  try clear c31
  try clear c32
  try clear c33
  try clear c34
  try clear c35
  try clear c37
  try clear c38
  try clear c39
  try clear c41
  try clear c42
  try clear c45
  try clear c47
  try clear c49
  try clear c50
  try clear c51
  try clear c52
  try clear c54
  try clear c55
  try clear c56
  try clear c58
  try clear c59
  try clear c66
  try clear c67
  try clear c68
  try clear c69
  try clear c71
  try clear c72
  try clear c73
  try clear c75
  try clear c76
  try clear c81
  try clear c82
  try clear c83
  try clear c84
  try clear c86
  try clear c87
  try clear c88
  try clear c90
  try clear c91
  try clear hcz14_0
  try clear hcz14_1
  try clear hcz20_0
  try clear hcz20_1
  try clear hcz20_2
  try clear hcz26_0
  try clear hcz26_1
  try clear hcz26_2
  try clear hcz30_0
  try clear hcz30_1
  try clear hcz30_2
  try clear hcz36_0
  try clear hcz36_1
  try clear hcz36_2
  try clear hcz40_0
  try clear hcz40_1
  try clear hcz40_2
  try clear hcz43_0
  try clear hcz43_1
  try clear hcz43_2
  try clear hcz53_0
  try clear hcz53_1
  try clear hcz53_2
  try clear hcz57_0
  try clear hcz57_1
  try clear hcz57_2
  try clear hcz60_0
  try clear hcz60_1
  try clear hcz60_2
  try clear hcz62_0
  try clear hcz62_1
  try clear hcz62_2
  try clear hcz64_0
  try clear hcz64_1
  try clear hcz64_2
  try clear hcz70_0
  try clear hcz70_1
  try clear hcz70_2
  try clear hcz74_0
  try clear hcz74_1
  try clear hcz74_2
  try clear hcz77_0
  try clear hcz77_1
  try clear hcz77_2
  try clear hcz79_0
  try clear hcz79_1
  try clear hcz79_2
  try clear hcz85_0
  try clear hcz85_1
  try clear hcz85_2
  try clear hcz89_0
  try clear hcz89_1
  try clear hcz89_2
  try clear hcz92_0
  try clear hcz92_1
  try clear hcz92_2
  try clear hfz14_0
  try clear hfz14_1
  try clear hfz20_0
  try clear hfz20_1
  try clear hfz20_2
  try clear hfz26_0
  try clear hfz26_1
  try clear hfz26_2
  try clear hfz30_0
  try clear hfz30_1
  try clear hfz30_2
  try clear hfz36_0
  try clear hfz36_1
  try clear hfz36_2
  try clear hfz40_0
  try clear hfz40_1
  try clear hfz40_2
  try clear hfz43_0
  try clear hfz43_1
  try clear hfz43_2
  try clear hfz53_0
  try clear hfz53_1
  try clear hfz53_2
  try clear hfz57_0
  try clear hfz57_1
  try clear hfz57_2
  try clear hfz60_0
  try clear hfz60_1
  try clear hfz60_2
  try clear hfz62_0
  try clear hfz62_1
  try clear hfz62_2
  try clear hfz64_0
  try clear hfz64_1
  try clear hfz64_2
  try clear hfz70_0
  try clear hfz70_1
  try clear hfz70_2
  try clear hfz74_0
  try clear hfz74_1
  try clear hfz74_2
  try clear hfz77_0
  try clear hfz77_1
  try clear hfz77_2
  try clear hfz79_0
  try clear hfz79_1
  try clear hfz79_2
  try clear hfz85_0
  try clear hfz85_1
  try clear hfz85_2
  try clear hfz89_0
  try clear hfz89_1
  try clear hfz89_2
  try clear hfz92_0
  try clear hfz92_1
  try clear hfz92_2
  obtain ⟨kq, x36_3, rfl, HA, HJ3, BK416, BK417, BK418, BK419, BK420, HB⟩ := hcut
  cases kq with
  | zero => exact absurd HA.out (by simp [spec_PairLine.j0])
  | succ kj3 =>
   have H := HA.out
   clear HA
   simp only [spec_PairLine.j0] at H
   by_cases c94 : x36_3 = true
   ·subst c94
    have H1 : (some (1, 0)) = some (r1, r2) := by rw [if_pos rfl] at H; exact H
    clear H
    have H := H1
    clear H1
    simp only [Option.some.injEq, Prod.mk.injEq] at H
    obtain ⟨rfl, rfl⟩ := H
    have hnb95 := NB420_416.out
    have hnc95 := NB416_420.out
    have hnb96 := NB420_417.out
    have hnc96 := NB417_420.out
    have hnb97 := NB420_418.out
    have hnc97 := NB418_420.out
    have hnb98 := NB420_419.out
    have hnc98 := NB419_420.out
    have hcz99_0 : wc.cell? ⟨gb420, 0, none⟩ = some (.int .i64 1) := bc BK420 0
    have hcz99_1 : wc.cell? ⟨gb420, 1, none⟩ = some (.int .i64 0) := bc BK420 1
    have hfz99_0 := blk_frozen BK420.out 0
    have hfz99_1 := blk_frozen BK420.out 1
    have hnb100 := NB419_416.out
    have hnc100 := NB416_419.out
    have hnb101 := NB419_417.out
    have hnc101 := NB417_419.out
    have hnb102 := NB419_418.out
    have hnc102 := NB418_419.out
    have hcz103_0 : wc.cell? ⟨gb419, 0, none⟩ = some (.int .i64 0) := bc BK419 0
    have hcz103_1 : wc.cell? ⟨gb419, 1, none⟩ = some (.int .i64 0) := bc BK419 1
    have hfz103_0 := blk_frozen BK419.out 0
    have hfz103_1 := blk_frozen BK419.out 1
    go_wp2
    refine bodyPost_ret (results_cell_row rfl _ _ gb419 31 #[.int .i64 1, .int .i64 0] (0, 0) _ rfl (by (with_reducible repeat (first | refine blk_drewN ?_ _ | refine blk_drew ?_ | refine blk_alloc ?_ _)); refine blk_put (cs := #[.int .i64 1, .int .i64 0]) ?_ 1 _ rfl; (with_reducible repeat (first | refine blk_drewN ?_ _ | refine blk_drew ?_ | refine blk_alloc ?_ _)); refine blk_put (cs := #[.int .i64 0, .int .i64 0]) ?_ 0 _ rfl; (with_reducible repeat (first | refine blk_drewN ?_ _ | refine blk_drew ?_ | refine blk_alloc ?_ _)); exact BK419.out) Try.underlying31 rfl (by kernel_rfl)) rfl ?_
    exact ⟨by first | rfl | (simp [errW_none, errW_some] <;> rfl) | (simp [*, errW_none, errW_some] <;> rfl), bZ HB⟩
   ·replace c94 := Bool.eq_false_iff.mpr c94
    subst c94
    have H1 : ((spec_l07Slope.f kj3 a0_0 a0_1 a0_2 a1_0 a1_1 a1_2).bind fun bt424 => (if bt424.2 = true then ((spec_FpSub.f 0 a2_0).bind fun t426 => ((spec_FpSub.f t426 a0_0).bind fun t427 => ((spec_FpSub.f 0 a0_1).bind fun t428 => ((spec_FpMul.f bt424.1 t427).bind fun t429 => ((spec_FpSub.f t428 t429).bind fun t430 => (some (t430, a2_1))))))) else (some (1, 0)))) = some (r1, r2) := by rw [if_neg (show ¬ (false = true) by decide)] at H; exact H
    clear H
    have H := H1
    clear H1
    replace H := Option.bind_eq_some_iff.mp H
    obtain ⟨⟨t424, t425⟩, A1040, H⟩ := H
    replace H : (if t425 = true then ((spec_FpSub.f 0 a2_0).bind fun t426 => ((spec_FpSub.f t426 a0_0).bind fun t427 => ((spec_FpSub.f 0 a0_1).bind fun t428 => ((spec_FpMul.f t424 t427).bind fun t429 => ((spec_FpSub.f t428 t429).bind fun t430 => (some (t430, a2_1))))))) else (some (1, 0))) = some (r1, r2) := H
    have A104 := Aside0.mk A1040
    clear A1040
    by_cases c105 : t425 = true
    ·subst c105
     have H1 : ((spec_FpSub.f 0 a2_0).bind fun t426 => ((spec_FpSub.f t426 a0_0).bind fun t427 => ((spec_FpSub.f 0 a0_1).bind fun t428 => ((spec_FpMul.f t424 t427).bind fun t429 => ((spec_FpSub.f t428 t429).bind fun t430 => (some (t430, a2_1))))))) = some (r1, r2) := by rw [if_pos rfl] at H; exact H
     clear H
     have H := H1
     clear H1
     replace H := Option.bind_eq_some_iff.mp H
     obtain ⟨t426, A1060, H⟩ := H
     replace H : ((spec_FpSub.f t426 a0_0).bind fun t427 => ((spec_FpSub.f 0 a0_1).bind fun t428 => ((spec_FpMul.f t424 t427).bind fun t429 => ((spec_FpSub.f t428 t429).bind fun t430 => (some (t430, a2_1)))))) = some (r1, r2) := H
     have A106 := Aside0.mk A1060
     clear A1060
     replace H := Option.bind_eq_some_iff.mp H
     obtain ⟨t427, A1070, H⟩ := H
     replace H : ((spec_FpSub.f 0 a0_1).bind fun t428 => ((spec_FpMul.f t424 t427).bind fun t429 => ((spec_FpSub.f t428 t429).bind fun t430 => (some (t430, a2_1))))) = some (r1, r2) := H
     have A107 := Aside0.mk A1070
     clear A1070
     replace H := Option.bind_eq_some_iff.mp H
     obtain ⟨t428, A1080, H⟩ := H
     replace H : ((spec_FpMul.f t424 t427).bind fun t429 => ((spec_FpSub.f t428 t429).bind fun t430 => (some (t430, a2_1)))) = some (r1, r2) := H
     have A108 := Aside0.mk A1080
     clear A1080
     replace H := Option.bind_eq_some_iff.mp H
     obtain ⟨t429, A1090, H⟩ := H
     replace H : ((spec_FpSub.f t428 t429).bind fun t430 => (some (t430, a2_1))) = some (r1, r2) := H
     have A109 := Aside0.mk A1090
     clear A1090
     replace H := Option.bind_eq_some_iff.mp H
     obtain ⟨t430, A1100, H⟩ := H
     replace H : (some (t430, a2_1)) = some (r1, r2) := H
     have A110 := Aside0.mk A1100
     clear A1100
     simp only [Option.some.injEq, Prod.mk.injEq] at H
     obtain ⟨rfl, rfl⟩ := H
     have hnb111 := NB416_417.out
     have hnc111 := NB417_416.out
     have hnb112 := NB416_418.out
     have hnc112 := NB418_416.out
     have hnb113 := NB416_419.out
     have hnc113 := NB419_416.out
     have hnb114 := NB416_420.out
     have hnc114 := NB420_416.out
     have hcz115_0 : wc.cell? ⟨gb416, 0, none⟩ = some (.int .i64 a0_0) := bc BK416 0
     have hcz115_1 : wc.cell? ⟨gb416, 1, none⟩ = some (.int .i64 a0_1) := bc BK416 1
     have hcz115_2 : wc.cell? ⟨gb416, 2, none⟩ = some (.bool a0_2) := bc BK416 2
     have hfz115_0 := blk_frozen BK416.out 0
     have hfz115_1 := blk_frozen BK416.out 1
     have hfz115_2 := blk_frozen BK416.out 2
     have hnb116 := NB417_418.out
     have hnc116 := NB418_417.out
     have hnb117 := NB417_419.out
     have hnc117 := NB419_417.out
     have hnb118 := NB417_420.out
     have hnc118 := NB420_417.out
     have hcz119_0 : wc.cell? ⟨gb417, 0, none⟩ = some (.int .i64 a1_0) := bc BK417 0
     have hcz119_1 : wc.cell? ⟨gb417, 1, none⟩ = some (.int .i64 a1_1) := bc BK417 1
     have hcz119_2 : wc.cell? ⟨gb417, 2, none⟩ = some (.bool a1_2) := bc BK417 2
     have hfz119_0 := blk_frozen BK417.out 0
     have hfz119_1 := blk_frozen BK417.out 1
     have hfz119_2 := blk_frozen BK417.out 2
     try go_wp2_with (first | ((with_reducible refine gate_callee (f := 74) rfl ?_); refine goesL_ (some 41) rfl rfl Try.func74 (by kernel_rfl) rfl #[.agg #[.int .i64 a0_0, .int .i64 a0_1, .bool a0_2], .agg #[.int .i64 a1_0, .int .i64 a1_1, .bool a1_2]] rfl (by (try simp only [List.map_toArray, List.map_cons, List.map_nil]); first | done | rfl | (simp only [List.length_drop, List.length_take]; rfl)) ?_; (with_reducible refine (spec_l07Slope.calls kj3 a0_0 a0_1 a0_2 a1_0 a1_1 a1_2 t424 true _ A104.out).mono ?_); rintro e w120 ⟨rfl, hb⟩; refine ⟨_, rfl, ?_⟩; replace BK416 := bB BK416 hb; replace BK417 := bB BK417 hb; replace BK418 := bB BK418 hb; replace BK419 := bB BK419 hb; replace BK420 := bB BK420 hb; replace HB := bS HB hb; (try clear hb); (try clear hb2); (try clear hk); (try clear hi)))
     replace BK416 := Aside0.mk (blk_drew BK416.out)
     replace BK417 := Aside0.mk (blk_drew BK417.out)
     replace BK418 := Aside0.mk (blk_drew BK418.out)
     replace BK419 := Aside0.mk (blk_drew BK419.out)
     replace BK420 := Aside0.mk (blk_drew BK420.out)
     replace HB := Aside0.mk (below_drew1 HB.out)
     refine start_ (n := 7) (S := fun w' => w'.cell? ⟨gb418, 0, none⟩ = some (.int .i64 a2_0) ∧ w'.cell? ⟨gb418, 1, none⟩ = some (.int .i64 a2_1) ∧ w'.cell? ⟨gb418, 2, none⟩ = some (.bool a2_2) ∧ w'.cell? ⟨gb416, 0, none⟩ = some (.int .i64 a0_0) ∧ w'.cell? ⟨gb416, 1, none⟩ = some (.int .i64 a0_1) ∧ w'.cell? ⟨gb416, 2, none⟩ = some (.bool a0_2)) (ds := []) #[false, false, false, false, false, false, false] (by kernel_rfl) rfl rfl ⟨bc BK418 0, bc BK418 1, bc BK418 2, bc BK416 0, bc BK416 1, bc BK416 2⟩ (fun hHeld => ?_)
     generalize w120.drew = w121 at BK416 BK417 BK418 BK419 BK420 HB hHeld ⊢
     refine pure_ (i := 0) (N := some 47) (v := ?_) (a' := ?_) #[true, false, false, false, false, false, false] rfl rfl (by kernel_rfl) (fun _ _ _ h => h) (Or.inl ⟨by rfl, ?_⟩) ?_ ?_
     rotate_left
     ·intro w'
      go_simp
      with_reducible rfl
     rotate_left
     ·simp only [Act.put, List.setIfInBounds_toArray, List.set_cons_zero, List.set_cons_succ, i64_w, i32_w]
      rfl
     refine pure_ (i := 3) (N := some 50) (v := ?_) (a' := ?_) #[true, false, false, true, false, false, false] rfl rfl (by kernel_rfl) (fun _ _ _ h => h) (Or.inl ⟨by rfl, ?_⟩) ?_ ?_
     rotate_left
     ·intro w'
      go_simp
      with_reducible rfl
     rotate_left
     ·simp only [Act.put, List.setIfInBounds_toArray, List.set_cons_zero, List.set_cons_succ, i64_w, i32_w]
      rfl
     refine take_ (i := 1) (N := some 48) (v := ?_) (a' := ?_) #[true, true, false, true, false, false, false] rfl rfl (by kernel_rfl) (fun _ _ _ h => h) (Or.inl ⟨by rfl, ?_⟩) hHeld ?_ ?_
     rotate_left
     ·rintro w' ⟨s0, s1, s2, s3, s4, s5⟩
      go_simp
      with_reducible rfl
     rotate_left
     ·simp only [Act.put, List.setIfInBounds_toArray, List.set_cons_zero, List.set_cons_succ, i64_w, i32_w]
      rfl
     refine take_ (i := 4) (N := some 51) (v := ?_) (a' := ?_) #[true, true, false, true, true, false, false] rfl rfl (by kernel_rfl) (fun _ _ _ h => h) (Or.inl ⟨by rfl, ?_⟩) hHeld ?_ ?_
     rotate_left
     ·rintro w' ⟨s0, s1, s2, s3, s4, s5⟩
      go_simp
      with_reducible rfl
     rotate_left
     ·simp only [Act.put, List.setIfInBounds_toArray, List.set_cons_zero, List.set_cons_succ, i64_w, i32_w]
      rfl
     refine one_ (i := 2) (N := some 49) #[true, true, true, true, true, false, false] rfl rfl (by kernel_rfl) (by decide) (fun K hK => ?_)
     refine goes_ Try.func75 (by kernel_rfl) rfl #[.int .i64 0, .int .i64 a2_0] (by rfl) rfl rfl (by (try simp only [List.map_toArray, List.map_cons, List.map_nil]); first | done | rfl | (simp only [List.length_drop, List.length_take]; rfl)) ?_
     with_reducible refine (spec_FpSub.calls 0 a2_0 t426 _ A106.out).mono ?_
     rintro e w' ⟨rfl, ⟨nd, rfl⟩⟩
     refine ⟨_, rfl, ?_⟩
     refine hK.out _ _ ⟨bc BK418 0, bc BK418 1, bc BK418 2, bc BK416 0, bc BK416 1, bc BK416 2⟩ (fun hHeld => ?_)
     clear hK K
     refine norm_ (a' := ?_) ?_ ?_
     rotate_left
     ·show Act.put _ (some 49) _ = _
      simp only [Act.put, List.setIfInBounds_toArray, List.set_cons_zero, List.set_cons_succ, i64_w, i32_w]
      rfl
     refine one_ (i := 5) (N := some 52) #[true, true, true, true, true, true, false] rfl rfl (by kernel_rfl) (by decide) (fun K hK => ?_)
     refine goes_ Try.func75 (by kernel_rfl) rfl #[.int .i64 t426, .int .i64 a0_0] (by rfl) rfl rfl (by (try simp only [List.map_toArray, List.map_cons, List.map_nil]); first | done | rfl | (simp only [List.length_drop, List.length_take]; rfl)) ?_
     with_reducible refine (spec_FpSub.calls t426 a0_0 t427 _ A107.out).mono ?_
     rintro e w' ⟨rfl, ⟨nd, rfl⟩⟩
     refine ⟨_, rfl, ?_⟩
     refine hK.out _ _ ⟨bc BK418 0, bc BK418 1, bc BK418 2, bc BK416 0, bc BK416 1, bc BK416 2⟩ (fun hHeld => ?_)
     clear hK K
     refine norm_ (a' := ?_) ?_ ?_
     rotate_left
     ·show Act.put _ (some 52) _ = _
      simp only [Act.put, List.setIfInBounds_toArray, List.set_cons_zero, List.set_cons_succ, i64_w, i32_w]
      rfl
     refine pure_ (i := 6) (N := some 10) (v := ?_) (a' := ?_) #[true, true, true, true, true, true, true] rfl rfl (by kernel_rfl) (fun _ _ _ h => h) (Or.inl ⟨by rfl, ?_⟩) ?_ ?_
     rotate_left
     ·intro w'
      go_simp
      with_reducible rfl
     rotate_left
     ·simp only [Act.put, List.setIfInBounds_toArray, List.set_cons_zero, List.set_cons_succ, i64_w, i32_w]
      rfl
     refine done_ (by kernel_rfl) ?_
     try go_wp2
     (try simp only [World.drewN_drewN]); (try (rw [drewN_self w121]; generalize hq_ : World.drewN w121 _ = w121; replace BK416 : Aside0 (w121.heap[gb416]? = some (.cells #[.int .i64 a0_0, .int .i64 a0_1, .bool a0_2] 25 (0, 0))) := ⟨by rw [← hq_]; exact (bP BK416)⟩; replace BK417 : Aside0 (w121.heap[gb417]? = some (.cells #[.int .i64 a1_0, .int .i64 a1_1, .bool a1_2] 25 (0, 0))) := ⟨by rw [← hq_]; exact (bP BK417)⟩; replace BK418 : Aside0 (w121.heap[gb418]? = some (.cells #[.int .i64 a2_0, .int .i64 a2_1, .bool a2_2] 25 (0, 0))) := ⟨by rw [← hq_]; exact (bP BK418)⟩; replace BK419 : Aside0 (w121.heap[gb419]? = some (.cells #[.int .i64 0, .int .i64 0] 31 (0, 0))) := ⟨by rw [← hq_]; exact (bP BK419)⟩; replace BK420 : Aside0 (w121.heap[gb420]? = some (.cells #[.int .i64 1, .int .i64 0] 31 (0, 0))) := ⟨by rw [← hq_]; exact (bP BK420)⟩; replace HB : Aside0 (Below w.heap.size w w121) := ⟨by rw [← hq_]; exact (bZ HB)⟩; clear hq_))
     replace BK416 := Aside0.mk (blk_drew BK416.out)
     replace BK417 := Aside0.mk (blk_drew BK417.out)
     replace BK418 := Aside0.mk (blk_drew BK418.out)
     replace BK419 := Aside0.mk (blk_drew BK419.out)
     replace BK420 := Aside0.mk (blk_drew BK420.out)
     replace HB := Aside0.mk (below_drew1 HB.out)
     refine start_ (n := 11) (S := fun w' => w'.cell? ⟨gb416, 0, none⟩ = some (.int .i64 a0_0) ∧ w'.cell? ⟨gb416, 1, none⟩ = some (.int .i64 a0_1) ∧ w'.cell? ⟨gb416, 2, none⟩ = some (.bool a0_2) ∧ w'.cell? ⟨gb418, 0, none⟩ = some (.int .i64 a2_0) ∧ w'.cell? ⟨gb418, 1, none⟩ = some (.int .i64 a2_1) ∧ w'.cell? ⟨gb418, 2, none⟩ = some (.bool a2_2)) (ds := []) #[false, false, false, false, false, false, false, false, false, false, false] (by kernel_rfl) rfl rfl ⟨bc BK416 0, bc BK416 1, bc BK416 2, bc BK418 0, bc BK418 1, bc BK418 2⟩ (fun hHeld => ?_); refine with_tabW spec_PairLine.tab8 spec_PairLine.bits8 (fun HT_ HW_ => ?_)
     generalize w121.drew = w122 at BK416 BK417 BK418 BK419 BK420 HB hHeld ⊢
     refine pure_ (i := 0) (N := some 53) (v := ?_) (a' := ?_) #[true, false, false, false, false, false, false, false, false, false, false] rfl rfl (any_of HT_.out (by kernel_rfl)) (fun _ _ _ h => h) (Or.inl ⟨by rfl, ?_⟩) ?_ ?_
     rotate_left
     ·intro w'
      go_simp
      with_reducible rfl
     rotate_left
     ·simp only [Act.put, List.setIfInBounds_toArray, List.set_cons_zero, List.set_cons_succ, i64_w, i32_w]
      rfl
     refine pure_ (i := 3) (N := some 56) (v := ?_) (a' := ?_) #[true, false, false, true, false, false, false, false, false, false, false] rfl rfl (any_of HT_.out (by kernel_rfl)) (fun _ _ _ h => h) (Or.inl ⟨by rfl, ?_⟩) ?_ ?_
     rotate_left
     ·intro w'
      go_simp
      with_reducible rfl
     rotate_left
     ·simp only [Act.put, List.setIfInBounds_toArray, List.set_cons_zero, List.set_cons_succ, i64_w, i32_w]
      rfl
     refine pure_ (i := 4) (N := some 57) (v := ?_) (a' := ?_) #[true, false, false, true, true, false, false, false, false, false, false] rfl rfl (any_of HT_.out (by kernel_rfl)) (fun _ _ _ h => h) (Or.inl ⟨by rfl, ?_⟩) ?_ ?_
     rotate_left
     ·intro w'
      go_simp
      with_reducible rfl
     rotate_left
     ·simp only [Act.put, List.setIfInBounds_toArray, List.set_cons_zero, List.set_cons_succ, i64_w, i32_w]
      rfl
     refine pure_ (i := 7) (N := some 60) (v := ?_) (a' := ?_) #[true, false, false, true, true, false, false, true, false, false, false] rfl rfl (any_of HT_.out (by kernel_rfl)) (fun _ _ _ h => h) (Or.inl ⟨by rfl, ?_⟩) ?_ ?_
     rotate_left
     ·intro w'
      go_simp
      with_reducible rfl
     rotate_left
     ·simp only [Act.put, List.setIfInBounds_toArray, List.set_cons_zero, List.set_cons_succ, i64_w, i32_w]
      rfl
     refine take_ (i := 1) (N := some 54) (v := ?_) (a' := ?_) #[true, true, false, true, true, false, false, true, false, false, false] rfl rfl (take_ofW HT_.out HW_.out (by kernel_rfl)) (fun _ _ _ h => h) (Or.inl ⟨by rfl, ?_⟩) hHeld ?_ ?_
     rotate_left
     ·rintro w' ⟨s0, s1, s2, s3, s4, s5⟩
      go_simp
      with_reducible rfl
     rotate_left
     ·simp only [Act.put, List.setIfInBounds_toArray, List.set_cons_zero, List.set_cons_succ, i64_w, i32_w]
      rfl
     refine take_ (i := 8) (N := some 61) (v := ?_) (a' := ?_) #[true, true, false, true, true, false, false, true, true, false, false] rfl rfl (take_ofW HT_.out HW_.out (by kernel_rfl)) (fun _ _ _ h => h) (Or.inl ⟨by rfl, ?_⟩) hHeld ?_ ?_
     rotate_left
     ·rintro w' ⟨s0, s1, s2, s3, s4, s5⟩
      go_simp
      with_reducible rfl
     rotate_left
     ·simp only [Act.put, List.setIfInBounds_toArray, List.set_cons_zero, List.set_cons_succ, i64_w, i32_w]
      rfl
     refine one_ (i := 2) (N := some 55) #[true, true, true, true, true, false, false, true, true, false, false] rfl rfl (one_of HT_.out (by kernel_rfl)) (by decide) (fun K hK => ?_)
     refine goes_ Try.func75 (by kernel_rfl) rfl #[.int .i64 0, .int .i64 a0_1] (by rfl) rfl rfl (by (try simp only [List.map_toArray, List.map_cons, List.map_nil]); first | done | rfl | (simp only [List.length_drop, List.length_take]; rfl)) ?_
     with_reducible refine (spec_FpSub.calls 0 a0_1 t428 _ A108.out).mono ?_
     rintro e w' ⟨rfl, ⟨nd, rfl⟩⟩
     refine ⟨_, rfl, ?_⟩
     refine hK.out _ _ ⟨bc BK416 0, bc BK416 1, bc BK416 2, bc BK418 0, bc BK418 1, bc BK418 2⟩ (fun hHeld => ?_)
     clear hK K
     refine norm_ (a' := ?_) ?_ ?_
     rotate_left
     ·show Act.put _ (some 55) _ = _
      simp only [Act.put, List.setIfInBounds_toArray, List.set_cons_zero, List.set_cons_succ, i64_w, i32_w]
      rfl
     refine one_ (i := 5) (N := some 58) #[true, true, true, true, true, true, false, true, true, false, false] rfl rfl (one_of HT_.out (by kernel_rfl)) (by decide) (fun K hK => ?_)
     refine goes_ Try.func76 (by kernel_rfl) rfl #[.int .i64 t424, .int .i64 t427] (by rfl) rfl rfl (by (try simp only [List.map_toArray, List.map_cons, List.map_nil]); first | done | rfl | (simp only [List.length_drop, List.length_take]; rfl)) ?_
     with_reducible refine (spec_FpMul.calls t424 t427 t429 _ A109.out).mono ?_
     rintro e w' ⟨rfl, ⟨nd, rfl⟩⟩
     refine ⟨_, rfl, ?_⟩
     refine hK.out _ _ ⟨bc BK416 0, bc BK416 1, bc BK416 2, bc BK418 0, bc BK418 1, bc BK418 2⟩ (fun hHeld => ?_)
     clear hK K
     refine norm_ (a' := ?_) ?_ ?_
     rotate_left
     ·show Act.put _ (some 58) _ = _
      simp only [Act.put, List.setIfInBounds_toArray, List.set_cons_zero, List.set_cons_succ, i64_w, i32_w]
      rfl
     refine one_ (i := 6) (N := some 59) #[true, true, true, true, true, true, true, true, true, false, false] rfl rfl (one_of HT_.out (by kernel_rfl)) (by decide) (fun K hK => ?_)
     refine goes_ Try.func75 (by kernel_rfl) rfl #[.int .i64 t428, .int .i64 t429] (by rfl) rfl rfl (by (try simp only [List.map_toArray, List.map_cons, List.map_nil]); first | done | rfl | (simp only [List.length_drop, List.length_take]; rfl)) ?_
     with_reducible refine (spec_FpSub.calls t428 t429 t430 _ A110.out).mono ?_
     rintro e w' ⟨rfl, ⟨nd, rfl⟩⟩
     refine ⟨_, rfl, ?_⟩
     refine hK.out _ _ ⟨bc BK416 0, bc BK416 1, bc BK416 2, bc BK418 0, bc BK418 1, bc BK418 2⟩ (fun hHeld => ?_)
     clear hK K
     refine norm_ (a' := ?_) ?_ ?_
     rotate_left
     ·show Act.put _ (some 59) _ = _
      simp only [Act.put, List.setIfInBounds_toArray, List.set_cons_zero, List.set_cons_succ, i64_w, i32_w]
      rfl
     refine pure_ (i := 9) (N := some 62) (v := ?_) (a' := ?_) #[true, true, true, true, true, true, true, true, true, true, false] rfl rfl (any_of HT_.out (by kernel_rfl)) (fun _ _ _ h => h) (Or.inl ⟨by rfl, ?_⟩) ?_ ?_
     rotate_left
     ·intro w'
      go_simp
      with_reducible rfl
     rotate_left
     ·simp only [Act.put, List.setIfInBounds_toArray, List.set_cons_zero, List.set_cons_succ, i64_w, i32_w]
      rfl
     refine one_ (i := 10) (N := none) #[true, true, true, true, true, true, true, true, true, true, true] rfl rfl (one_of HT_.out (by kernel_rfl)) (by decide) (fun K hK => ?_)
     have hs123 : w122.cell? ⟨gb419, 0, none⟩ = some (.int .i64 0) := bc BK419 0
     have hfs123 := blk_frozen BK419.out 0
     have hns123_0 := NB416_419.out
     have hns123_1 := NB417_419.out
     have hns123_2 := NB418_419.out
     have hns123_4 := NB420_419.out
     have hms123_0 := NB419_416.out
     have hms123_1 := NB419_417.out
     have hms123_2 := NB419_418.out
     have hms123_4 := NB419_420.out
     have hs124 : w122.cell? ⟨gb419, 1, none⟩ = some (.int .i64 0) := bc BK419 1
     have hfs124 := blk_frozen BK419.out 1
     have hns124_0 := NB416_419.out
     have hns124_1 := NB417_419.out
     have hns124_2 := NB418_419.out
     have hns124_4 := NB420_419.out
     have hms124_0 := NB419_416.out
     have hms124_1 := NB419_417.out
     have hms124_2 := NB419_418.out
     have hms124_4 := NB419_420.out
     refine skip_ (w1 := ?_) (by rfl) rfl ?_ ?_
     rotate_left
     ·go_simp
      rfl
     refine hK.out _ _ ⟨((cell_far (p := ⟨gb419, _, none⟩) NB416_419.out _).trans (((cell_far (p := ⟨gb419, _, none⟩) NB416_419.out _).trans (hHeld.1)))), ((cell_far (p := ⟨gb419, _, none⟩) NB416_419.out _).trans (((cell_far (p := ⟨gb419, _, none⟩) NB416_419.out _).trans (hHeld.2.1)))), ((cell_far (p := ⟨gb419, _, none⟩) NB416_419.out _).trans (((cell_far (p := ⟨gb419, _, none⟩) NB416_419.out _).trans (hHeld.2.2.1)))), ((cell_far (p := ⟨gb419, _, none⟩) NB418_419.out _).trans (((cell_far (p := ⟨gb419, _, none⟩) NB418_419.out _).trans (hHeld.2.2.2.1)))), ((cell_far (p := ⟨gb419, _, none⟩) NB418_419.out _).trans (((cell_far (p := ⟨gb419, _, none⟩) NB418_419.out _).trans (hHeld.2.2.2.2.1)))), ((cell_far (p := ⟨gb419, _, none⟩) NB418_419.out _).trans (((cell_far (p := ⟨gb419, _, none⟩) NB418_419.out _).trans (hHeld.2.2.2.2.2))))⟩ (fun hHeld => ?_)
     clear hK K
     refine done_ (done_of HT_.out (by kernel_rfl)) ?_
     try go_wp2
     refine bodyPost_ret (results_cell_row rfl _ _ gb419 31 #[.int .i64 t430, .int .i64 a2_1] (0, 0) _ rfl (by (with_reducible repeat (first | refine blk_drewN ?_ _ | refine blk_drew ?_ | refine blk_alloc ?_ _)); refine blk_put (cs := #[.int .i64 t430, .int .i64 0]) ?_ 1 _ rfl; (with_reducible repeat (first | refine blk_drewN ?_ _ | refine blk_drew ?_ | refine blk_alloc ?_ _)); refine blk_put (cs := #[.int .i64 0, .int .i64 0]) ?_ 0 _ rfl; (with_reducible repeat (first | refine blk_drewN ?_ _ | refine blk_drew ?_ | refine blk_alloc ?_ _)); exact BK419.out) Try.underlying31 rfl (by kernel_rfl)) rfl ?_
     exact ⟨by first | rfl | (simp [errW_none, errW_some] <;> rfl) | (simp [*, errW_none, errW_some] <;> rfl), bZ HB⟩
    ·replace c105 := Bool.eq_false_iff.mpr c105
     subst c105
     have H1 : (some (1, 0)) = some (r1, r2) := by rw [if_neg (show ¬ (false = true) by decide)] at H; exact H
     clear H
     have H := H1
     clear H1
     simp only [Option.some.injEq, Prod.mk.injEq] at H
     obtain ⟨rfl, rfl⟩ := H
     have hnb125 := NB416_417.out
     have hnc125 := NB417_416.out
     have hnb126 := NB416_418.out
     have hnc126 := NB418_416.out
     have hnb127 := NB416_419.out
     have hnc127 := NB419_416.out
     have hnb128 := NB416_420.out
     have hnc128 := NB420_416.out
     have hcz129_0 : wc.cell? ⟨gb416, 0, none⟩ = some (.int .i64 a0_0) := bc BK416 0
     have hcz129_1 : wc.cell? ⟨gb416, 1, none⟩ = some (.int .i64 a0_1) := bc BK416 1
     have hcz129_2 : wc.cell? ⟨gb416, 2, none⟩ = some (.bool a0_2) := bc BK416 2
     have hfz129_0 := blk_frozen BK416.out 0
     have hfz129_1 := blk_frozen BK416.out 1
     have hfz129_2 := blk_frozen BK416.out 2
     have hnb130 := NB417_418.out
     have hnc130 := NB418_417.out
     have hnb131 := NB417_419.out
     have hnc131 := NB419_417.out
     have hnb132 := NB417_420.out
     have hnc132 := NB420_417.out
     have hcz133_0 : wc.cell? ⟨gb417, 0, none⟩ = some (.int .i64 a1_0) := bc BK417 0
     have hcz133_1 : wc.cell? ⟨gb417, 1, none⟩ = some (.int .i64 a1_1) := bc BK417 1
     have hcz133_2 : wc.cell? ⟨gb417, 2, none⟩ = some (.bool a1_2) := bc BK417 2
     have hfz133_0 := blk_frozen BK417.out 0
     have hfz133_1 := blk_frozen BK417.out 1
     have hfz133_2 := blk_frozen BK417.out 2
     go_wp2_with (first | ((with_reducible refine gate_callee (f := 74) rfl ?_); refine goesL_ (some 41) rfl rfl Try.func74 (by kernel_rfl) rfl #[.agg #[.int .i64 a0_0, .int .i64 a0_1, .bool a0_2], .agg #[.int .i64 a1_0, .int .i64 a1_1, .bool a1_2]] rfl (by (try simp only [List.map_toArray, List.map_cons, List.map_nil]); first | done | rfl | (simp only [List.length_drop, List.length_take]; rfl)) ?_; (with_reducible refine (spec_l07Slope.calls kj3 a0_0 a0_1 a0_2 a1_0 a1_1 a1_2 t424 false _ A104.out).mono ?_); rintro e w134 ⟨rfl, hb⟩; refine ⟨_, rfl, ?_⟩; replace BK416 := bB BK416 hb; replace BK417 := bB BK417 hb; replace BK418 := bB BK418 hb; replace BK419 := bB BK419 hb; replace BK420 := bB BK420 hb; replace HB := bS HB hb; (try clear hb); (try clear hb2); (try clear hk); (try clear hi); have hnb135 := NB420_418.out; have hnc135 := NB418_420.out; have hnb136 := NB420_419.out; have hnc136 := NB419_420.out; have hcz137_0 : w134.cell? ⟨gb420, 0, none⟩ = some (.int .i64 1) := bc BK420 0; have hcz137_1 : w134.cell? ⟨gb420, 1, none⟩ = some (.int .i64 0) := bc BK420 1; have hfz137_0 := blk_frozen BK420.out 0; have hfz137_1 := blk_frozen BK420.out 1; have hnb138 := NB419_418.out; have hnc138 := NB418_419.out; have hcz139_0 : w134.cell? ⟨gb419, 0, none⟩ = some (.int .i64 0) := bc BK419 0; have hcz139_1 : w134.cell? ⟨gb419, 1, none⟩ = some (.int .i64 0) := bc BK419 1; have hfz139_0 := blk_frozen BK419.out 0; have hfz139_1 := blk_frozen BK419.out 1))
     refine bodyPost_ret (results_cell_row rfl _ _ gb419 31 #[.int .i64 1, .int .i64 0] (0, 0) _ rfl (by (with_reducible repeat (first | refine blk_drewN ?_ _ | refine blk_drew ?_ | refine blk_alloc ?_ _)); refine blk_put (cs := #[.int .i64 1, .int .i64 0]) ?_ 1 _ rfl; (with_reducible repeat (first | refine blk_drewN ?_ _ | refine blk_drew ?_ | refine blk_alloc ?_ _)); refine blk_put (cs := #[.int .i64 0, .int .i64 0]) ?_ 0 _ rfl; (with_reducible repeat (first | refine blk_drewN ?_ _ | refine blk_drew ?_ | refine blk_alloc ?_ _)); exact BK419.out) Try.underlying31 rfl (by kernel_rfl)) rfl ?_
     exact ⟨by first | rfl | (simp [errW_none, errW_some] <;> rfl) | (simp [*, errW_none, errW_some] <;> rfl), bZ HB⟩
/-! ### spec_PointAdd: function 53 -/
def spec_PointAdd.j0 : Nat → Bool → Int → Int → Bool → Int → Int → Bool → Option (Int × Int × Bool)
 | 0, _, _, _, _, _, _, _ => none
 | k + 1, x12, x432000, x432001, x432002, x433000, x433001, x433002 => if x12 = true then ((spec_l07Zero.f).bind fun bt436 => (some (bt436.1, bt436.2.1, bt436.2.2))) else ((spec_l07Add.f k x432000 x432001 x432002 x433000 x433001 x433002).bind fun bt439 => (some (bt439.1, bt439.2.1, bt439.2.2)))
def spec_PointAdd.f (k : Nat) (a0_0 : Int) (a0_1 : Int) (a0_2 : Bool) (a1_0 : Int) (a1_1 : Int) (a1_2 : Bool) : Option (Int × Int × Bool) := (spec_PointOk.f a0_0 a0_1 a0_2).bind fun t434 => (if t434 = true then ((spec_PointOk.f a1_0 a1_1 a1_2).bind fun t435 => (spec_PointAdd.j0 k (!t435) a0_0 a0_1 a0_2 a1_0 a1_1 a1_2)) else (spec_PointAdd.j0 k true a0_0 a0_1 a0_2 a1_0 a1_1 a1_2))
theorem spec_PointAdd.mono_l : ∀ k, (∀ y0 y1 y2 y3 y4 y5 y6, LeO (spec_PointAdd.j0 k y0 y1 y2 y3 y4 y5 y6) (spec_PointAdd.j0 (k + 1) y0 y1 y2 y3 y4 y5 y6))
 | 0 => fun _ _ _ _ _ _ _ r h => by simp [spec_PointAdd.j0] at h
 | k + 1 => by
  have ih0 := spec_PointAdd.mono_l k
  ·intro y0 y1 y2 y3 y4 y5 y6
   unfold spec_PointAdd.j0
   repeat' first
   | (with_reducible exact ih0 _ _ _ _ _ _ _)
   | (with_reducible exact spec_l07Add.mono _ _ _ _ _ _ _)
   | (with_reducible exact LeO.refl _)
   | (with_reducible exact LeO.none _)
   | (with_reducible refine LeO.ite ?_ ?_)
   | (with_reducible refine LeO.bind ?_ (fun _ => ?_))
   | exact ih0 _ _ _ _ _ _ _
   | exact spec_l07Add.mono _ _ _ _ _ _ _
   | exact LeO.none _
   | refine LeO.ite ?_ ?_
   | refine LeO.bind ?_ (fun _ => ?_)
theorem spec_PointAdd.mono : ∀ a0 a1 a2 a3 a4 a5 k, LeO (spec_PointAdd.f k a0 a1 a2 a3 a4 a5) (spec_PointAdd.f (k + 1) a0 a1 a2 a3 a4 a5) := by
 intro a0 a1 a2 a3 a4 a5 k
 have ih0 := spec_PointAdd.mono_l k
 unfold spec_PointAdd.f
 repeat' first
   | (with_reducible exact ih0 _ _ _ _ _ _ _)
   | (with_reducible exact spec_l07Add.mono _ _ _ _ _ _ _)
   | (with_reducible exact LeO.refl _)
   | (with_reducible exact LeO.none _)
   | (with_reducible refine LeO.ite ?_ ?_)
   | (with_reducible refine LeO.bind ?_ (fun _ => ?_))
   | exact ih0 _ _ _ _ _ _ _
   | exact spec_l07Add.mono _ _ _ _ _ _ _
   | exact LeO.none _
   | refine LeO.ite ?_ ?_
   | refine LeO.bind ?_ (fun _ => ?_)
set_option maxHeartbeats 8000000 in
set_option maxRecDepth 100000 in
theorem spec_PointAdd.calls (k : Nat) (a0_0 : Int) (a0_1 : Int) (a0_2 : Bool) (a1_0 : Int) (a1_1 : Int) (a1_2 : Bool) (r1 : Int) (r2 : Int) (r3 : Bool) (w : World) (h : spec_PointAdd.f k a0_0 a0_1 a0_2 a1_0 a1_1 a1_2 = some (r1, r2, r3)) :
  Calls Try.prog 53 #[.agg #[.int .i64 a0_0, .int .i64 a0_1, .bool a0_2], .agg #[.int .i64 a1_0, .int .i64 a1_1, .bool a1_2]] w fun e w' => e = .returned (.agg #[.int .i64 r1, .int .i64 r2, .bool r3]) ∧ Below w.heap.size w w' := by
 have hu25 := Try.underlying25
 have HB := Aside0.mk (Below.refl w.heap.size w)
 have H : ((spec_PointOk.f a0_0 a0_1 a0_2).bind fun t434 => (if t434 = true then ((spec_PointOk.f a1_0 a1_1 a1_2).bind fun t435 => (spec_PointAdd.j0 k (!t435) a0_0 a0_1 a0_2 a1_0 a1_1 a1_2)) else (spec_PointAdd.j0 k true a0_0 a0_1 a0_2 a1_0 a1_1 a1_2))) = some (r1, r2, r3) := h
 clear h
 have HC3 := Aside0.mk H
 clear H
 go_enter Try.func53, Try.ntmps53
 go_upto_region 1 with (first | ((with_reducible refine gate_dst (N := 2) rfl ?_); refine box_event ?hg (N := 2) ?hd (cs := #[.int .i64 a0_0, .int .i64 a0_1, .bool a0_2]) (t := 25) ?hr ?_; (case hd => rfl); (case hg => rfl); (case hr => first | (go_simp; done) | (go_simp; rfl)); intro gb431 hg w4 hbox hb; have BK431 := Aside0.mk (hbox); have GW431 := bG HB hg; have GE431 := bG HB hg; replace HB := bS HB hb; clear hb hbox hg) | ((with_reducible refine gate_dst (N := 3) rfl ?_); refine box_event ?hg (N := 3) ?hd (cs := #[.int .i64 a1_0, .int .i64 a1_1, .bool a1_2]) (t := 25) ?hr ?_; (case hd => rfl); (case hg => rfl); (case hr => first | (go_simp; done) | (go_simp; rfl)); intro gb432 hg w5 hbox hb; have BK432 := Aside0.mk (hbox); have GW432 := bG HB hg; have GE432 := bG HB hg; replace HB := bS HB hb; have NB431_432 := bL BK431 hg; have NB432_431 := bR BK431 hg; replace BK431 := bB BK431 hb; clear hb hbox hg) | ((with_reducible refine gate_dst (N := 4) rfl ?_); refine box_event ?hg (N := 4) ?hd (cs := #[.int .i64 0, .int .i64 0, .bool false]) (t := 25) ?hr ?_; (case hd => rfl); (case hg => rfl); (case hr => first | (go_simp; done) | (go_simp; rfl)); intro gb433 hg w6 hbox hb; have BK433 := Aside0.mk (hbox); have GW433 := bG HB hg; have GE433 := bG HB hg; replace HB := bS HB hb; have NB431_433 := bL BK431 hg; have NB433_431 := bR BK431 hg; replace BK431 := bB BK431 hb; have NB432_433 := bL BK432 hg; have NB433_432 := bR BK432 hg; replace BK432 := bB BK432 hb; clear hb hbox hg))
 (try simp only [Act.put, List.setIfInBounds_toArray, List.set_cons_zero, List.set_cons_succ])
 go_cut [12] (fun v12 wc => ∃ (kq : Nat) (x12_2 : Bool), v12 = .bool x12_2 ∧ Aside0 (spec_PointAdd.j0 kq x12_2 a0_0 a0_1 a0_2 a1_0 a1_1 a1_2 = some (r1, r2, r3)) ∧ Aside0 (kq ≤ k) ∧ Aside0 (wc.heap[gb431]? = some (.cells #[.int .i64 a0_0, .int .i64 a0_1, .bool a0_2] 25 (0, 0))) ∧ Aside0 (wc.heap[gb432]? = some (.cells #[.int .i64 a1_0, .int .i64 a1_1, .bool a1_2] 25 (0, 0))) ∧ Aside0 (wc.heap[gb433]? = some (.cells #[.int .i64 0, .int .i64 0, .bool false] 25 (0, 0))) ∧ Aside0 (Below w.heap.size w wc))
 case first =>
  have H := HC3.out
  clear HC3
  replace H := Option.bind_eq_some_iff.mp H
  obtain ⟨t434, A70, H⟩ := H
  replace H : (if t434 = true then ((spec_PointOk.f a1_0 a1_1 a1_2).bind fun t435 => (spec_PointAdd.j0 k (!t435) a0_0 a0_1 a0_2 a1_0 a1_1 a1_2)) else (spec_PointAdd.j0 k true a0_0 a0_1 a0_2 a1_0 a1_1 a1_2)) = some (r1, r2, r3) := H
  have A7 := Aside0.mk A70
  clear A70
  by_cases c8 : t434 = true
  ·subst c8
   have H1 : ((spec_PointOk.f a1_0 a1_1 a1_2).bind fun t435 => (spec_PointAdd.j0 k (!t435) a0_0 a0_1 a0_2 a1_0 a1_1 a1_2)) = some (r1, r2, r3) := by rw [if_pos rfl] at H; exact H
   clear H
   have H := H1
   clear H1
   replace H := Option.bind_eq_some_iff.mp H
   obtain ⟨t435, A90, H⟩ := H
   replace H : (spec_PointAdd.j0 k (!t435) a0_0 a0_1 a0_2 a1_0 a1_1 a1_2) = some (r1, r2, r3) := H
   have A9 := Aside0.mk A90
   clear A90
   have H' := Aside0.mk H
   clear H
   have hnb10 := NB431_432.out
   have hnc10 := NB432_431.out
   have hnb11 := NB431_433.out
   have hnc11 := NB433_431.out
   have hcz12_0 : w6.cell? ⟨gb431, 0, none⟩ = some (.int .i64 a0_0) := bc BK431 0
   have hcz12_1 : w6.cell? ⟨gb431, 1, none⟩ = some (.int .i64 a0_1) := bc BK431 1
   have hcz12_2 : w6.cell? ⟨gb431, 2, none⟩ = some (.bool a0_2) := bc BK431 2
   have hfz12_0 := blk_frozen BK431.out 0
   have hfz12_1 := blk_frozen BK431.out 1
   have hfz12_2 := blk_frozen BK431.out 2
   go_wp2_with (first | ((with_reducible refine gate_callee (f := 55) rfl ?_); refine goesL_ (some 6) rfl rfl Try.func55 (by kernel_rfl) rfl #[.agg #[.int .i64 a0_0, .int .i64 a0_1, .bool a0_2]] rfl (by (try simp only [List.map_toArray, List.map_cons, List.map_nil]); first | done | rfl | (simp only [List.length_drop, List.length_take]; rfl)) ?_; (with_reducible refine (spec_PointOk.calls a0_0 a0_1 a0_2 true _ A7.out).mono ?_); rintro e w13 ⟨rfl, hb⟩; refine ⟨_, rfl, ?_⟩; replace BK431 := bB BK431 hb; replace BK432 := bB BK432 hb; replace BK433 := bB BK433 hb; replace HB := bS HB hb; (try clear hb); (try clear hb2); (try clear hk); (try clear hi); have hnb14 := NB432_433.out; have hnc14 := NB433_432.out; have hcz15_0 : w13.cell? ⟨gb432, 0, none⟩ = some (.int .i64 a1_0) := bc BK432 0; have hcz15_1 : w13.cell? ⟨gb432, 1, none⟩ = some (.int .i64 a1_1) := bc BK432 1; have hcz15_2 : w13.cell? ⟨gb432, 2, none⟩ = some (.bool a1_2) := bc BK432 2; have hfz15_0 := blk_frozen BK432.out 0; have hfz15_1 := blk_frozen BK432.out 1; have hfz15_2 := blk_frozen BK432.out 2) | (go_at_call 55; (with_reducible refine (spec_PointOk.calls a1_0 a1_1 a1_2 t435 _ A9.out).mono ?_); rintro e w16 ⟨rfl, hb⟩; replace BK431 := bB BK431 hb; replace BK432 := bB BK432 hb; replace BK433 := bB BK433 hb; replace HB := bS HB hb; (try clear hb); (try clear hb2); (try clear hk); (try clear hi)))
   go_meet
   case rel => exact ⟨_, (!t435), (by first | rfl | (simp; done) | (simp [*]; done)), H', ⟨by first | omega | exact Nat.le_refl _⟩, ⟨bP BK431⟩, ⟨bP BK432⟩, ⟨bP BK433⟩, ⟨bZ HB⟩⟩
  ·replace c8 := Bool.eq_false_iff.mpr c8
   subst c8
   have H1 : (spec_PointAdd.j0 k true a0_0 a0_1 a0_2 a1_0 a1_1 a1_2) = some (r1, r2, r3) := by rw [if_neg (show ¬ (false = true) by decide)] at H; exact H
   clear H
   have H := H1
   clear H1
   have H' := Aside0.mk H
   clear H
   have hnb17 := NB431_432.out
   have hnc17 := NB432_431.out
   have hnb18 := NB431_433.out
   have hnc18 := NB433_431.out
   have hcz19_0 : w6.cell? ⟨gb431, 0, none⟩ = some (.int .i64 a0_0) := bc BK431 0
   have hcz19_1 : w6.cell? ⟨gb431, 1, none⟩ = some (.int .i64 a0_1) := bc BK431 1
   have hcz19_2 : w6.cell? ⟨gb431, 2, none⟩ = some (.bool a0_2) := bc BK431 2
   have hfz19_0 := blk_frozen BK431.out 0
   have hfz19_1 := blk_frozen BK431.out 1
   have hfz19_2 := blk_frozen BK431.out 2
   go_wp2_with (first | ((with_reducible refine gate_callee (f := 55) rfl ?_); refine goesL_ (some 6) rfl rfl Try.func55 (by kernel_rfl) rfl #[.agg #[.int .i64 a0_0, .int .i64 a0_1, .bool a0_2]] rfl (by (try simp only [List.map_toArray, List.map_cons, List.map_nil]); first | done | rfl | (simp only [List.length_drop, List.length_take]; rfl)) ?_; (with_reducible refine (spec_PointOk.calls a0_0 a0_1 a0_2 false _ A7.out).mono ?_); rintro e w20 ⟨rfl, hb⟩; refine ⟨_, rfl, ?_⟩; replace BK431 := bB BK431 hb; replace BK432 := bB BK432 hb; replace BK433 := bB BK433 hb; replace HB := bS HB hb; (try clear hb); (try clear hb2); (try clear hk); (try clear hi)))
   go_meet
   case rel => exact ⟨_, (true), (by first | rfl | (simp; done) | (simp [*]; done)), H', ⟨by first | omega | exact Nat.le_refl _⟩, ⟨bP BK431⟩, ⟨bP BK432⟩, ⟨bP BK433⟩, ⟨bZ HB⟩⟩
 case rest =>
  clear HC3
  try clear c1
  try clear p2
  try clear c5
  try clear c8
  try clear c10
  try clear c11
  try clear c14
  try clear c17
  try clear c18
  try clear hcz12_0
  try clear hcz12_1
  try clear hcz12_2
  try clear hcz15_0
  try clear hcz15_1
  try clear hcz15_2
  try clear hcz19_0
  try clear hcz19_1
  try clear hcz19_2
  try clear hfz12_0
  try clear hfz12_1
  try clear hfz12_2
  try clear hfz15_0
  try clear hfz15_1
  try clear hfz15_2
  try clear hfz19_0
  try clear hfz19_1
  try clear hfz19_2
  obtain ⟨kq, x12_2, rfl, HA, HJ2, BK431, BK432, BK433, HB⟩ := hcut
  cases kq with
  | zero => exact absurd HA.out (by simp [spec_PointAdd.j0])
  | succ kj2 =>
   have H := HA.out
   clear HA
   simp only [spec_PointAdd.j0] at H
   by_cases c21 : x12_2 = true
   ·subst c21
    have H1 : ((spec_l07Zero.f).bind fun bt436 => (some (bt436.1, bt436.2.1, bt436.2.2))) = some (r1, r2, r3) := by rw [if_pos rfl] at H; exact H
    clear H
    have H := H1
    clear H1
    replace H := Option.bind_eq_some_iff.mp H
    obtain ⟨⟨t436, t437, t438⟩, A220, H⟩ := H
    replace H : (some (t436, t437, t438)) = some (r1, r2, r3) := H
    have A22 := Aside0.mk A220
    clear A220
    simp only [Option.some.injEq, Prod.mk.injEq] at H
    obtain ⟨rfl, rfl, rfl⟩ := H
    go_wp2_with (first | ((with_reducible refine gate_callee (f := 78) rfl ?_); refine goesL_ (some 13) rfl rfl Try.func78 (by kernel_rfl) rfl #[] rfl (by (try simp only [List.map_toArray, List.map_cons, List.map_nil]); first | done | rfl | (simp only [List.length_drop, List.length_take]; rfl)) ?_; (with_reducible refine (spec_l07Zero.calls  t436 t437 t438 _ A22.out).mono ?_); rintro e w23 ⟨rfl, hb⟩; refine ⟨_, rfl, ?_⟩; replace BK431 := bB BK431 hb; replace BK432 := bB BK432 hb; replace BK433 := bB BK433 hb; replace HB := bS HB hb; (try clear hb); (try clear hb2); (try clear hk); (try clear hi); have hnb24 := NB433_431.out; have hnc24 := NB431_433.out; have hnb25 := NB433_432.out; have hnc25 := NB432_433.out; have hcz26_0 : w23.cell? ⟨gb433, 0, none⟩ = some (.int .i64 0) := bc BK433 0; have hcz26_1 : w23.cell? ⟨gb433, 1, none⟩ = some (.int .i64 0) := bc BK433 1; have hcz26_2 : w23.cell? ⟨gb433, 2, none⟩ = some (.bool false) := bc BK433 2; have hfz26_0 := blk_frozen BK433.out 0; have hfz26_1 := blk_frozen BK433.out 1; have hfz26_2 := blk_frozen BK433.out 2))
    refine bodyPost_ret (results_cell_row rfl _ _ gb433 25 #[.int .i64 t436, .int .i64 t437, .bool t438] (0, 0) _ rfl (by (with_reducible repeat (first | refine blk_drewN ?_ _ | refine blk_drew ?_ | refine blk_alloc ?_ _)); refine blk_put (cs := #[.int .i64 t436, .int .i64 t437, .bool false]) ?_ 2 _ rfl; (with_reducible repeat (first | refine blk_drewN ?_ _ | refine blk_drew ?_ | refine blk_alloc ?_ _)); refine blk_put (cs := #[.int .i64 t436, .int .i64 0, .bool false]) ?_ 1 _ rfl; (with_reducible repeat (first | refine blk_drewN ?_ _ | refine blk_drew ?_ | refine blk_alloc ?_ _)); refine blk_put (cs := #[.int .i64 0, .int .i64 0, .bool false]) ?_ 0 _ rfl; (with_reducible repeat (first | refine blk_drewN ?_ _ | refine blk_drew ?_ | refine blk_alloc ?_ _)); exact BK433.out) Try.underlying25 rfl (by kernel_rfl)) rfl ?_
    exact ⟨by first | rfl | (simp [errW_none, errW_some] <;> rfl) | (simp [*, errW_none, errW_some] <;> rfl), bZ HB⟩
   ·replace c21 := Bool.eq_false_iff.mpr c21
    subst c21
    have H1 : ((spec_l07Add.f kj2 a0_0 a0_1 a0_2 a1_0 a1_1 a1_2).bind fun bt439 => (some (bt439.1, bt439.2.1, bt439.2.2))) = some (r1, r2, r3) := by rw [if_neg (show ¬ (false = true) by decide)] at H; exact H
    clear H
    have H := H1
    clear H1
    replace H := Option.bind_eq_some_iff.mp H
    obtain ⟨⟨t439, t440, t441⟩, A270, H⟩ := H
    replace H : (some (t439, t440, t441)) = some (r1, r2, r3) := H
    have A27 := Aside0.mk A270
    clear A270
    simp only [Option.some.injEq, Prod.mk.injEq] at H
    obtain ⟨rfl, rfl, rfl⟩ := H
    have hnb28 := NB431_432.out
    have hnc28 := NB432_431.out
    have hnb29 := NB431_433.out
    have hnc29 := NB433_431.out
    have hcz30_0 : wc.cell? ⟨gb431, 0, none⟩ = some (.int .i64 a0_0) := bc BK431 0
    have hcz30_1 : wc.cell? ⟨gb431, 1, none⟩ = some (.int .i64 a0_1) := bc BK431 1
    have hcz30_2 : wc.cell? ⟨gb431, 2, none⟩ = some (.bool a0_2) := bc BK431 2
    have hfz30_0 := blk_frozen BK431.out 0
    have hfz30_1 := blk_frozen BK431.out 1
    have hfz30_2 := blk_frozen BK431.out 2
    have hnb31 := NB432_433.out
    have hnc31 := NB433_432.out
    have hcz32_0 : wc.cell? ⟨gb432, 0, none⟩ = some (.int .i64 a1_0) := bc BK432 0
    have hcz32_1 : wc.cell? ⟨gb432, 1, none⟩ = some (.int .i64 a1_1) := bc BK432 1
    have hcz32_2 : wc.cell? ⟨gb432, 2, none⟩ = some (.bool a1_2) := bc BK432 2
    have hfz32_0 := blk_frozen BK432.out 0
    have hfz32_1 := blk_frozen BK432.out 1
    have hfz32_2 := blk_frozen BK432.out 2
    go_wp2_with (first | ((with_reducible refine gate_callee (f := 80) rfl ?_); refine goesL_ (some 16) rfl rfl Try.func80 (by kernel_rfl) rfl #[.agg #[.int .i64 a0_0, .int .i64 a0_1, .bool a0_2], .agg #[.int .i64 a1_0, .int .i64 a1_1, .bool a1_2]] rfl (by (try simp only [List.map_toArray, List.map_cons, List.map_nil]); first | done | rfl | (simp only [List.length_drop, List.length_take]; rfl)) ?_; (with_reducible refine (spec_l07Add.calls kj2 a0_0 a0_1 a0_2 a1_0 a1_1 a1_2 t439 t440 t441 _ A27.out).mono ?_); rintro e w33 ⟨rfl, hb⟩; refine ⟨_, rfl, ?_⟩; replace BK431 := bB BK431 hb; replace BK432 := bB BK432 hb; replace BK433 := bB BK433 hb; replace HB := bS HB hb; (try clear hb); (try clear hb2); (try clear hk); (try clear hi); have hcz34_0 : w33.cell? ⟨gb433, 0, none⟩ = some (.int .i64 0) := bc BK433 0; have hcz34_1 : w33.cell? ⟨gb433, 1, none⟩ = some (.int .i64 0) := bc BK433 1; have hcz34_2 : w33.cell? ⟨gb433, 2, none⟩ = some (.bool false) := bc BK433 2; have hfz34_0 := blk_frozen BK433.out 0; have hfz34_1 := blk_frozen BK433.out 1; have hfz34_2 := blk_frozen BK433.out 2))
    refine bodyPost_ret (results_cell_row rfl _ _ gb433 25 #[.int .i64 t439, .int .i64 t440, .bool t441] (0, 0) _ rfl (by (with_reducible repeat (first | refine blk_drewN ?_ _ | refine blk_drew ?_ | refine blk_alloc ?_ _)); refine blk_put (cs := #[.int .i64 t439, .int .i64 t440, .bool false]) ?_ 2 _ rfl; (with_reducible repeat (first | refine blk_drewN ?_ _ | refine blk_drew ?_ | refine blk_alloc ?_ _)); refine blk_put (cs := #[.int .i64 t439, .int .i64 0, .bool false]) ?_ 1 _ rfl; (with_reducible repeat (first | refine blk_drewN ?_ _ | refine blk_drew ?_ | refine blk_alloc ?_ _)); refine blk_put (cs := #[.int .i64 0, .int .i64 0, .bool false]) ?_ 0 _ rfl; (with_reducible repeat (first | refine blk_drewN ?_ _ | refine blk_drew ?_ | refine blk_alloc ?_ _)); exact BK433.out) Try.underlying25 rfl (by kernel_rfl)) rfl ?_
    exact ⟨by first | rfl | (simp [errW_none, errW_some] <;> rfl) | (simp [*, errW_none, errW_some] <;> rfl), bZ HB⟩
/-! ### spec_Miller: function 39 -/
def spec_Miller.l0 : Nat → Int → Int → Int → Bool → Int → Int → Bool → Int → Int → Int → Int → Bool → Option (Int × Int)
 | 0, _, _, _, _, _, _, _, _, _, _, _, _ => none
 | k + 1, x7, x452000, x452001, x452002, x453000, x453001, x453002, x455000, x455001, x456000, x456001, x456002 => if x7 ≥ 0 then ((spec_TwoMul.f x455000 x455001 x455000 x455001).bind fun bt456 => ((spec_PairLine.f k x456000 x456001 x456002 x456000 x456001 x456002 x453000 x453001 x453002).bind fun bt458 => ((spec_TwoMul.f bt456.1 bt456.2 bt458.1 bt458.2).bind fun bt460 => ((spec_PointAdd.f k x456000 x456001 x456002 x456000 x456001 x456002).bind fun bt462 => (if 0 ≤ (IntKind.u64.wrap (x7)) then (if ((shr .i64 1009 (IntKind.u64.wrap (x7))) % 2) = 1 then ((spec_PairLine.f k bt462.1 bt462.2.1 bt462.2.2 x452000 x452001 x452002 x453000 x453001 x453002).bind fun bt465 => ((spec_TwoMul.f bt460.1 bt460.2 bt465.1 bt465.2).bind fun bt467 => ((spec_PointAdd.f k bt462.1 bt462.2.1 bt462.2.2 x452000 x452001 x452002).bind fun bt469 => (spec_Miller.l0 k (wrap64 (x7 - 1)) x452000 x452001 x452002 x453000 x453001 x453002 bt467.1 bt467.2 bt469.1 bt469.2.1 bt469.2.2)))) else (spec_Miller.l0 k (wrap64 (x7 - 1)) x452000 x452001 x452002 x453000 x453001 x453002 bt460.1 bt460.2 bt462.1 bt462.2.1 bt462.2.2)) else (none)))))) else (some (x455000, x455001))
def spec_Miller.f (k : Nat) (a0_0 : Int) (a0_1 : Int) (a0_2 : Bool) (a1_0 : Int) (a1_1 : Int) (a1_2 : Bool) : Option (Int × Int) := spec_Miller.l0 k 8 a0_0 a0_1 a0_2 a1_0 a1_1 a1_2 1 0 a0_0 a0_1 a0_2
theorem spec_Miller.mono_l : ∀ k, (∀ y0 y1 y2 y3 y4 y5 y6 y7 y8 y9 y10 y11, LeO (spec_Miller.l0 k y0 y1 y2 y3 y4 y5 y6 y7 y8 y9 y10 y11) (spec_Miller.l0 (k + 1) y0 y1 y2 y3 y4 y5 y6 y7 y8 y9 y10 y11))
 | 0 => fun _ _ _ _ _ _ _ _ _ _ _ _ r h => by simp [spec_Miller.l0] at h
 | k + 1 => by
  have ih0 := spec_Miller.mono_l k
  ·intro y0 y1 y2 y3 y4 y5 y6 y7 y8 y9 y10 y11
   unfold spec_Miller.l0
   repeat' first
   | (with_reducible exact ih0 _ _ _ _ _ _ _ _ _ _ _ _)
   | (with_reducible exact spec_PairLine.mono _ _ _ _ _ _ _ _ _ _)
   | (with_reducible exact spec_PointAdd.mono _ _ _ _ _ _ _)
   | (with_reducible exact LeO.refl _)
   | (with_reducible exact LeO.none _)
   | (with_reducible refine LeO.ite ?_ ?_)
   | (with_reducible refine LeO.bind ?_ (fun _ => ?_))
   | exact ih0 _ _ _ _ _ _ _ _ _ _ _ _
   | exact spec_PairLine.mono _ _ _ _ _ _ _ _ _ _
   | exact spec_PointAdd.mono _ _ _ _ _ _ _
   | exact LeO.none _
   | refine LeO.ite ?_ ?_
   | refine LeO.bind ?_ (fun _ => ?_)
theorem spec_Miller.mono : ∀ a0 a1 a2 a3 a4 a5 k, LeO (spec_Miller.f k a0 a1 a2 a3 a4 a5) (spec_Miller.f (k + 1) a0 a1 a2 a3 a4 a5) := by
 intro a0 a1 a2 a3 a4 a5 k
 have ih0 := spec_Miller.mono_l k
 unfold spec_Miller.f
 repeat' first
   | (with_reducible exact ih0 _ _ _ _ _ _ _ _ _ _ _ _)
   | (with_reducible exact spec_PairLine.mono _ _ _ _ _ _ _ _ _ _)
   | (with_reducible exact spec_PointAdd.mono _ _ _ _ _ _ _)
   | (with_reducible exact LeO.refl _)
   | (with_reducible exact LeO.none _)
   | (with_reducible refine LeO.ite ?_ ?_)
   | (with_reducible refine LeO.bind ?_ (fun _ => ?_))
   | exact ih0 _ _ _ _ _ _ _ _ _ _ _ _
   | exact spec_PairLine.mono _ _ _ _ _ _ _ _ _ _
   | exact spec_PointAdd.mono _ _ _ _ _ _ _
   | exact LeO.none _
   | refine LeO.ite ?_ ?_
   | refine LeO.bind ?_ (fun _ => ?_)
def spec_Miller.T6 : Bool × List (List Nat × List Nat) := (true, [([], []), ([], []), ([0, 1], [0, 1]), ([], []), ([], []), ([], []), ([3, 4, 5, 2], [3, 4, 5]), ([2, 6, 6], [2, 6]), ([7, 7, 0, 1, 2, 3, 4, 5, 6, 7], [7])])
def spec_Miller.B6 : List Nat := [0, 0, 3, 0, 0, 0, 63, 127, 255]
theorem spec_Miller.tab6 : rtab .any (opsOf Try.f39 6) = spec_Miller.T6 := by kernel_rfl
theorem spec_Miller.bits6 : waitsOk spec_Miller.T6.2 spec_Miller.B6 = true := by kernel_rfl
set_option maxHeartbeats 8000000 in
set_option maxRecDepth 100000 in
theorem spec_Miller.calls (k : Nat) (a0_0 : Int) (a0_1 : Int) (a0_2 : Bool) (a1_0 : Int) (a1_1 : Int) (a1_2 : Bool) (r1 : Int) (r2 : Int) (w : World) (h : spec_Miller.f k a0_0 a0_1 a0_2 a1_0 a1_1 a1_2 = some (r1, r2)) :
  Calls Try.prog 39 #[.agg #[.int .i64 a0_0, .int .i64 a0_1, .bool a0_2], .agg #[.int .i64 a1_0, .int .i64 a1_1, .bool a1_2]] w fun e w' => e = .returned (.agg #[.int .i64 r1, .int .i64 r2]) ∧ Below w.heap.size w w' := by
 have hu25 := Try.underlying25
 have hu31 := Try.underlying31
 have HB := Aside0.mk (Below.refl w.heap.size w)
 have H : (spec_Miller.l0 k 8 a0_0 a0_1 a0_2 a1_0 a1_1 a1_2 1 0 a0_0 a0_1 a0_2) = some (r1, r2) := h
 clear h
 have H' := Aside0.mk H
 clear H
 go_enter Try.func39, Try.ntmps39
 go_wp2_with (first | ((with_reducible refine gate_dst (N := 2) rfl ?_); refine box_event ?hg (N := 2) ?hd (cs := #[.int .i64 a0_0, .int .i64 a0_1, .bool a0_2]) (t := 25) ?hr ?_; (case hd => rfl); (case hg => rfl); (case hr => first | (go_simp; done) | (go_simp; rfl)); intro gb451 hg w3 hbox hb; have BK451 := Aside0.mk (hbox); have GW451 := bG HB hg; have GE451 := bG HB hg; replace HB := bS HB hb; clear hb hbox hg) | ((with_reducible refine gate_dst (N := 3) rfl ?_); refine box_event ?hg (N := 3) ?hd (cs := #[.int .i64 a1_0, .int .i64 a1_1, .bool a1_2]) (t := 25) ?hr ?_; (case hd => rfl); (case hg => rfl); (case hr => first | (go_simp; done) | (go_simp; rfl)); intro gb452 hg w4 hbox hb; have BK452 := Aside0.mk (hbox); have GW452 := bG HB hg; have GE452 := bG HB hg; replace HB := bS HB hb; have NB451_452 := bL BK451 hg; have NB452_451 := bR BK451 hg; replace BK451 := bB BK451 hb; clear hb hbox hg) | ((with_reducible refine gate_dst (N := 4) rfl ?_); refine box_event ?hg (N := 4) ?hd (cs := #[.int .i64 0, .int .i64 0]) (t := 31) ?hr ?_; (case hd => rfl); (case hg => rfl); (case hr => first | (go_simp; done) | (go_simp; rfl)); intro gb453 hg w5 hbox hb; have BK453 := Aside0.mk (hbox); have GW453 := bG HB hg; have GE453 := bG HB hg; replace HB := bS HB hb; have NB451_453 := bL BK451 hg; have NB453_451 := bR BK451 hg; replace BK451 := bB BK451 hb; have NB452_453 := bL BK452 hg; have NB453_452 := bR BK452 hg; replace BK452 := bB BK452 hb; clear hb hbox hg) | ((with_reducible refine gate_dst (N := 5) rfl ?_); refine box_event ?hg (N := 5) ?hd (cs := #[.int .i64 0, .int .i64 0]) (t := 31) ?hr ?_; (case hd => rfl); (case hg => rfl); (case hr => first | (go_simp; done) | (go_simp; rfl)); intro gb454 hg w6 hbox hb; have BK454 := Aside0.mk (hbox); have GW454 := bG HB hg; have GE454 := bG HB hg; replace HB := bS HB hb; have NB451_454 := bL BK451 hg; have NB454_451 := bR BK451 hg; replace BK451 := bB BK451 hb; have NB452_454 := bL BK452 hg; have NB454_452 := bR BK452 hg; replace BK452 := bB BK452 hb; have NB453_454 := bL BK453 hg; have NB454_453 := bR BK453 hg; replace BK453 := bB BK453 hb; clear hb hbox hg; have hnb7 := NB454_451.out; have hnc7 := NB451_454.out; have hnb8 := NB454_452.out; have hnc8 := NB452_454.out; have hnb9 := NB454_453.out; have hnc9 := NB453_454.out; have hcz10_0 : w6.cell? ⟨gb454, 0, none⟩ = some (.int .i64 0) := bc BK454 0; have hcz10_1 : w6.cell? ⟨gb454, 1, none⟩ = some (.int .i64 0) := bc BK454 1; have hfz10_0 := blk_frozen BK454.out 0; have hfz10_1 := blk_frozen BK454.out 1; have hnb11 := NB451_452.out; have hnc11 := NB452_451.out; have hnb12 := NB451_453.out; have hnc12 := NB453_451.out; have hcz13_0 : w6.cell? ⟨gb451, 0, none⟩ = some (.int .i64 a0_0) := bc BK451 0; have hcz13_1 : w6.cell? ⟨gb451, 1, none⟩ = some (.int .i64 a0_1) := bc BK451 1; have hcz13_2 : w6.cell? ⟨gb451, 2, none⟩ = some (.bool a0_2) := bc BK451 2; have hfz13_0 := blk_frozen BK451.out 0; have hfz13_1 := blk_frozen BK451.out 1; have hfz13_2 := blk_frozen BK451.out 2) | ((with_reducible refine gate_dst (N := 6) rfl ?_); refine box_event ?hg (N := 6) ?hd (cs := #[.int .i64 0, .int .i64 0, .bool false]) (t := 25) ?hr ?_; (case hd => rfl); (case hg => rfl); (case hr => first | (go_simp; done) | (go_simp; rfl)); intro gb455 hg w14 hbox hb; have BK455 := Aside0.mk (hbox); have GW455 := bG HB hg; have GE455 := bG HB hg; replace HB := bS HB hb; have NB451_455 := bL BK451 hg; have NB455_451 := bR BK451 hg; replace BK451 := bB BK451 hb; have NB452_455 := bL BK452 hg; have NB455_452 := bR BK452 hg; replace BK452 := bB BK452 hb; have NB453_455 := bL BK453 hg; have NB455_453 := bR BK453 hg; replace BK453 := bB BK453 hb; have NB454_455 := Aside0.mk ((by rw [hg]; exact Nat.ne_of_lt (blk_lt (g := gb454) (o := .cells #[.int .i64 1, .int .i64 0] 31 (0, 0)) (by (with_reducible repeat (first | refine blk_drewN ?_ _ | refine blk_drew ?_ | refine blk_alloc ?_ _)); refine blk_put (cs := #[.int .i64 1, .int .i64 0]) ?_ 1 _ rfl; (with_reducible repeat (first | refine blk_drewN ?_ _ | refine blk_drew ?_ | refine blk_alloc ?_ _)); refine blk_put (cs := #[.int .i64 0, .int .i64 0]) ?_ 0 _ rfl; (with_reducible repeat (first | refine blk_drewN ?_ _ | refine blk_drew ?_ | refine blk_alloc ?_ _)); exact BK454.out)) : gb454 ≠ gb455)); have NB455_454 := Aside0.mk ((by rw [hg]; exact Nat.ne_of_gt (blk_lt (g := gb454) (o := .cells #[.int .i64 1, .int .i64 0] 31 (0, 0)) (by (with_reducible repeat (first | refine blk_drewN ?_ _ | refine blk_drew ?_ | refine blk_alloc ?_ _)); refine blk_put (cs := #[.int .i64 1, .int .i64 0]) ?_ 1 _ rfl; (with_reducible repeat (first | refine blk_drewN ?_ _ | refine blk_drew ?_ | refine blk_alloc ?_ _)); refine blk_put (cs := #[.int .i64 0, .int .i64 0]) ?_ 0 _ rfl; (with_reducible repeat (first | refine blk_drewN ?_ _ | refine blk_drew ?_ | refine blk_alloc ?_ _)); exact BK454.out)) : gb455 ≠ gb454)); replace BK454 := Aside0.mk (blk_below (g := gb454) (o := .cells #[.int .i64 1, .int .i64 0] 31 (0, 0)) (by (with_reducible repeat (first | refine blk_drewN ?_ _ | refine blk_drew ?_ | refine blk_alloc ?_ _)); refine blk_put (cs := #[.int .i64 1, .int .i64 0]) ?_ 1 _ rfl; (with_reducible repeat (first | refine blk_drewN ?_ _ | refine blk_drew ?_ | refine blk_alloc ?_ _)); refine blk_put (cs := #[.int .i64 0, .int .i64 0]) ?_ 0 _ rfl; (with_reducible repeat (first | refine blk_drewN ?_ _ | refine blk_drew ?_ | refine blk_alloc ?_ _)); exact BK454.out) hb); clear hb hbox hg; have hnb15 := NB455_451.out; have hnc15 := NB451_455.out; have hnb16 := NB455_452.out; have hnc16 := NB452_455.out; have hnb17 := NB455_453.out; have hnc17 := NB453_455.out; have hnb18 := NB455_454.out; have hnc18 := NB454_455.out; have hcz19_0 : w14.cell? ⟨gb455, 0, none⟩ = some (.int .i64 0) := bc BK455 0; have hcz19_1 : w14.cell? ⟨gb455, 1, none⟩ = some (.int .i64 0) := bc BK455 1; have hcz19_2 : w14.cell? ⟨gb455, 2, none⟩ = some (.bool false) := bc BK455 2; have hfz19_0 := blk_frozen BK455.out 0; have hfz19_1 := blk_frozen BK455.out 1; have hfz19_2 := blk_frozen BK455.out 2))
 go_loopg [7] k (fun kq v7 w' => ∃ (x7_1 : Int) (x455000_1 : Int) (x455001_1 : Int) (x456000_1 : Int) (x456001_1 : Int) (x456002_1 : Bool), v7 = .int .i64 x7_1 ∧ Aside0 (spec_Miller.l0 kq x7_1 a0_0 a0_1 a0_2 a1_0 a1_1 a1_2 x455000_1 x455001_1 x456000_1 x456001_1 x456002_1 = some (r1, r2)) ∧ Aside0 (kq ≤ k) ∧ Aside0 (w'.heap[gb451]? = some (.cells #[.int .i64 a0_0, .int .i64 a0_1, .bool a0_2] 25 (0, 0))) ∧ Aside0 (w'.heap[gb452]? = some (.cells #[.int .i64 a1_0, .int .i64 a1_1, .bool a1_2] 25 (0, 0))) ∧ Aside0 (w'.heap[gb453]? = some (.cells #[.int .i64 0, .int .i64 0] 31 (0, 0))) ∧ Aside0 (w'.heap[gb454]? = some (.cells #[.int .i64 x455000_1, .int .i64 x455001_1] 31 (0, 0))) ∧ Aside0 (w'.heap[gb455]? = some (.cells #[.int .i64 x456000_1, .int .i64 x456001_1, .bool x456002_1] 25 (0, 0))) ∧ Aside0 (Below w.heap.size w w'))
 case atStart => exact ⟨(8), (1), (0), (a0_0), (a0_1), (a0_2), (by first | rfl | (simp; done) | (simp [*]; done)), H', ⟨Nat.le_refl _⟩, ⟨bP BK451⟩, ⟨bP BK452⟩, ⟨bP BK453⟩, ⟨bP BK454⟩, ⟨by (with_reducible repeat (first | refine blk_drewN ?_ _ | refine blk_drew ?_ | refine blk_alloc ?_ _)); refine blk_put (cs := #[.int .i64 a0_0, .int .i64 a0_1, .bool false]) ?_ 2 _ rfl; (with_reducible repeat (first | refine blk_drewN ?_ _ | refine blk_drew ?_ | refine blk_alloc ?_ _)); refine blk_put (cs := #[.int .i64 a0_0, .int .i64 0, .bool false]) ?_ 1 _ rfl; (with_reducible repeat (first | refine blk_drewN ?_ _ | refine blk_drew ?_ | refine blk_alloc ?_ _)); refine blk_put (cs := #[.int .i64 0, .int .i64 0, .bool false]) ?_ 0 _ rfl; (with_reducible repeat (first | refine blk_drewN ?_ _ | refine blk_drew ?_ | refine blk_alloc ?_ _)); exact BK455.out⟩, ⟨bZ HB⟩⟩
 case round =>
  clear H'
  try clear c1
  try clear p2
  try clear c3
  try clear c7
  try clear c8
  try clear c9
  try clear c11
  try clear c12
  try clear c15
  try clear c16
  try clear c17
  try clear c18
  try clear hcz10_0
  try clear hcz10_1
  try clear hcz13_0
  try clear hcz13_1
  try clear hcz13_2
  try clear hcz19_0
  try clear hcz19_1
  try clear hcz19_2
  try clear hfz10_0
  try clear hfz10_1
  try clear hfz13_0
  try clear hfz13_1
  try clear hfz13_2
  try clear hfz19_0
  try clear hfz19_1
  try clear hfz19_2
  obtain ⟨x7_1, x455000_1, x455001_1, x456000_1, x456001_1, x456002_1, rfl, HA, HK1, BK451, BK452, BK453, BK454, BK455, HB⟩ := hrel
  cases gk with
  | zero => exact absurd HA.out (by simp [spec_Miller.l0])
  | succ k1 =>
   have H := HA.out
   clear HA
   simp only [spec_Miller.l0] at H
   by_cases c20 : x7_1 ≥ 0
   ·rw [if_pos c20] at H
    have c20b0 : decide (0 ≤ x7_1) = true := decide_eq_true c20
    clear c20
    replace H := Option.bind_eq_some_iff.mp H
    obtain ⟨⟨t456, t457⟩, A210, H⟩ := H
    replace H : ((spec_PairLine.f k1 x456000_1 x456001_1 x456002_1 x456000_1 x456001_1 x456002_1 a1_0 a1_1 a1_2).bind fun bt458 => ((spec_TwoMul.f t456 t457 bt458.1 bt458.2).bind fun bt460 => ((spec_PointAdd.f k1 x456000_1 x456001_1 x456002_1 x456000_1 x456001_1 x456002_1).bind fun bt462 => (if 0 ≤ (IntKind.u64.wrap (x7_1)) then (if ((shr .i64 1009 (IntKind.u64.wrap (x7_1))) % 2) = 1 then ((spec_PairLine.f k1 bt462.1 bt462.2.1 bt462.2.2 a0_0 a0_1 a0_2 a1_0 a1_1 a1_2).bind fun bt465 => ((spec_TwoMul.f bt460.1 bt460.2 bt465.1 bt465.2).bind fun bt467 => ((spec_PointAdd.f k1 bt462.1 bt462.2.1 bt462.2.2 a0_0 a0_1 a0_2).bind fun bt469 => (spec_Miller.l0 k1 (wrap64 (x7_1 - 1)) a0_0 a0_1 a0_2 a1_0 a1_1 a1_2 bt467.1 bt467.2 bt469.1 bt469.2.1 bt469.2.2)))) else (spec_Miller.l0 k1 (wrap64 (x7_1 - 1)) a0_0 a0_1 a0_2 a1_0 a1_1 a1_2 bt460.1 bt460.2 bt462.1 bt462.2.1 bt462.2.2)) else (none))))) = some (r1, r2) := H
    have A21 := Aside0.mk A210
    clear A210
    replace H := Option.bind_eq_some_iff.mp H
    obtain ⟨⟨t458, t459⟩, A220, H⟩ := H
    replace H : ((spec_TwoMul.f t456 t457 t458 t459).bind fun bt460 => ((spec_PointAdd.f k1 x456000_1 x456001_1 x456002_1 x456000_1 x456001_1 x456002_1).bind fun bt462 => (if 0 ≤ (IntKind.u64.wrap (x7_1)) then (if ((shr .i64 1009 (IntKind.u64.wrap (x7_1))) % 2) = 1 then ((spec_PairLine.f k1 bt462.1 bt462.2.1 bt462.2.2 a0_0 a0_1 a0_2 a1_0 a1_1 a1_2).bind fun bt465 => ((spec_TwoMul.f bt460.1 bt460.2 bt465.1 bt465.2).bind fun bt467 => ((spec_PointAdd.f k1 bt462.1 bt462.2.1 bt462.2.2 a0_0 a0_1 a0_2).bind fun bt469 => (spec_Miller.l0 k1 (wrap64 (x7_1 - 1)) a0_0 a0_1 a0_2 a1_0 a1_1 a1_2 bt467.1 bt467.2 bt469.1 bt469.2.1 bt469.2.2)))) else (spec_Miller.l0 k1 (wrap64 (x7_1 - 1)) a0_0 a0_1 a0_2 a1_0 a1_1 a1_2 bt460.1 bt460.2 bt462.1 bt462.2.1 bt462.2.2)) else (none)))) = some (r1, r2) := H
    have A22 := Aside0.mk A220
    clear A220
    replace H := Option.bind_eq_some_iff.mp H
    obtain ⟨⟨t460, t461⟩, A230, H⟩ := H
    replace H : ((spec_PointAdd.f k1 x456000_1 x456001_1 x456002_1 x456000_1 x456001_1 x456002_1).bind fun bt462 => (if 0 ≤ (IntKind.u64.wrap (x7_1)) then (if ((shr .i64 1009 (IntKind.u64.wrap (x7_1))) % 2) = 1 then ((spec_PairLine.f k1 bt462.1 bt462.2.1 bt462.2.2 a0_0 a0_1 a0_2 a1_0 a1_1 a1_2).bind fun bt465 => ((spec_TwoMul.f t460 t461 bt465.1 bt465.2).bind fun bt467 => ((spec_PointAdd.f k1 bt462.1 bt462.2.1 bt462.2.2 a0_0 a0_1 a0_2).bind fun bt469 => (spec_Miller.l0 k1 (wrap64 (x7_1 - 1)) a0_0 a0_1 a0_2 a1_0 a1_1 a1_2 bt467.1 bt467.2 bt469.1 bt469.2.1 bt469.2.2)))) else (spec_Miller.l0 k1 (wrap64 (x7_1 - 1)) a0_0 a0_1 a0_2 a1_0 a1_1 a1_2 t460 t461 bt462.1 bt462.2.1 bt462.2.2)) else (none))) = some (r1, r2) := H
    have A23 := Aside0.mk A230
    clear A230
    replace H := Option.bind_eq_some_iff.mp H
    obtain ⟨⟨t462, t463, t464⟩, A240, H⟩ := H
    replace H : (if 0 ≤ (IntKind.u64.wrap (x7_1)) then (if ((shr .i64 1009 (IntKind.u64.wrap (x7_1))) % 2) = 1 then ((spec_PairLine.f k1 t462 t463 t464 a0_0 a0_1 a0_2 a1_0 a1_1 a1_2).bind fun bt465 => ((spec_TwoMul.f t460 t461 bt465.1 bt465.2).bind fun bt467 => ((spec_PointAdd.f k1 t462 t463 t464 a0_0 a0_1 a0_2).bind fun bt469 => (spec_Miller.l0 k1 (wrap64 (x7_1 - 1)) a0_0 a0_1 a0_2 a1_0 a1_1 a1_2 bt467.1 bt467.2 bt469.1 bt469.2.1 bt469.2.2)))) else (spec_Miller.l0 k1 (wrap64 (x7_1 - 1)) a0_0 a0_1 a0_2 a1_0 a1_1 a1_2 t460 t461 t462 t463 t464)) else (none)) = some (r1, r2) := H
    have A24 := Aside0.mk A240
    clear A240
    obtain ⟨ji25, hji25⟩ : ∃ j_ : Int, (IntKind.u64.wrap (x7_1)) = j_ := ⟨_, rfl⟩
    replace H : (if 0 ≤ (ji25) then (if ((shr .i64 1009 (ji25)) % 2) = 1 then ((spec_PairLine.f k1 t462 t463 t464 a0_0 a0_1 a0_2 a1_0 a1_1 a1_2).bind fun bt465 => ((spec_TwoMul.f t460 t461 bt465.1 bt465.2).bind fun bt467 => ((spec_PointAdd.f k1 t462 t463 t464 a0_0 a0_1 a0_2).bind fun bt469 => (spec_Miller.l0 k1 (wrap64 (x7_1 - 1)) a0_0 a0_1 a0_2 a1_0 a1_1 a1_2 bt467.1 bt467.2 bt469.1 bt469.2.1 bt469.2.2)))) else (spec_Miller.l0 k1 (wrap64 (x7_1 - 1)) a0_0 a0_1 a0_2 a1_0 a1_1 a1_2 t460 t461 t462 t463 t464)) else (none)) = some (r1, r2) := by first | (rw [hji25] at H; exact H) | (simp only [hji25] at H ⊢; exact H)
    (try rw [hji25] at A21)
    (try rw [hji25] at A22)
    (try rw [hji25] at A23)
    (try rw [hji25] at A24)
    by_cases c26 : 0 ≤ (ji25)
    ·rw [if_pos c26] at H
     have c26b0 := eq_true c26
     have c26b1 : decide (0 ≤ (ji25)) = true := decide_eq_true c26
     clear c26
     obtain ⟨ji27, hji27⟩ : ∃ j_ : Int, (shr .i64 1009 (ji25)) = j_ := ⟨_, rfl⟩
     replace H : (if ((ji27) % 2) = 1 then ((spec_PairLine.f k1 t462 t463 t464 a0_0 a0_1 a0_2 a1_0 a1_1 a1_2).bind fun bt465 => ((spec_TwoMul.f t460 t461 bt465.1 bt465.2).bind fun bt467 => ((spec_PointAdd.f k1 t462 t463 t464 a0_0 a0_1 a0_2).bind fun bt469 => (spec_Miller.l0 k1 (wrap64 (x7_1 - 1)) a0_0 a0_1 a0_2 a1_0 a1_1 a1_2 bt467.1 bt467.2 bt469.1 bt469.2.1 bt469.2.2)))) else (spec_Miller.l0 k1 (wrap64 (x7_1 - 1)) a0_0 a0_1 a0_2 a1_0 a1_1 a1_2 t460 t461 t462 t463 t464)) = some (r1, r2) := by first | (rw [hji27] at H; exact H) | (simp only [hji27] at H ⊢; exact H)
     (try rw [hji27] at A21)
     (try rw [hji27] at A22)
     (try rw [hji27] at A23)
     (try rw [hji27] at A24)
     have hji27_ : (1009 / 2 ^ min (ji25).toNat 64) = ji27 := hji27
     have hji27z : (ji25) ≤ 64 → (1009 / 2 ^ (ji25).toNat) = ji27 := shr_small hji27
     have hji27t : ∀ m_ : Int, Int.tmod ji27 m_ = ji27 % m_ := fun m_ => Int.tmod_eq_emod_of_nonneg (by rw [← hji27_]; exact Int.ediv_nonneg (by decide) (Int.le_of_lt (Int.pow_pos (by decide))))
     by_cases c28 : ((ji27) % 2) = 1
     ·rw [if_pos c28] at H
      have c28b0 : (((ji27) % 2) == 1) = true := beq_iff_eq.mpr c28
      have c28b1 : (((ji27) % 2) != 1) = false := bne_eq_false_iff_eq.mpr c28
      clear c28
      replace H := Option.bind_eq_some_iff.mp H
      obtain ⟨⟨t465, t466⟩, A290, H⟩ := H
      replace H : ((spec_TwoMul.f t460 t461 t465 t466).bind fun bt467 => ((spec_PointAdd.f k1 t462 t463 t464 a0_0 a0_1 a0_2).bind fun bt469 => (spec_Miller.l0 k1 (wrap64 (x7_1 - 1)) a0_0 a0_1 a0_2 a1_0 a1_1 a1_2 bt467.1 bt467.2 bt469.1 bt469.2.1 bt469.2.2))) = some (r1, r2) := H
      have A29 := Aside0.mk A290
      clear A290
      replace H := Option.bind_eq_some_iff.mp H
      obtain ⟨⟨t467, t468⟩, A300, H⟩ := H
      replace H : ((spec_PointAdd.f k1 t462 t463 t464 a0_0 a0_1 a0_2).bind fun bt469 => (spec_Miller.l0 k1 (wrap64 (x7_1 - 1)) a0_0 a0_1 a0_2 a1_0 a1_1 a1_2 t467 t468 bt469.1 bt469.2.1 bt469.2.2)) = some (r1, r2) := H
      have A30 := Aside0.mk A300
      clear A300
      replace H := Option.bind_eq_some_iff.mp H
      obtain ⟨⟨t469, t470, t471⟩, A310, H⟩ := H
      replace H : (spec_Miller.l0 k1 (wrap64 (x7_1 - 1)) a0_0 a0_1 a0_2 a1_0 a1_1 a1_2 t467 t468 t469 t470 t471) = some (r1, r2) := H
      have A31 := Aside0.mk A310
      clear A310
      have H' := Aside0.mk H
      clear H
      try go_wp2
      replace BK451 := Aside0.mk (blk_drew BK451.out)
      replace BK452 := Aside0.mk (blk_drew BK452.out)
      replace BK453 := Aside0.mk (blk_drew BK453.out)
      replace BK454 := Aside0.mk (blk_drew BK454.out)
      replace BK455 := Aside0.mk (blk_drew BK455.out)
      replace HB := Aside0.mk (below_drew1 HB.out)
      refine start_ (n := 9) (S := fun w' => w'.cell? ⟨gb454, 0, none⟩ = some (.int .i64 x455000_1) ∧ w'.cell? ⟨gb454, 1, none⟩ = some (.int .i64 x455001_1) ∧ w'.cell? ⟨gb455, 0, none⟩ = some (.int .i64 x456000_1) ∧ w'.cell? ⟨gb455, 1, none⟩ = some (.int .i64 x456001_1) ∧ w'.cell? ⟨gb455, 2, none⟩ = some (.bool x456002_1) ∧ w'.cell? ⟨gb452, 0, none⟩ = some (.int .i64 a1_0) ∧ w'.cell? ⟨gb452, 1, none⟩ = some (.int .i64 a1_1) ∧ w'.cell? ⟨gb452, 2, none⟩ = some (.bool a1_2)) (ds := [8]) #[false, false, false, false, false, false, false, false, false] (by kernel_rfl) rfl rfl ⟨bc BK454 0, bc BK454 1, bc BK455 0, bc BK455 1, bc BK455 2, bc BK452 0, bc BK452 1, bc BK452 2⟩ (fun hHeld => ?_); refine with_tabW spec_Miller.tab6 spec_Miller.bits6 (fun HT_ HW_ => ?_)
      generalize wr.drew = w32 at BK451 BK452 BK453 BK454 BK455 HB hHeld ⊢
      refine take_ (i := 0) (N := some 14) (v := ?_) (a' := ?_) #[true, false, false, false, false, false, false, false, false] rfl rfl (take_ofW HT_.out HW_.out (by kernel_rfl)) (fun _ _ _ h => h) (Or.inl ⟨by rfl, ?_⟩) hHeld ?_ ?_
      rotate_left
      ·rintro w' ⟨s0, s1, s2, s3, s4, s5, s6, s7⟩
       go_simp
       with_reducible rfl
      rotate_left
      ·simp only [Act.put, List.setIfInBounds_toArray, List.set_cons_zero, List.set_cons_succ, i64_w, i32_w]
       rfl
      refine take_ (i := 1) (N := some 15) (v := ?_) (a' := ?_) #[true, true, false, false, false, false, false, false, false] rfl rfl (take_ofW HT_.out HW_.out (by kernel_rfl)) (fun _ _ _ h => h) (Or.inl ⟨by rfl, ?_⟩) hHeld ?_ ?_
      rotate_left
      ·rintro w' ⟨s0, s1, s2, s3, s4, s5, s6, s7⟩
       go_simp
       with_reducible rfl
      rotate_left
      ·simp only [Act.put, List.setIfInBounds_toArray, List.set_cons_zero, List.set_cons_succ, i64_w, i32_w]
       rfl
      refine take_ (i := 3) (N := some 17) (v := ?_) (a' := ?_) #[true, true, false, true, false, false, false, false, false] rfl rfl (take_ofW HT_.out HW_.out (by kernel_rfl)) (fun _ _ _ h => h) (Or.inl ⟨by rfl, ?_⟩) hHeld ?_ ?_
      rotate_left
      ·rintro w' ⟨s0, s1, s2, s3, s4, s5, s6, s7⟩
       go_simp
       with_reducible rfl
      rotate_left
      ·simp only [Act.put, List.setIfInBounds_toArray, List.set_cons_zero, List.set_cons_succ, i64_w, i32_w]
       rfl
      refine take_ (i := 4) (N := some 18) (v := ?_) (a' := ?_) #[true, true, false, true, true, false, false, false, false] rfl rfl (take_ofW HT_.out HW_.out (by kernel_rfl)) (fun _ _ _ h => h) (Or.inl ⟨by rfl, ?_⟩) hHeld ?_ ?_
      rotate_left
      ·rintro w' ⟨s0, s1, s2, s3, s4, s5, s6, s7⟩
       go_simp
       with_reducible rfl
      rotate_left
      ·simp only [Act.put, List.setIfInBounds_toArray, List.set_cons_zero, List.set_cons_succ, i64_w, i32_w]
       rfl
      refine take_ (i := 5) (N := some 19) (v := ?_) (a' := ?_) #[true, true, false, true, true, true, false, false, false] rfl rfl (take_ofW HT_.out HW_.out (by kernel_rfl)) (fun _ _ _ h => h) (Or.inl ⟨by rfl, ?_⟩) hHeld ?_ ?_
      rotate_left
      ·rintro w' ⟨s0, s1, s2, s3, s4, s5, s6, s7⟩
       go_simp
       with_reducible rfl
      rotate_left
      ·simp only [Act.put, List.setIfInBounds_toArray, List.set_cons_zero, List.set_cons_succ, i64_w, i32_w]
       rfl
      refine one_ (i := 2) (N := some 16) #[true, true, true, true, true, true, false, false, false] rfl rfl (one_of HT_.out (by kernel_rfl)) (by decide) (fun K hK => ?_)
      refine goes_ Try.func71 (by kernel_rfl) rfl #[.agg #[.int .i64 x455000_1, .int .i64 x455001_1], .agg #[.int .i64 x455000_1, .int .i64 x455001_1]] (by rfl) rfl rfl (by (try simp only [List.map_toArray, List.map_cons, List.map_nil]); first | done | rfl | (simp only [List.length_drop, List.length_take]; rfl)) ?_
      with_reducible refine (spec_TwoMul.calls x455000_1 x455001_1 x455000_1 x455001_1 t456 t457 _ A21.out).mono ?_
      rintro e w33 ⟨rfl, hb⟩
      refine ⟨_, rfl, ?_⟩
      replace BK451 := bB BK451 hb
      replace BK452 := bB BK452 hb
      replace BK453 := bB BK453 hb
      replace BK454 := bB BK454 hb
      replace BK455 := bB BK455 hb
      replace HB := bS HB hb
      (try clear hb)
      (try clear hb2)
      (try clear hk)
      (try clear hi)
      refine hK.out _ _ ⟨bc BK454 0, bc BK454 1, bc BK455 0, bc BK455 1, bc BK455 2, bc BK452 0, bc BK452 1, bc BK452 2⟩ (fun hHeld => ?_)
      clear hK K
      refine norm_ (a' := ?_) ?_ ?_
      rotate_left
      ·show Act.put _ (some 16) _ = _
       simp only [Act.put, List.setIfInBounds_toArray, List.set_cons_zero, List.set_cons_succ, i64_w, i32_w]
       rfl
      refine one_ (i := 6) (N := some 20) #[true, true, true, true, true, true, true, false, false] rfl rfl (one_of HT_.out (by kernel_rfl)) (by decide) (fun K hK => ?_)
      refine goes_ Try.func23 (by kernel_rfl) rfl #[.agg #[.int .i64 x456000_1, .int .i64 x456001_1, .bool x456002_1], .agg #[.int .i64 x456000_1, .int .i64 x456001_1, .bool x456002_1], .agg #[.int .i64 a1_0, .int .i64 a1_1, .bool a1_2]] (by rfl) rfl rfl (by (try simp only [List.map_toArray, List.map_cons, List.map_nil]); first | done | rfl | (simp only [List.length_drop, List.length_take]; rfl)) ?_
      with_reducible refine (spec_PairLine.calls k1 x456000_1 x456001_1 x456002_1 x456000_1 x456001_1 x456002_1 a1_0 a1_1 a1_2 t458 t459 _ A22.out).mono ?_
      rintro e w34 ⟨rfl, hb⟩
      refine ⟨_, rfl, ?_⟩
      replace BK451 := bB BK451 hb
      replace BK452 := bB BK452 hb
      replace BK453 := bB BK453 hb
      replace BK454 := bB BK454 hb
      replace BK455 := bB BK455 hb
      replace HB := bS HB hb
      (try clear hb)
      (try clear hb2)
      (try clear hk)
      (try clear hi)
      refine hK.out _ _ ⟨bc BK454 0, bc BK454 1, bc BK455 0, bc BK455 1, bc BK455 2, bc BK452 0, bc BK452 1, bc BK452 2⟩ (fun hHeld => ?_)
      clear hK K
      refine norm_ (a' := ?_) ?_ ?_
      rotate_left
      ·show Act.put _ (some 20) _ = _
       simp only [Act.put, List.setIfInBounds_toArray, List.set_cons_zero, List.set_cons_succ, i64_w, i32_w]
       rfl
      refine one_ (i := 7) (N := some 21) #[true, true, true, true, true, true, true, true, false] rfl rfl (one_of HT_.out (by kernel_rfl)) (by decide) (fun K hK => ?_)
      refine goes_ Try.func71 (by kernel_rfl) rfl #[.agg #[.int .i64 t456, .int .i64 t457], .agg #[.int .i64 t458, .int .i64 t459]] (by rfl) rfl rfl (by (try simp only [List.map_toArray, List.map_cons, List.map_nil]); first | done | rfl | (simp only [List.length_drop, List.length_take]; rfl)) ?_
      with_reducible refine (spec_TwoMul.calls t456 t457 t458 t459 t460 t461 _ A23.out).mono ?_
      rintro e w35 ⟨rfl, hb⟩
      refine ⟨_, rfl, ?_⟩
      replace BK451 := bB BK451 hb
      replace BK452 := bB BK452 hb
      replace BK453 := bB BK453 hb
      replace BK454 := bB BK454 hb
      replace BK455 := bB BK455 hb
      replace HB := bS HB hb
      (try clear hb)
      (try clear hb2)
      (try clear hk)
      (try clear hi)
      refine hK.out _ _ ⟨bc BK454 0, bc BK454 1, bc BK455 0, bc BK455 1, bc BK455 2, bc BK452 0, bc BK452 1, bc BK452 2⟩ (fun hHeld => ?_)
      clear hK K
      refine norm_ (a' := ?_) ?_ ?_
      rotate_left
      ·show Act.put _ (some 21) _ = _
       simp only [Act.put, List.setIfInBounds_toArray, List.set_cons_zero, List.set_cons_succ, i64_w, i32_w]
       rfl
      refine last_ (i := 8) (N := none) #[true, true, true, true, true, true, true, true, true] rfl rfl (one_of HT_.out (by kernel_rfl)) (by decide) (fun K hK => ?_)
      have hs36 : w35.cell? ⟨gb454, 0, none⟩ = some (.int .i64 x455000_1) := bc BK454 0
      have hfs36 := blk_frozen BK454.out 0
      have hns36_0 := NB451_454.out
      have hns36_1 := NB452_454.out
      have hns36_2 := NB453_454.out
      have hns36_4 := NB455_454.out
      have hms36_0 := NB454_451.out
      have hms36_1 := NB454_452.out
      have hms36_2 := NB454_453.out
      have hms36_4 := NB454_455.out
      have hs37 : w35.cell? ⟨gb454, 1, none⟩ = some (.int .i64 x455001_1) := bc BK454 1
      have hfs37 := blk_frozen BK454.out 1
      have hns37_0 := NB451_454.out
      have hns37_1 := NB452_454.out
      have hns37_2 := NB453_454.out
      have hns37_4 := NB455_454.out
      have hms37_0 := NB454_451.out
      have hms37_1 := NB454_452.out
      have hms37_2 := NB454_453.out
      have hms37_4 := NB454_455.out
      refine skip_ (w1 := ?_) (by rfl) rfl ?_ ?_
      rotate_left
      ·go_simp
       rfl
      refine hK.out _ _ ?_
      clear hK K
      refine done_ (done_of HT_.out (by kernel_rfl)) ?_
      have hnb38 := NB455_451.out
      have hnc38 := NB451_455.out
      have hnb39 := NB455_452.out
      have hnc39 := NB452_455.out
      have hnb40 := NB455_453.out
      have hnc40 := NB453_455.out
      have hnb41 := NB455_454.out
      have hnc41 := NB454_455.out
      have hcz42_0 : w35.cell? ⟨gb455, 0, none⟩ = some (.int .i64 x456000_1) := bc BK455 0
      have hcz42_1 : w35.cell? ⟨gb455, 1, none⟩ = some (.int .i64 x456001_1) := bc BK455 1
      have hcz42_2 : w35.cell? ⟨gb455, 2, none⟩ = some (.bool x456002_1) := bc BK455 2
      have hfz42_0 := blk_frozen BK455.out 0
      have hfz42_1 := blk_frozen BK455.out 1
      have hfz42_2 := blk_frozen BK455.out 2
      try go_wp2_with (first | ((with_reducible refine gate_callee (f := 53) rfl ?_); refine goesL_ (some 24) rfl rfl Try.func53 (by kernel_rfl) rfl #[.agg #[.int .i64 x456000_1, .int .i64 x456001_1, .bool x456002_1], .agg #[.int .i64 x456000_1, .int .i64 x456001_1, .bool x456002_1]] rfl (by (try simp only [List.map_toArray, List.map_cons, List.map_nil]); first | done | rfl | (simp only [List.length_drop, List.length_take]; rfl)) ?_; (with_reducible refine (spec_PointAdd.calls k1 x456000_1 x456001_1 x456002_1 x456000_1 x456001_1 x456002_1 t462 t463 t464 _ A24.out).mono ?_); rintro e w43 ⟨rfl, hb⟩; refine ⟨_, rfl, ?_⟩; replace BK451 := bB BK451 hb; replace BK452 := bB BK452 hb; replace BK453 := bB BK453 hb; replace BK454 := Aside0.mk (blk_below (g := gb454) (o := .cells #[.int .i64 t460, .int .i64 t461] 31 (0, 0)) (by (with_reducible repeat (first | refine blk_drewN ?_ _ | refine blk_drew ?_ | refine blk_alloc ?_ _)); refine blk_put (cs := #[.int .i64 t460, .int .i64 x455001_1]) ?_ 1 _ rfl; (with_reducible repeat (first | refine blk_drewN ?_ _ | refine blk_drew ?_ | refine blk_alloc ?_ _)); refine blk_put (cs := #[.int .i64 x455000_1, .int .i64 x455001_1]) ?_ 0 _ rfl; (with_reducible repeat (first | refine blk_drewN ?_ _ | refine blk_drew ?_ | refine blk_alloc ?_ _)); exact BK454.out) hb); replace BK455 := bB BK455 hb; replace HB := bS HB hb; (try clear hb); (try clear hb2); (try clear hk); (try clear hi); have hcz44_0 : w43.cell? ⟨gb455, 0, none⟩ = some (.int .i64 x456000_1) := bc BK455 0; have hcz44_1 : w43.cell? ⟨gb455, 1, none⟩ = some (.int .i64 x456001_1) := bc BK455 1; have hcz44_2 : w43.cell? ⟨gb455, 2, none⟩ = some (.bool x456002_1) := bc BK455 2; have hfz44_0 := blk_frozen BK455.out 0; have hfz44_1 := blk_frozen BK455.out 1; have hfz44_2 := blk_frozen BK455.out 2))
      have n0_ : Aside0 ((((w43.setCell ⟨gb455, 0, none⟩ (.int .i64 t462)).setCell ⟨gb455, 1, none⟩ (.int .i64 t463)).setCell ⟨gb455, 2, none⟩ (.bool t464)).heap[gb451]? = some (.cells #[.int .i64 a0_0, .int .i64 a0_1, .bool a0_2] 25 (0, 0))) := ⟨bP BK451⟩
      have n1_ : Aside0 ((((w43.setCell ⟨gb455, 0, none⟩ (.int .i64 t462)).setCell ⟨gb455, 1, none⟩ (.int .i64 t463)).setCell ⟨gb455, 2, none⟩ (.bool t464)).heap[gb452]? = some (.cells #[.int .i64 a1_0, .int .i64 a1_1, .bool a1_2] 25 (0, 0))) := ⟨bP BK452⟩
      have n2_ : Aside0 ((((w43.setCell ⟨gb455, 0, none⟩ (.int .i64 t462)).setCell ⟨gb455, 1, none⟩ (.int .i64 t463)).setCell ⟨gb455, 2, none⟩ (.bool t464)).heap[gb453]? = some (.cells #[.int .i64 0, .int .i64 0] 31 (0, 0))) := ⟨bP BK453⟩
      have n3_ : Aside0 ((((w43.setCell ⟨gb455, 0, none⟩ (.int .i64 t462)).setCell ⟨gb455, 1, none⟩ (.int .i64 t463)).setCell ⟨gb455, 2, none⟩ (.bool t464)).heap[gb454]? = some (.cells #[.int .i64 t460, .int .i64 t461] 31 (0, 0))) := ⟨bP BK454⟩
      have n4_ : Aside0 ((((w43.setCell ⟨gb455, 0, none⟩ (.int .i64 t462)).setCell ⟨gb455, 1, none⟩ (.int .i64 t463)).setCell ⟨gb455, 2, none⟩ (.bool t464)).heap[gb455]? = some (.cells #[.int .i64 t462, .int .i64 t463, .bool t464] 25 (0, 0))) := ⟨by (with_reducible repeat (first | refine blk_drewN ?_ _ | refine blk_drew ?_ | refine blk_alloc ?_ _)); refine blk_put (cs := #[.int .i64 t462, .int .i64 t463, .bool x456002_1]) ?_ 2 _ rfl; (with_reducible repeat (first | refine blk_drewN ?_ _ | refine blk_drew ?_ | refine blk_alloc ?_ _)); refine blk_put (cs := #[.int .i64 t462, .int .i64 x456001_1, .bool x456002_1]) ?_ 1 _ rfl; (with_reducible repeat (first | refine blk_drewN ?_ _ | refine blk_drew ?_ | refine blk_alloc ?_ _)); refine blk_put (cs := #[.int .i64 x456000_1, .int .i64 x456001_1, .bool x456002_1]) ?_ 0 _ rfl; (with_reducible repeat (first | refine blk_drewN ?_ _ | refine blk_drew ?_ | refine blk_alloc ?_ _)); exact BK455.out⟩
      have n5_ : Aside0 (Below w.heap.size w (((w43.setCell ⟨gb455, 0, none⟩ (.int .i64 t462)).setCell ⟨gb455, 1, none⟩ (.int .i64 t463)).setCell ⟨gb455, 2, none⟩ (.bool t464))) := ⟨bZ HB⟩
      (try clear BK451)
      (try clear BK452)
      (try clear BK453)
      (try clear BK454)
      (try clear BK455)
      (try clear HB)
      generalize (((w43.setCell ⟨gb455, 0, none⟩ (.int .i64 t462)).setCell ⟨gb455, 1, none⟩ (.int .i64 t463)).setCell ⟨gb455, 2, none⟩ (.bool t464)) = w45 at n0_ n1_ n2_ n3_ n4_ n5_ ⊢
      have BK451 := n0_
      have BK452 := n1_
      have BK453 := n2_
      have BK454 := n3_
      have BK455 := n4_
      have HB := n5_
      clear n0_ n1_ n2_ n3_ n4_ n5_
      replace BK451 := Aside0.mk (blk_drew BK451.out)
      replace BK452 := Aside0.mk (blk_drew BK452.out)
      replace BK453 := Aside0.mk (blk_drew BK453.out)
      replace BK454 := Aside0.mk (blk_drew BK454.out)
      replace BK455 := Aside0.mk (blk_drew BK455.out)
      replace HB := Aside0.mk (below_drew1 HB.out)
      refine start_ (n := 7) (S := fun w' => w'.cell? ⟨gb454, 0, none⟩ = some (.int .i64 t460) ∧ w'.cell? ⟨gb454, 1, none⟩ = some (.int .i64 t461) ∧ w'.cell? ⟨gb455, 0, none⟩ = some (.int .i64 t462) ∧ w'.cell? ⟨gb455, 1, none⟩ = some (.int .i64 t463) ∧ w'.cell? ⟨gb455, 2, none⟩ = some (.bool t464) ∧ w'.cell? ⟨gb451, 0, none⟩ = some (.int .i64 a0_0) ∧ w'.cell? ⟨gb451, 1, none⟩ = some (.int .i64 a0_1) ∧ w'.cell? ⟨gb451, 2, none⟩ = some (.bool a0_2) ∧ w'.cell? ⟨gb452, 0, none⟩ = some (.int .i64 a1_0) ∧ w'.cell? ⟨gb452, 1, none⟩ = some (.int .i64 a1_1) ∧ w'.cell? ⟨gb452, 2, none⟩ = some (.bool a1_2)) (ds := [6]) #[false, false, false, false, false, false, false] (by kernel_rfl) rfl rfl ⟨bc BK454 0, bc BK454 1, bc BK455 0, bc BK455 1, bc BK455 2, bc BK451 0, bc BK451 1, bc BK451 2, bc BK452 0, bc BK452 1, bc BK452 2⟩ (fun hHeld => ?_)
      generalize w45.drew = w46 at BK451 BK452 BK453 BK454 BK455 HB hHeld ⊢
      refine take_ (i := 0) (N := some 30) (v := ?_) (a' := ?_) #[true, false, false, false, false, false, false] rfl rfl (by kernel_rfl) (fun _ _ _ h => h) (Or.inl ⟨by rfl, ?_⟩) hHeld ?_ ?_
      rotate_left
      ·rintro w' ⟨s0, s1, s2, s3, s4, s5, s6, s7, s8, s9, s10⟩
       go_simp
       with_reducible rfl
      rotate_left
      ·simp only [Act.put, List.setIfInBounds_toArray, List.set_cons_zero, List.set_cons_succ, i64_w, i32_w]
       rfl
      refine take_ (i := 1) (N := some 31) (v := ?_) (a' := ?_) #[true, true, false, false, false, false, false] rfl rfl (by kernel_rfl) (fun _ _ _ h => h) (Or.inl ⟨by rfl, ?_⟩) hHeld ?_ ?_
      rotate_left
      ·rintro w' ⟨s0, s1, s2, s3, s4, s5, s6, s7, s8, s9, s10⟩
       go_simp
       with_reducible rfl
      rotate_left
      ·simp only [Act.put, List.setIfInBounds_toArray, List.set_cons_zero, List.set_cons_succ, i64_w, i32_w]
       rfl
      refine take_ (i := 2) (N := some 32) (v := ?_) (a' := ?_) #[true, true, true, false, false, false, false] rfl rfl (by kernel_rfl) (fun _ _ _ h => h) (Or.inl ⟨by rfl, ?_⟩) hHeld ?_ ?_
      rotate_left
      ·rintro w' ⟨s0, s1, s2, s3, s4, s5, s6, s7, s8, s9, s10⟩
       go_simp
       with_reducible rfl
      rotate_left
      ·simp only [Act.put, List.setIfInBounds_toArray, List.set_cons_zero, List.set_cons_succ, i64_w, i32_w]
       rfl
      refine take_ (i := 3) (N := some 33) (v := ?_) (a' := ?_) #[true, true, true, true, false, false, false] rfl rfl (by kernel_rfl) (fun _ _ _ h => h) (Or.inl ⟨by rfl, ?_⟩) hHeld ?_ ?_
      rotate_left
      ·rintro w' ⟨s0, s1, s2, s3, s4, s5, s6, s7, s8, s9, s10⟩
       go_simp
       with_reducible rfl
      rotate_left
      ·simp only [Act.put, List.setIfInBounds_toArray, List.set_cons_zero, List.set_cons_succ, i64_w, i32_w]
       rfl
      refine one_ (i := 4) (N := some 34) #[true, true, true, true, true, false, false] rfl rfl (by kernel_rfl) (by decide) (fun K hK => ?_)
      refine goes_ Try.func23 (by kernel_rfl) rfl #[.agg #[.int .i64 t462, .int .i64 t463, .bool t464], .agg #[.int .i64 a0_0, .int .i64 a0_1, .bool a0_2], .agg #[.int .i64 a1_0, .int .i64 a1_1, .bool a1_2]] (by rfl) rfl rfl (by (try simp only [List.map_toArray, List.map_cons, List.map_nil]); first | done | rfl | (simp only [List.length_drop, List.length_take]; rfl)) ?_
      with_reducible refine (spec_PairLine.calls k1 t462 t463 t464 a0_0 a0_1 a0_2 a1_0 a1_1 a1_2 t465 t466 _ A29.out).mono ?_
      rintro e w47 ⟨rfl, hb⟩
      refine ⟨_, rfl, ?_⟩
      replace BK451 := bB BK451 hb
      replace BK452 := bB BK452 hb
      replace BK453 := bB BK453 hb
      replace BK454 := bB BK454 hb
      replace BK455 := bB BK455 hb
      replace HB := bS HB hb
      (try clear hb)
      (try clear hb2)
      (try clear hk)
      (try clear hi)
      refine hK.out _ _ ⟨bc BK454 0, bc BK454 1, bc BK455 0, bc BK455 1, bc BK455 2, bc BK451 0, bc BK451 1, bc BK451 2, bc BK452 0, bc BK452 1, bc BK452 2⟩ (fun hHeld => ?_)
      clear hK K
      refine norm_ (a' := ?_) ?_ ?_
      rotate_left
      ·show Act.put _ (some 34) _ = _
       simp only [Act.put, List.setIfInBounds_toArray, List.set_cons_zero, List.set_cons_succ, i64_w, i32_w]
       rfl
      refine one_ (i := 5) (N := some 35) #[true, true, true, true, true, true, false] rfl rfl (by kernel_rfl) (by decide) (fun K hK => ?_)
      refine goes_ Try.func71 (by kernel_rfl) rfl #[.agg #[.int .i64 t460, .int .i64 t461], .agg #[.int .i64 t465, .int .i64 t466]] (by rfl) rfl rfl (by (try simp only [List.map_toArray, List.map_cons, List.map_nil]); first | done | rfl | (simp only [List.length_drop, List.length_take]; rfl)) ?_
      with_reducible refine (spec_TwoMul.calls t460 t461 t465 t466 t467 t468 _ A30.out).mono ?_
      rintro e w48 ⟨rfl, hb⟩
      refine ⟨_, rfl, ?_⟩
      replace BK451 := bB BK451 hb
      replace BK452 := bB BK452 hb
      replace BK453 := bB BK453 hb
      replace BK454 := bB BK454 hb
      replace BK455 := bB BK455 hb
      replace HB := bS HB hb
      (try clear hb)
      (try clear hb2)
      (try clear hk)
      (try clear hi)
      refine hK.out _ _ ⟨bc BK454 0, bc BK454 1, bc BK455 0, bc BK455 1, bc BK455 2, bc BK451 0, bc BK451 1, bc BK451 2, bc BK452 0, bc BK452 1, bc BK452 2⟩ (fun hHeld => ?_)
      clear hK K
      refine norm_ (a' := ?_) ?_ ?_
      rotate_left
      ·show Act.put _ (some 35) _ = _
       simp only [Act.put, List.setIfInBounds_toArray, List.set_cons_zero, List.set_cons_succ, i64_w, i32_w]
       rfl
      refine last_ (i := 6) (N := none) #[true, true, true, true, true, true, true] rfl rfl (by kernel_rfl) (by decide) (fun K hK => ?_)
      have hs49 : w48.cell? ⟨gb454, 0, none⟩ = some (.int .i64 t460) := bc BK454 0
      have hfs49 := blk_frozen BK454.out 0
      have hns49_0 := NB451_454.out
      have hns49_1 := NB452_454.out
      have hns49_2 := NB453_454.out
      have hns49_4 := NB455_454.out
      have hms49_0 := NB454_451.out
      have hms49_1 := NB454_452.out
      have hms49_2 := NB454_453.out
      have hms49_4 := NB454_455.out
      have hs50 : w48.cell? ⟨gb454, 1, none⟩ = some (.int .i64 t461) := bc BK454 1
      have hfs50 := blk_frozen BK454.out 1
      have hns50_0 := NB451_454.out
      have hns50_1 := NB452_454.out
      have hns50_2 := NB453_454.out
      have hns50_4 := NB455_454.out
      have hms50_0 := NB454_451.out
      have hms50_1 := NB454_452.out
      have hms50_2 := NB454_453.out
      have hms50_4 := NB454_455.out
      refine skip_ (w1 := ?_) (by rfl) rfl ?_ ?_
      rotate_left
      ·go_simp
       rfl
      refine hK.out _ _ ?_
      clear hK K
      refine done_ (by kernel_rfl) ?_
      have hcz51_0 : w48.cell? ⟨gb455, 0, none⟩ = some (.int .i64 t462) := bc BK455 0
      have hcz51_1 : w48.cell? ⟨gb455, 1, none⟩ = some (.int .i64 t463) := bc BK455 1
      have hcz51_2 : w48.cell? ⟨gb455, 2, none⟩ = some (.bool t464) := bc BK455 2
      have hfz51_0 := blk_frozen BK455.out 0
      have hfz51_1 := blk_frozen BK455.out 1
      have hfz51_2 := blk_frozen BK455.out 2
      have hnb52 := NB451_452.out
      have hnc52 := NB452_451.out
      have hnb53 := NB451_453.out
      have hnc53 := NB453_451.out
      have hnb54 := NB451_454.out
      have hnc54 := NB454_451.out
      have hcz55_0 : w48.cell? ⟨gb451, 0, none⟩ = some (.int .i64 a0_0) := bc BK451 0
      have hcz55_1 : w48.cell? ⟨gb451, 1, none⟩ = some (.int .i64 a0_1) := bc BK451 1
      have hcz55_2 : w48.cell? ⟨gb451, 2, none⟩ = some (.bool a0_2) := bc BK451 2
      have hfz55_0 := blk_frozen BK451.out 0
      have hfz55_1 := blk_frozen BK451.out 1
      have hfz55_2 := blk_frozen BK451.out 2
      try go_wp2_with (first | ((with_reducible refine gate_callee (f := 53) rfl ?_); refine goesL_ (some 38) rfl rfl Try.func53 (by kernel_rfl) rfl #[.agg #[.int .i64 t462, .int .i64 t463, .bool t464], .agg #[.int .i64 a0_0, .int .i64 a0_1, .bool a0_2]] rfl (by (try simp only [List.map_toArray, List.map_cons, List.map_nil]); first | done | rfl | (simp only [List.length_drop, List.length_take]; rfl)) ?_; (with_reducible refine (spec_PointAdd.calls k1 t462 t463 t464 a0_0 a0_1 a0_2 t469 t470 t471 _ A31.out).mono ?_); rintro e w56 ⟨rfl, hb⟩; refine ⟨_, rfl, ?_⟩; replace BK451 := bB BK451 hb; replace BK452 := bB BK452 hb; replace BK453 := bB BK453 hb; replace BK454 := Aside0.mk (blk_below (g := gb454) (o := .cells #[.int .i64 t467, .int .i64 t468] 31 (0, 0)) (by (with_reducible repeat (first | refine blk_drewN ?_ _ | refine blk_drew ?_ | refine blk_alloc ?_ _)); refine blk_put (cs := #[.int .i64 t467, .int .i64 t461]) ?_ 1 _ rfl; (with_reducible repeat (first | refine blk_drewN ?_ _ | refine blk_drew ?_ | refine blk_alloc ?_ _)); refine blk_put (cs := #[.int .i64 t460, .int .i64 t461]) ?_ 0 _ rfl; (with_reducible repeat (first | refine blk_drewN ?_ _ | refine blk_drew ?_ | refine blk_alloc ?_ _)); exact BK454.out) hb); replace BK455 := bB BK455 hb; replace HB := bS HB hb; (try clear hb); (try clear hb2); (try clear hk); (try clear hi); have hcz57_0 : w56.cell? ⟨gb455, 0, none⟩ = some (.int .i64 t462) := bc BK455 0; have hcz57_1 : w56.cell? ⟨gb455, 1, none⟩ = some (.int .i64 t463) := bc BK455 1; have hcz57_2 : w56.cell? ⟨gb455, 2, none⟩ = some (.bool t464) := bc BK455 2; have hfz57_0 := blk_frozen BK455.out 0; have hfz57_1 := blk_frozen BK455.out 1; have hfz57_2 := blk_frozen BK455.out 2))
      go_roundg k1
      case measure => have := HK1.out; omega
      case rel => exact ⟨(wrap64 (x7_1 - 1)), (t467), (t468), (t469), (t470), (t471), (by first | rfl | (simp; done) | (simp [*]; done)), H', ⟨by have := HK1.out; omega⟩, ⟨bP BK451⟩, ⟨bP BK452⟩, ⟨bP BK453⟩, ⟨bP BK454⟩, ⟨by (with_reducible repeat (first | refine blk_drewN ?_ _ | refine blk_drew ?_ | refine blk_alloc ?_ _)); refine blk_put (cs := #[.int .i64 t469, .int .i64 t470, .bool t464]) ?_ 2 _ rfl; (with_reducible repeat (first | refine blk_drewN ?_ _ | refine blk_drew ?_ | refine blk_alloc ?_ _)); refine blk_put (cs := #[.int .i64 t469, .int .i64 t463, .bool t464]) ?_ 1 _ rfl; (with_reducible repeat (first | refine blk_drewN ?_ _ | refine blk_drew ?_ | refine blk_alloc ?_ _)); refine blk_put (cs := #[.int .i64 t462, .int .i64 t463, .bool t464]) ?_ 0 _ rfl; (with_reducible repeat (first | refine blk_drewN ?_ _ | refine blk_drew ?_ | refine blk_alloc ?_ _)); exact BK455.out⟩, ⟨bZ HB⟩⟩
     ·rw [if_neg c28] at H
      have c28b0 : (((ji27) % 2) == 1) = false := beq_eq_false_iff_ne.mpr c28
      have c28b1 : (((ji27) % 2) != 1) = true := bne_iff_ne.mpr c28
      have H' := Aside0.mk H
      clear H
      try go_wp2
      replace BK451 := Aside0.mk (blk_drew BK451.out)
      replace BK452 := Aside0.mk (blk_drew BK452.out)
      replace BK453 := Aside0.mk (blk_drew BK453.out)
      replace BK454 := Aside0.mk (blk_drew BK454.out)
      replace BK455 := Aside0.mk (blk_drew BK455.out)
      replace HB := Aside0.mk (below_drew1 HB.out)
      refine start_ (n := 9) (S := fun w' => w'.cell? ⟨gb454, 0, none⟩ = some (.int .i64 x455000_1) ∧ w'.cell? ⟨gb454, 1, none⟩ = some (.int .i64 x455001_1) ∧ w'.cell? ⟨gb455, 0, none⟩ = some (.int .i64 x456000_1) ∧ w'.cell? ⟨gb455, 1, none⟩ = some (.int .i64 x456001_1) ∧ w'.cell? ⟨gb455, 2, none⟩ = some (.bool x456002_1) ∧ w'.cell? ⟨gb452, 0, none⟩ = some (.int .i64 a1_0) ∧ w'.cell? ⟨gb452, 1, none⟩ = some (.int .i64 a1_1) ∧ w'.cell? ⟨gb452, 2, none⟩ = some (.bool a1_2)) (ds := [8]) #[false, false, false, false, false, false, false, false, false] (by kernel_rfl) rfl rfl ⟨bc BK454 0, bc BK454 1, bc BK455 0, bc BK455 1, bc BK455 2, bc BK452 0, bc BK452 1, bc BK452 2⟩ (fun hHeld => ?_); refine with_tabW spec_Miller.tab6 spec_Miller.bits6 (fun HT_ HW_ => ?_)
      generalize wr.drew = w58 at BK451 BK452 BK453 BK454 BK455 HB hHeld ⊢
      refine take_ (i := 0) (N := some 14) (v := ?_) (a' := ?_) #[true, false, false, false, false, false, false, false, false] rfl rfl (take_ofW HT_.out HW_.out (by kernel_rfl)) (fun _ _ _ h => h) (Or.inl ⟨by rfl, ?_⟩) hHeld ?_ ?_
      rotate_left
      ·rintro w' ⟨s0, s1, s2, s3, s4, s5, s6, s7⟩
       go_simp
       with_reducible rfl
      rotate_left
      ·simp only [Act.put, List.setIfInBounds_toArray, List.set_cons_zero, List.set_cons_succ, i64_w, i32_w]
       rfl
      refine take_ (i := 1) (N := some 15) (v := ?_) (a' := ?_) #[true, true, false, false, false, false, false, false, false] rfl rfl (take_ofW HT_.out HW_.out (by kernel_rfl)) (fun _ _ _ h => h) (Or.inl ⟨by rfl, ?_⟩) hHeld ?_ ?_
      rotate_left
      ·rintro w' ⟨s0, s1, s2, s3, s4, s5, s6, s7⟩
       go_simp
       with_reducible rfl
      rotate_left
      ·simp only [Act.put, List.setIfInBounds_toArray, List.set_cons_zero, List.set_cons_succ, i64_w, i32_w]
       rfl
      refine take_ (i := 3) (N := some 17) (v := ?_) (a' := ?_) #[true, true, false, true, false, false, false, false, false] rfl rfl (take_ofW HT_.out HW_.out (by kernel_rfl)) (fun _ _ _ h => h) (Or.inl ⟨by rfl, ?_⟩) hHeld ?_ ?_
      rotate_left
      ·rintro w' ⟨s0, s1, s2, s3, s4, s5, s6, s7⟩
       go_simp
       with_reducible rfl
      rotate_left
      ·simp only [Act.put, List.setIfInBounds_toArray, List.set_cons_zero, List.set_cons_succ, i64_w, i32_w]
       rfl
      refine take_ (i := 4) (N := some 18) (v := ?_) (a' := ?_) #[true, true, false, true, true, false, false, false, false] rfl rfl (take_ofW HT_.out HW_.out (by kernel_rfl)) (fun _ _ _ h => h) (Or.inl ⟨by rfl, ?_⟩) hHeld ?_ ?_
      rotate_left
      ·rintro w' ⟨s0, s1, s2, s3, s4, s5, s6, s7⟩
       go_simp
       with_reducible rfl
      rotate_left
      ·simp only [Act.put, List.setIfInBounds_toArray, List.set_cons_zero, List.set_cons_succ, i64_w, i32_w]
       rfl
      refine take_ (i := 5) (N := some 19) (v := ?_) (a' := ?_) #[true, true, false, true, true, true, false, false, false] rfl rfl (take_ofW HT_.out HW_.out (by kernel_rfl)) (fun _ _ _ h => h) (Or.inl ⟨by rfl, ?_⟩) hHeld ?_ ?_
      rotate_left
      ·rintro w' ⟨s0, s1, s2, s3, s4, s5, s6, s7⟩
       go_simp
       with_reducible rfl
      rotate_left
      ·simp only [Act.put, List.setIfInBounds_toArray, List.set_cons_zero, List.set_cons_succ, i64_w, i32_w]
       rfl
      refine one_ (i := 2) (N := some 16) #[true, true, true, true, true, true, false, false, false] rfl rfl (one_of HT_.out (by kernel_rfl)) (by decide) (fun K hK => ?_)
      refine goes_ Try.func71 (by kernel_rfl) rfl #[.agg #[.int .i64 x455000_1, .int .i64 x455001_1], .agg #[.int .i64 x455000_1, .int .i64 x455001_1]] (by rfl) rfl rfl (by (try simp only [List.map_toArray, List.map_cons, List.map_nil]); first | done | rfl | (simp only [List.length_drop, List.length_take]; rfl)) ?_
      with_reducible refine (spec_TwoMul.calls x455000_1 x455001_1 x455000_1 x455001_1 t456 t457 _ A21.out).mono ?_
      rintro e w59 ⟨rfl, hb⟩
      refine ⟨_, rfl, ?_⟩
      replace BK451 := bB BK451 hb
      replace BK452 := bB BK452 hb
      replace BK453 := bB BK453 hb
      replace BK454 := bB BK454 hb
      replace BK455 := bB BK455 hb
      replace HB := bS HB hb
      (try clear hb)
      (try clear hb2)
      (try clear hk)
      (try clear hi)
      refine hK.out _ _ ⟨bc BK454 0, bc BK454 1, bc BK455 0, bc BK455 1, bc BK455 2, bc BK452 0, bc BK452 1, bc BK452 2⟩ (fun hHeld => ?_)
      clear hK K
      refine norm_ (a' := ?_) ?_ ?_
      rotate_left
      ·show Act.put _ (some 16) _ = _
       simp only [Act.put, List.setIfInBounds_toArray, List.set_cons_zero, List.set_cons_succ, i64_w, i32_w]
       rfl
      refine one_ (i := 6) (N := some 20) #[true, true, true, true, true, true, true, false, false] rfl rfl (one_of HT_.out (by kernel_rfl)) (by decide) (fun K hK => ?_)
      refine goes_ Try.func23 (by kernel_rfl) rfl #[.agg #[.int .i64 x456000_1, .int .i64 x456001_1, .bool x456002_1], .agg #[.int .i64 x456000_1, .int .i64 x456001_1, .bool x456002_1], .agg #[.int .i64 a1_0, .int .i64 a1_1, .bool a1_2]] (by rfl) rfl rfl (by (try simp only [List.map_toArray, List.map_cons, List.map_nil]); first | done | rfl | (simp only [List.length_drop, List.length_take]; rfl)) ?_
      with_reducible refine (spec_PairLine.calls k1 x456000_1 x456001_1 x456002_1 x456000_1 x456001_1 x456002_1 a1_0 a1_1 a1_2 t458 t459 _ A22.out).mono ?_
      rintro e w60 ⟨rfl, hb⟩
      refine ⟨_, rfl, ?_⟩
      replace BK451 := bB BK451 hb
      replace BK452 := bB BK452 hb
      replace BK453 := bB BK453 hb
      replace BK454 := bB BK454 hb
      replace BK455 := bB BK455 hb
      replace HB := bS HB hb
      (try clear hb)
      (try clear hb2)
      (try clear hk)
      (try clear hi)
      refine hK.out _ _ ⟨bc BK454 0, bc BK454 1, bc BK455 0, bc BK455 1, bc BK455 2, bc BK452 0, bc BK452 1, bc BK452 2⟩ (fun hHeld => ?_)
      clear hK K
      refine norm_ (a' := ?_) ?_ ?_
      rotate_left
      ·show Act.put _ (some 20) _ = _
       simp only [Act.put, List.setIfInBounds_toArray, List.set_cons_zero, List.set_cons_succ, i64_w, i32_w]
       rfl
      refine one_ (i := 7) (N := some 21) #[true, true, true, true, true, true, true, true, false] rfl rfl (one_of HT_.out (by kernel_rfl)) (by decide) (fun K hK => ?_)
      refine goes_ Try.func71 (by kernel_rfl) rfl #[.agg #[.int .i64 t456, .int .i64 t457], .agg #[.int .i64 t458, .int .i64 t459]] (by rfl) rfl rfl (by (try simp only [List.map_toArray, List.map_cons, List.map_nil]); first | done | rfl | (simp only [List.length_drop, List.length_take]; rfl)) ?_
      with_reducible refine (spec_TwoMul.calls t456 t457 t458 t459 t460 t461 _ A23.out).mono ?_
      rintro e w61 ⟨rfl, hb⟩
      refine ⟨_, rfl, ?_⟩
      replace BK451 := bB BK451 hb
      replace BK452 := bB BK452 hb
      replace BK453 := bB BK453 hb
      replace BK454 := bB BK454 hb
      replace BK455 := bB BK455 hb
      replace HB := bS HB hb
      (try clear hb)
      (try clear hb2)
      (try clear hk)
      (try clear hi)
      refine hK.out _ _ ⟨bc BK454 0, bc BK454 1, bc BK455 0, bc BK455 1, bc BK455 2, bc BK452 0, bc BK452 1, bc BK452 2⟩ (fun hHeld => ?_)
      clear hK K
      refine norm_ (a' := ?_) ?_ ?_
      rotate_left
      ·show Act.put _ (some 21) _ = _
       simp only [Act.put, List.setIfInBounds_toArray, List.set_cons_zero, List.set_cons_succ, i64_w, i32_w]
       rfl
      refine last_ (i := 8) (N := none) #[true, true, true, true, true, true, true, true, true] rfl rfl (one_of HT_.out (by kernel_rfl)) (by decide) (fun K hK => ?_)
      have hs62 : w61.cell? ⟨gb454, 0, none⟩ = some (.int .i64 x455000_1) := bc BK454 0
      have hfs62 := blk_frozen BK454.out 0
      have hns62_0 := NB451_454.out
      have hns62_1 := NB452_454.out
      have hns62_2 := NB453_454.out
      have hns62_4 := NB455_454.out
      have hms62_0 := NB454_451.out
      have hms62_1 := NB454_452.out
      have hms62_2 := NB454_453.out
      have hms62_4 := NB454_455.out
      have hs63 : w61.cell? ⟨gb454, 1, none⟩ = some (.int .i64 x455001_1) := bc BK454 1
      have hfs63 := blk_frozen BK454.out 1
      have hns63_0 := NB451_454.out
      have hns63_1 := NB452_454.out
      have hns63_2 := NB453_454.out
      have hns63_4 := NB455_454.out
      have hms63_0 := NB454_451.out
      have hms63_1 := NB454_452.out
      have hms63_2 := NB454_453.out
      have hms63_4 := NB454_455.out
      refine skip_ (w1 := ?_) (by rfl) rfl ?_ ?_
      rotate_left
      ·go_simp
       rfl
      refine hK.out _ _ ?_
      clear hK K
      refine done_ (done_of HT_.out (by kernel_rfl)) ?_
      have hnb64 := NB455_451.out
      have hnc64 := NB451_455.out
      have hnb65 := NB455_452.out
      have hnc65 := NB452_455.out
      have hnb66 := NB455_453.out
      have hnc66 := NB453_455.out
      have hnb67 := NB455_454.out
      have hnc67 := NB454_455.out
      have hcz68_0 : w61.cell? ⟨gb455, 0, none⟩ = some (.int .i64 x456000_1) := bc BK455 0
      have hcz68_1 : w61.cell? ⟨gb455, 1, none⟩ = some (.int .i64 x456001_1) := bc BK455 1
      have hcz68_2 : w61.cell? ⟨gb455, 2, none⟩ = some (.bool x456002_1) := bc BK455 2
      have hfz68_0 := blk_frozen BK455.out 0
      have hfz68_1 := blk_frozen BK455.out 1
      have hfz68_2 := blk_frozen BK455.out 2
      try go_wp2_with (first | ((with_reducible refine gate_callee (f := 53) rfl ?_); refine goesL_ (some 24) rfl rfl Try.func53 (by kernel_rfl) rfl #[.agg #[.int .i64 x456000_1, .int .i64 x456001_1, .bool x456002_1], .agg #[.int .i64 x456000_1, .int .i64 x456001_1, .bool x456002_1]] rfl (by (try simp only [List.map_toArray, List.map_cons, List.map_nil]); first | done | rfl | (simp only [List.length_drop, List.length_take]; rfl)) ?_; (with_reducible refine (spec_PointAdd.calls k1 x456000_1 x456001_1 x456002_1 x456000_1 x456001_1 x456002_1 t462 t463 t464 _ A24.out).mono ?_); rintro e w69 ⟨rfl, hb⟩; refine ⟨_, rfl, ?_⟩; replace BK451 := bB BK451 hb; replace BK452 := bB BK452 hb; replace BK453 := bB BK453 hb; replace BK454 := Aside0.mk (blk_below (g := gb454) (o := .cells #[.int .i64 t460, .int .i64 t461] 31 (0, 0)) (by (with_reducible repeat (first | refine blk_drewN ?_ _ | refine blk_drew ?_ | refine blk_alloc ?_ _)); refine blk_put (cs := #[.int .i64 t460, .int .i64 x455001_1]) ?_ 1 _ rfl; (with_reducible repeat (first | refine blk_drewN ?_ _ | refine blk_drew ?_ | refine blk_alloc ?_ _)); refine blk_put (cs := #[.int .i64 x455000_1, .int .i64 x455001_1]) ?_ 0 _ rfl; (with_reducible repeat (first | refine blk_drewN ?_ _ | refine blk_drew ?_ | refine blk_alloc ?_ _)); exact BK454.out) hb); replace BK455 := bB BK455 hb; replace HB := bS HB hb; (try clear hb); (try clear hb2); (try clear hk); (try clear hi); have hcz70_0 : w69.cell? ⟨gb455, 0, none⟩ = some (.int .i64 x456000_1) := bc BK455 0; have hcz70_1 : w69.cell? ⟨gb455, 1, none⟩ = some (.int .i64 x456001_1) := bc BK455 1; have hcz70_2 : w69.cell? ⟨gb455, 2, none⟩ = some (.bool x456002_1) := bc BK455 2; have hfz70_0 := blk_frozen BK455.out 0; have hfz70_1 := blk_frozen BK455.out 1; have hfz70_2 := blk_frozen BK455.out 2))
      go_roundg k1
      case measure => have := HK1.out; omega
      case rel => exact ⟨(wrap64 (x7_1 - 1)), (t460), (t461), (t462), (t463), (t464), (by first | rfl | (simp; done) | (simp [*]; done)), H', ⟨by have := HK1.out; omega⟩, ⟨bP BK451⟩, ⟨bP BK452⟩, ⟨bP BK453⟩, ⟨bP BK454⟩, ⟨by (with_reducible repeat (first | refine blk_drewN ?_ _ | refine blk_drew ?_ | refine blk_alloc ?_ _)); refine blk_put (cs := #[.int .i64 t462, .int .i64 t463, .bool x456002_1]) ?_ 2 _ rfl; (with_reducible repeat (first | refine blk_drewN ?_ _ | refine blk_drew ?_ | refine blk_alloc ?_ _)); refine blk_put (cs := #[.int .i64 t462, .int .i64 x456001_1, .bool x456002_1]) ?_ 1 _ rfl; (with_reducible repeat (first | refine blk_drewN ?_ _ | refine blk_drew ?_ | refine blk_alloc ?_ _)); refine blk_put (cs := #[.int .i64 x456000_1, .int .i64 x456001_1, .bool x456002_1]) ?_ 0 _ rfl; (with_reducible repeat (first | refine blk_drewN ?_ _ | refine blk_drew ?_ | refine blk_alloc ?_ _)); exact BK455.out⟩, ⟨bZ HB⟩⟩
    ·rw [if_neg c26] at H
     exact absurd H (by simp)
   ·rw [if_neg c20] at H
    have c20b0 : decide (0 ≤ x7_1) = false := decide_eq_false c20
    clear c20
    simp only [Option.some.injEq, Prod.mk.injEq] at H
    obtain ⟨rfl, rfl⟩ := H
    have hnb71 := NB454_451.out
    have hnc71 := NB451_454.out
    have hnb72 := NB454_452.out
    have hnc72 := NB452_454.out
    have hnb73 := NB454_453.out
    have hnc73 := NB453_454.out
    have hnb74 := NB454_455.out
    have hnc74 := NB455_454.out
    have hcz75_0 : wr.cell? ⟨gb454, 0, none⟩ = some (.int .i64 x455000_1) := bc BK454 0
    have hcz75_1 : wr.cell? ⟨gb454, 1, none⟩ = some (.int .i64 x455001_1) := bc BK454 1
    have hfz75_0 := blk_frozen BK454.out 0
    have hfz75_1 := blk_frozen BK454.out 1
    have hnb76 := NB453_451.out
    have hnc76 := NB451_453.out
    have hnb77 := NB453_452.out
    have hnc77 := NB452_453.out
    have hnb78 := NB453_455.out
    have hnc78 := NB455_453.out
    have hcz79_0 : wr.cell? ⟨gb453, 0, none⟩ = some (.int .i64 0) := bc BK453 0
    have hcz79_1 : wr.cell? ⟨gb453, 1, none⟩ = some (.int .i64 0) := bc BK453 1
    have hfz79_0 := blk_frozen BK453.out 0
    have hfz79_1 := blk_frozen BK453.out 1
    go_wp2
    refine bodyPost_ret (results_cell_row rfl _ _ gb453 31 #[.int .i64 x455000_1, .int .i64 x455001_1] (0, 0) _ rfl (by (with_reducible repeat (first | refine blk_drewN ?_ _ | refine blk_drew ?_ | refine blk_alloc ?_ _)); refine blk_put (cs := #[.int .i64 x455000_1, .int .i64 0]) ?_ 1 _ rfl; (with_reducible repeat (first | refine blk_drewN ?_ _ | refine blk_drew ?_ | refine blk_alloc ?_ _)); refine blk_put (cs := #[.int .i64 0, .int .i64 0]) ?_ 0 _ rfl; (with_reducible repeat (first | refine blk_drewN ?_ _ | refine blk_drew ?_ | refine blk_alloc ?_ _)); exact BK453.out) Try.underlying31 rfl (by kernel_rfl)) rfl ?_
    exact ⟨by first | rfl | (simp [errW_none, errW_some] <;> rfl) | (simp [*, errW_none, errW_some] <;> rfl), bZ HB⟩
/-! ### spec_InGroup: function 52 -/
def spec_InGroup.f (k : Nat) (a0_0 : Int) (a0_1 : Int) (a0_2 : Bool) : Option (Bool) := (spec_PointOk.f a0_0 a0_1 a0_2).bind fun t473 => (if t473 = true then ((spec_PointTimes.f k 1009 a0_0 a0_1 a0_2).bind fun bt474 => (some bt474.2.2)) else (some false))
theorem spec_InGroup.mono : ∀ a0 a1 a2 k, LeO (spec_InGroup.f k a0 a1 a2) (spec_InGroup.f (k + 1) a0 a1 a2) := by
 intro a0 a1 a2 k
 unfold spec_InGroup.f
 repeat' first
   | (with_reducible exact spec_PointTimes.mono _ _ _ _ _)
   | (with_reducible exact LeO.refl _)
   | (with_reducible exact LeO.none _)
   | (with_reducible refine LeO.ite ?_ ?_)
   | (with_reducible refine LeO.bind ?_ (fun _ => ?_))
   | exact spec_PointTimes.mono _ _ _ _ _
   | exact LeO.none _
   | refine LeO.ite ?_ ?_
   | refine LeO.bind ?_ (fun _ => ?_)
set_option maxHeartbeats 8000000 in
set_option maxRecDepth 100000 in
theorem spec_InGroup.calls (k : Nat) (a0_0 : Int) (a0_1 : Int) (a0_2 : Bool) (r : Bool) (w : World) (h : spec_InGroup.f k a0_0 a0_1 a0_2 = some r) :
  Calls Try.prog 52 #[.agg #[.int .i64 a0_0, .int .i64 a0_1, .bool a0_2]] w fun e w' => e = .returned (.bool r) ∧ Below w.heap.size w w' := by
 have hu25 := Try.underlying25
 have hfd25_0 : ∀ (x0 : Int) (x1 : Int) (x2 : Bool) (w_ : World), (Instr.field 25 (.agg #[.int .i64 x0, .int .i64 x1, .bool x2]) 0).run Try.prog w_ = .ok (.int .i64 x0) w_ := fun _ _ _ _ => by kernel_rfl
 have hfd25_1 : ∀ (x0 : Int) (x1 : Int) (x2 : Bool) (w_ : World), (Instr.field 25 (.agg #[.int .i64 x0, .int .i64 x1, .bool x2]) 1).run Try.prog w_ = .ok (.int .i64 x1) w_ := fun _ _ _ _ => by kernel_rfl
 have hfd25_2 : ∀ (x0 : Int) (x1 : Int) (x2 : Bool) (w_ : World), (Instr.field 25 (.agg #[.int .i64 x0, .int .i64 x1, .bool x2]) 2).run Try.prog w_ = .ok (.bool x2) w_ := fun _ _ _ _ => by kernel_rfl
 have HB := Aside0.mk (Below.refl w.heap.size w)
 have H : ((spec_PointOk.f a0_0 a0_1 a0_2).bind fun t473 => (if t473 = true then ((spec_PointTimes.f k 1009 a0_0 a0_1 a0_2).bind fun bt474 => (some bt474.2.2)) else (some false))) = some r := h
 clear h
 replace H := Option.bind_eq_some_iff.mp H
 obtain ⟨t473, A20, H⟩ := H
 replace H : (if t473 = true then ((spec_PointTimes.f k 1009 a0_0 a0_1 a0_2).bind fun bt474 => (some bt474.2.2)) else (some false)) = some r := H
 have A2 := Aside0.mk A20
 clear A20
 by_cases c3 : t473 = true
 ·subst c3
  have H1 : ((spec_PointTimes.f k 1009 a0_0 a0_1 a0_2).bind fun bt474 => (some bt474.2.2)) = some r := by rw [if_pos rfl] at H; exact H
  clear H
  have H := H1
  clear H1
  replace H := Option.bind_eq_some_iff.mp H
  obtain ⟨⟨t474, t475, t476⟩, A40, H⟩ := H
  replace H : (some t476) = some r := H
  have A4 := Aside0.mk A40
  clear A40
  obtain rfl := Option.some.inj H
  go_enter Try.func52, Try.ntmps52
  go_wp2_with (first | ((with_reducible refine gate_dst (N := 1) rfl ?_); refine box_event ?hg (N := 1) ?hd (cs := #[.int .i64 a0_0, .int .i64 a0_1, .bool a0_2]) (t := 25) ?hr ?_; (case hd => rfl); (case hg => rfl); (case hr => first | (go_simp; done) | (go_simp; rfl)); intro gb472 hg w5 hbox hb; have BK472 := Aside0.mk (hbox); have GW472 := bG HB hg; have GE472 := bG HB hg; replace HB := bS HB hb; clear hb hbox hg; have hcz6_0 : w5.cell? ⟨gb472, 0, none⟩ = some (.int .i64 a0_0) := bc BK472 0; have hcz6_1 : w5.cell? ⟨gb472, 1, none⟩ = some (.int .i64 a0_1) := bc BK472 1; have hcz6_2 : w5.cell? ⟨gb472, 2, none⟩ = some (.bool a0_2) := bc BK472 2; have hfz6_0 := blk_frozen BK472.out 0; have hfz6_1 := blk_frozen BK472.out 1; have hfz6_2 := blk_frozen BK472.out 2) | ((with_reducible refine gate_callee (f := 55) rfl ?_); refine goesL_ (some 4) rfl rfl Try.func55 (by kernel_rfl) rfl #[.agg #[.int .i64 a0_0, .int .i64 a0_1, .bool a0_2]] rfl (by (try simp only [List.map_toArray, List.map_cons, List.map_nil]); first | done | rfl | (simp only [List.length_drop, List.length_take]; rfl)) ?_; (with_reducible refine (spec_PointOk.calls a0_0 a0_1 a0_2 true _ A2.out).mono ?_); rintro e w7 ⟨rfl, hb⟩; refine ⟨_, rfl, ?_⟩; replace BK472 := bB BK472 hb; replace HB := bS HB hb; (try clear hb); (try clear hb2); (try clear hk); (try clear hi); have hcz8_0 : w7.cell? ⟨gb472, 0, none⟩ = some (.int .i64 a0_0) := bc BK472 0; have hcz8_1 : w7.cell? ⟨gb472, 1, none⟩ = some (.int .i64 a0_1) := bc BK472 1; have hcz8_2 : w7.cell? ⟨gb472, 2, none⟩ = some (.bool a0_2) := bc BK472 2; have hfz8_0 := blk_frozen BK472.out 0; have hfz8_1 := blk_frozen BK472.out 1; have hfz8_2 := blk_frozen BK472.out 2) | (go_at_call 27; (with_reducible refine (spec_PointTimes.calls k 1009 a0_0 a0_1 a0_2 t474 t475 t476 _ A4.out).mono ?_); rintro e w9 ⟨rfl, hb⟩; replace BK472 := bB BK472 hb; replace HB := bS HB hb; (try clear hb); (try clear hb2); (try clear hk); (try clear hi)))
  go_ret
  exact ⟨by first | rfl | (simp [errW_none, errW_some] <;> rfl) | (simp [*, errW_none, errW_some] <;> rfl), bZ HB⟩
 ·replace c3 := Bool.eq_false_iff.mpr c3
  subst c3
  have H1 : (some false) = some r := by rw [if_neg (show ¬ (false = true) by decide)] at H; exact H
  clear H
  have H := H1
  clear H1
  obtain rfl := Option.some.inj H
  go_enter Try.func52, Try.ntmps52
  go_wp2_with (first | ((with_reducible refine gate_dst (N := 1) rfl ?_); refine box_event ?hg (N := 1) ?hd (cs := #[.int .i64 a0_0, .int .i64 a0_1, .bool a0_2]) (t := 25) ?hr ?_; (case hd => rfl); (case hg => rfl); (case hr => first | (go_simp; done) | (go_simp; rfl)); intro gb472 hg w10 hbox hb; have BK472 := Aside0.mk (hbox); have GW472 := bG HB hg; have GE472 := bG HB hg; replace HB := bS HB hb; clear hb hbox hg; have hcz11_0 : w10.cell? ⟨gb472, 0, none⟩ = some (.int .i64 a0_0) := bc BK472 0; have hcz11_1 : w10.cell? ⟨gb472, 1, none⟩ = some (.int .i64 a0_1) := bc BK472 1; have hcz11_2 : w10.cell? ⟨gb472, 2, none⟩ = some (.bool a0_2) := bc BK472 2; have hfz11_0 := blk_frozen BK472.out 0; have hfz11_1 := blk_frozen BK472.out 1; have hfz11_2 := blk_frozen BK472.out 2) | ((with_reducible refine gate_callee (f := 55) rfl ?_); refine goesL_ (some 4) rfl rfl Try.func55 (by kernel_rfl) rfl #[.agg #[.int .i64 a0_0, .int .i64 a0_1, .bool a0_2]] rfl (by (try simp only [List.map_toArray, List.map_cons, List.map_nil]); first | done | rfl | (simp only [List.length_drop, List.length_take]; rfl)) ?_; (with_reducible refine (spec_PointOk.calls a0_0 a0_1 a0_2 false _ A2.out).mono ?_); rintro e w12 ⟨rfl, hb⟩; refine ⟨_, rfl, ?_⟩; replace BK472 := bB BK472 hb; replace HB := bS HB hb; (try clear hb); (try clear hb2); (try clear hk); (try clear hi)))
  go_ret
  exact ⟨by first | rfl | (simp [errW_none, errW_some] <;> rfl) | (simp [*, errW_none, errW_some] <;> rfl), bZ HB⟩
/-! ### spec_TwoPow: function 70 -/
def spec_TwoPow.l0 : Nat → Int → Int → Int → Int → Int → Option (Int × Int)
 | 0, _, _, _, _, _ => none
 | k + 1, x1, x480000, x480001, x483000, x483001 => if x1 > 0 then (if (Int.tmod x1 2) = 1 then ((spec_TwoMul.f x480000 x480001 x483000 x483001).bind fun bt483 => ((spec_TwoMul.f x483000 x483001 x483000 x483001).bind fun bt485 => (spec_TwoPow.l0 k (wrap64 (Int.tdiv x1 2)) bt483.1 bt483.2 bt485.1 bt485.2))) else ((spec_TwoMul.f x483000 x483001 x483000 x483001).bind fun bt487 => (spec_TwoPow.l0 k (wrap64 (Int.tdiv x1 2)) x480000 x480001 bt487.1 bt487.2))) else (some (x480000, x480001))
def spec_TwoPow.f (k : Nat) (a0_0 : Int) (a0_1 : Int) (a1 : Int) : Option (Int × Int) := if a1 < 0 then (some (0, 0)) else ((spec_FpOf.f a0_0).bind fun t480 => ((spec_FpOf.f a0_1).bind fun t481 => (spec_TwoPow.l0 k a1 1 0 t480 t481)))
theorem spec_TwoPow.mono_l : ∀ k, (∀ y0 y1 y2 y3 y4, LeO (spec_TwoPow.l0 k y0 y1 y2 y3 y4) (spec_TwoPow.l0 (k + 1) y0 y1 y2 y3 y4))
 | 0 => fun _ _ _ _ _ r h => by simp [spec_TwoPow.l0] at h
 | k + 1 => by
  have ih0 := spec_TwoPow.mono_l k
  ·intro y0 y1 y2 y3 y4
   unfold spec_TwoPow.l0
   repeat' first
   | (with_reducible exact ih0 _ _ _ _ _)
   | (with_reducible exact LeO.refl _)
   | (with_reducible exact LeO.none _)
   | (with_reducible refine LeO.ite ?_ ?_)
   | (with_reducible refine LeO.bind ?_ (fun _ => ?_))
   | exact ih0 _ _ _ _ _
   | exact LeO.none _
   | refine LeO.ite ?_ ?_
   | refine LeO.bind ?_ (fun _ => ?_)
theorem spec_TwoPow.mono : ∀ a0 a1 a2 k, LeO (spec_TwoPow.f k a0 a1 a2) (spec_TwoPow.f (k + 1) a0 a1 a2) := by
 intro a0 a1 a2 k
 have ih0 := spec_TwoPow.mono_l k
 unfold spec_TwoPow.f
 repeat' first
   | (with_reducible exact ih0 _ _ _ _ _)
   | (with_reducible exact LeO.refl _)
   | (with_reducible exact LeO.none _)
   | (with_reducible refine LeO.ite ?_ ?_)
   | (with_reducible refine LeO.bind ?_ (fun _ => ?_))
   | exact ih0 _ _ _ _ _
   | exact LeO.none _
   | refine LeO.ite ?_ ?_
   | refine LeO.bind ?_ (fun _ => ?_)
def spec_TwoPow.T4 : Bool × List (List Nat × List Nat) := (true, [([], []), ([0], [0]), ([1], [1]), ([], []), ([3], [3]), ([4, 2], [4]), ([2, 5], [2, 5]), ([], []), ([7, 6, 5, 0, 1, 2, 3, 4, 5, 6, 7], [6, 7])])
def spec_TwoPow.B4 : List Nat := [0, 1, 3, 0, 8, 31, 63, 0, 255]
theorem spec_TwoPow.tab4 : rtab .any (opsOf Try.f70 4) = spec_TwoPow.T4 := by kernel_rfl
theorem spec_TwoPow.bits4 : waitsOk spec_TwoPow.T4.2 spec_TwoPow.B4 = true := by kernel_rfl
set_option maxHeartbeats 8000000 in
set_option maxRecDepth 100000 in
theorem spec_TwoPow.calls (k : Nat) (a0_0 : Int) (a0_1 : Int) (a1 : Int) (r1 : Int) (r2 : Int) (w : World) (h : spec_TwoPow.f k a0_0 a0_1 a1 = some (r1, r2)) :
  Calls Try.prog 70 #[.agg #[.int .i64 a0_0, .int .i64 a0_1], .int .i64 a1] w fun e w' => e = .returned (.agg #[.int .i64 r1, .int .i64 r2]) ∧ Below w.heap.size w w' := by
 have hu31 := Try.underlying31
 have HB := Aside0.mk (Below.refl w.heap.size w)
 have H : (if a1 < 0 then (some (0, 0)) else ((spec_FpOf.f a0_0).bind fun t480 => ((spec_FpOf.f a0_1).bind fun t481 => (spec_TwoPow.l0 k a1 1 0 t480 t481)))) = some (r1, r2) := h
 clear h
 by_cases c3 : a1 < 0
 ·rw [if_pos c3] at H
  have c3b0 : decide (a1 < 0) = true := decide_eq_true c3
  clear c3
  simp only [Option.some.injEq, Prod.mk.injEq] at H
  obtain ⟨rfl, rfl⟩ := H
  go_enter Try.func70, Try.ntmps70
  go_wp2_with (first | ((with_reducible refine gate_dst (N := 2) rfl ?_); refine box_event ?hg (N := 2) ?hd (cs := #[.int .i64 a0_0, .int .i64 a0_1]) (t := 31) ?hr ?_; (case hd => rfl); (case hg => rfl); (case hr => first | (go_simp; done) | (go_simp; rfl)); intro gb477 hg w4 hbox hb; have BK477 := Aside0.mk (hbox); have GW477 := bG HB hg; have GE477 := bG HB hg; replace HB := bS HB hb; clear hb hbox hg) | ((with_reducible refine gate_dst (N := 4) rfl ?_); refine box_event ?hg (N := 4) ?hd (cs := #[.int .i64 0, .int .i64 0]) (t := 31) ?hr ?_; (case hd => rfl); (case hg => rfl); (case hr => first | (go_simp; done) | (go_simp; rfl)); intro gb478 hg w5 hbox hb; have BK478 := Aside0.mk (hbox); have GW478 := bG HB hg; have GE478 := bG HB hg; replace HB := bS HB hb; have NB477_478 := bL BK477 hg; have NB478_477 := bR BK477 hg; replace BK477 := bB BK477 hb; clear hb hbox hg; have hnb6 := NB478_477.out; have hnc6 := NB477_478.out; have hcz7_0 : w5.cell? ⟨gb478, 0, none⟩ = some (.int .i64 0) := bc BK478 0; have hcz7_1 : w5.cell? ⟨gb478, 1, none⟩ = some (.int .i64 0) := bc BK478 1; have hfz7_0 := blk_frozen BK478.out 0; have hfz7_1 := blk_frozen BK478.out 1))
  refine bodyPost_ret (results_cell_row rfl _ _ gb478 31 #[.int .i64 0, .int .i64 0] (0, 0) _ rfl (by (with_reducible repeat (first | refine blk_drewN ?_ _ | refine blk_drew ?_ | refine blk_alloc ?_ _)); refine blk_put (cs := #[.int .i64 0, .int .i64 0]) ?_ 1 _ rfl; (with_reducible repeat (first | refine blk_drewN ?_ _ | refine blk_drew ?_ | refine blk_alloc ?_ _)); refine blk_put (cs := #[.int .i64 0, .int .i64 0]) ?_ 0 _ rfl; (with_reducible repeat (first | refine blk_drewN ?_ _ | refine blk_drew ?_ | refine blk_alloc ?_ _)); exact BK478.out) Try.underlying31 rfl (by kernel_rfl)) rfl ?_
  exact ⟨by first | rfl | (simp [errW_none, errW_some] <;> rfl) | (simp [*, errW_none, errW_some] <;> rfl), bZ HB⟩
 ·rw [if_neg c3] at H
  have c3b0 : decide (a1 < 0) = false := decide_eq_false c3
  clear c3
  replace H := Option.bind_eq_some_iff.mp H
  obtain ⟨t480, A80, H⟩ := H
  replace H : ((spec_FpOf.f a0_1).bind fun t481 => (spec_TwoPow.l0 k a1 1 0 t480 t481)) = some (r1, r2) := H
  have A8 := Aside0.mk A80
  clear A80
  replace H := Option.bind_eq_some_iff.mp H
  obtain ⟨t481, A90, H⟩ := H
  replace H : (spec_TwoPow.l0 k a1 1 0 t480 t481) = some (r1, r2) := H
  have A9 := Aside0.mk A90
  clear A90
  have H' := Aside0.mk H
  clear H
  go_enter Try.func70, Try.ntmps70
  try go_wp2_with (first | ((with_reducible refine gate_dst (N := 2) rfl ?_); refine box_event ?hg (N := 2) ?hd (cs := #[.int .i64 a0_0, .int .i64 a0_1]) (t := 31) ?hr ?_; (case hd => rfl); (case hg => rfl); (case hr => first | (go_simp; done) | (go_simp; rfl)); intro gb477 hg w10 hbox hb; have BK477 := Aside0.mk (hbox); have GW477 := bG HB hg; have GE477 := bG HB hg; replace HB := bS HB hb; clear hb hbox hg) | ((with_reducible refine gate_dst (N := 4) rfl ?_); refine box_event ?hg (N := 4) ?hd (cs := #[.int .i64 0, .int .i64 0]) (t := 31) ?hr ?_; (case hd => rfl); (case hg => rfl); (case hr => first | (go_simp; done) | (go_simp; rfl)); intro gb478 hg w11 hbox hb; have BK478 := Aside0.mk (hbox); have GW478 := bG HB hg; have GE478 := bG HB hg; replace HB := bS HB hb; have NB477_478 := bL BK477 hg; have NB478_477 := bR BK477 hg; replace BK477 := bB BK477 hb; clear hb hbox hg) | ((with_reducible refine gate_dst (N := 5) rfl ?_); refine box_event ?hg (N := 5) ?hd (cs := #[.int .i64 0, .int .i64 0]) (t := 31) ?hr ?_; (case hd => rfl); (case hg => rfl); (case hr => first | (go_simp; done) | (go_simp; rfl)); intro gb479 hg w12 hbox hb; have BK479 := Aside0.mk (hbox); have GW479 := bG HB hg; have GE479 := bG HB hg; replace HB := bS HB hb; have NB477_479 := bL BK477 hg; have NB479_477 := bR BK477 hg; replace BK477 := bB BK477 hb; have NB478_479 := bL BK478 hg; have NB479_478 := bR BK478 hg; replace BK478 := bB BK478 hb; clear hb hbox hg; have hnb13 := NB479_477.out; have hnc13 := NB477_479.out; have hnb14 := NB479_478.out; have hnc14 := NB478_479.out; have hcz15_0 : w12.cell? ⟨gb479, 0, none⟩ = some (.int .i64 0) := bc BK479 0; have hcz15_1 : w12.cell? ⟨gb479, 1, none⟩ = some (.int .i64 0) := bc BK479 1; have hfz15_0 := blk_frozen BK479.out 0; have hfz15_1 := blk_frozen BK479.out 1))
  have n0_ : Aside0 (((w12.setCell ⟨gb479, 0, none⟩ (.int .i64 1)).setCell ⟨gb479, 1, none⟩ (.int .i64 0)).heap[gb477]? = some (.cells #[.int .i64 a0_0, .int .i64 a0_1] 31 (0, 0))) := ⟨bP BK477⟩
  have n1_ : Aside0 (((w12.setCell ⟨gb479, 0, none⟩ (.int .i64 1)).setCell ⟨gb479, 1, none⟩ (.int .i64 0)).heap[gb478]? = some (.cells #[.int .i64 0, .int .i64 0] 31 (0, 0))) := ⟨bP BK478⟩
  have n2_ : Aside0 (((w12.setCell ⟨gb479, 0, none⟩ (.int .i64 1)).setCell ⟨gb479, 1, none⟩ (.int .i64 0)).heap[gb479]? = some (.cells #[.int .i64 1, .int .i64 0] 31 (0, 0))) := ⟨by (with_reducible repeat (first | refine blk_drewN ?_ _ | refine blk_drew ?_ | refine blk_alloc ?_ _)); refine blk_put (cs := #[.int .i64 1, .int .i64 0]) ?_ 1 _ rfl; (with_reducible repeat (first | refine blk_drewN ?_ _ | refine blk_drew ?_ | refine blk_alloc ?_ _)); refine blk_put (cs := #[.int .i64 0, .int .i64 0]) ?_ 0 _ rfl; (with_reducible repeat (first | refine blk_drewN ?_ _ | refine blk_drew ?_ | refine blk_alloc ?_ _)); exact BK479.out⟩
  have n3_ : Aside0 (Below w.heap.size w ((w12.setCell ⟨gb479, 0, none⟩ (.int .i64 1)).setCell ⟨gb479, 1, none⟩ (.int .i64 0))) := ⟨bZ HB⟩
  (try clear BK477)
  (try clear BK478)
  (try clear BK479)
  (try clear HB)
  generalize ((w12.setCell ⟨gb479, 0, none⟩ (.int .i64 1)).setCell ⟨gb479, 1, none⟩ (.int .i64 0)) = w16 at n0_ n1_ n2_ n3_ ⊢
  have BK477 := n0_
  have BK478 := n1_
  have BK479 := n2_
  have HB := n3_
  clear n0_ n1_ n2_ n3_
  replace BK477 := Aside0.mk (blk_drew BK477.out)
  replace BK478 := Aside0.mk (blk_drew BK478.out)
  replace BK479 := Aside0.mk (blk_drew BK479.out)
  replace HB := Aside0.mk (below_drew1 HB.out)
  refine start_ (n := 9) (S := fun w' => w'.cell? ⟨gb477, 0, none⟩ = some (.int .i64 a0_0) ∧ w'.cell? ⟨gb477, 1, none⟩ = some (.int .i64 a0_1)) (ds := []) #[false, false, false, false, false, false, false, false, false] (by kernel_rfl) rfl rfl ⟨bc BK477 0, bc BK477 1⟩ (fun hHeld => ?_); refine with_tabW spec_TwoPow.tab4 spec_TwoPow.bits4 (fun HT_ HW_ => ?_)
  generalize w16.drew = w17 at BK477 BK478 BK479 HB hHeld ⊢
  refine pure_ (i := 0) (N := some 11) (v := ?_) (a' := ?_) #[true, false, false, false, false, false, false, false, false] rfl rfl (any_of HT_.out (by kernel_rfl)) (fun _ _ _ h => h) (Or.inl ⟨by rfl, ?_⟩) ?_ ?_
  rotate_left
  ·intro w'
   go_simp
   with_reducible rfl
  rotate_left
  ·simp only [Act.put, List.setIfInBounds_toArray, List.set_cons_zero, List.set_cons_succ, i64_w, i32_w]
   rfl
  refine pure_ (i := 3) (N := some 14) (v := ?_) (a' := ?_) #[true, false, false, true, false, false, false, false, false] rfl rfl (any_of HT_.out (by kernel_rfl)) (fun _ _ _ h => h) (Or.inl ⟨by rfl, ?_⟩) ?_ ?_
  rotate_left
  ·intro w'
   go_simp
   with_reducible rfl
  rotate_left
  ·simp only [Act.put, List.setIfInBounds_toArray, List.set_cons_zero, List.set_cons_succ, i64_w, i32_w]
   rfl
  refine take_ (i := 1) (N := some 12) (v := ?_) (a' := ?_) #[true, true, false, true, false, false, false, false, false] rfl rfl (take_ofW HT_.out HW_.out (by kernel_rfl)) (fun _ _ _ h => h) (Or.inl ⟨by rfl, ?_⟩) hHeld ?_ ?_
  rotate_left
  ·rintro w' ⟨s0, s1⟩
   go_simp
   with_reducible rfl
  rotate_left
  ·simp only [Act.put, List.setIfInBounds_toArray, List.set_cons_zero, List.set_cons_succ, i64_w, i32_w]
   rfl
  refine take_ (i := 4) (N := some 15) (v := ?_) (a' := ?_) #[true, true, false, true, true, false, false, false, false] rfl rfl (take_ofW HT_.out HW_.out (by kernel_rfl)) (fun _ _ _ h => h) (Or.inl ⟨by rfl, ?_⟩) hHeld ?_ ?_
  rotate_left
  ·rintro w' ⟨s0, s1⟩
   go_simp
   with_reducible rfl
  rotate_left
  ·simp only [Act.put, List.setIfInBounds_toArray, List.set_cons_zero, List.set_cons_succ, i64_w, i32_w]
   rfl
  refine join_ (σ := Nat) 1 #[true, true, true, true, true, true, true, true, false] (fun s_ => [(13, .int .i64 t480), (16, .int .i64 t481), (6, .pointer (some ⟨s_, 0, none⟩)), (17, .agg #[.int .i64 t480, .int .i64 t481])]) (fun s_ w' => (w'.cell? ⟨gb477, 0, none⟩ = some (.int .i64 a0_0) ∧ w'.cell? ⟨gb477, 1, none⟩ = some (.int .i64 a0_1)) ∧ (w'.heap[gb477]? = some (.cells #[.int .i64 a0_0, .int .i64 a0_1] 31 (0, 0))) ∧ (w'.heap[gb478]? = some (.cells #[.int .i64 0, .int .i64 0] 31 (0, 0))) ∧ (w'.heap[gb479]? = some (.cells #[.int .i64 1, .int .i64 0] 31 (0, 0))) ∧ (w'.heap[s_]? = some (.cells #[.int .i64 0, .int .i64 0] 31 (0, 0))) ∧ (w.heap.size ≤ s_) ∧ (w.heap.size ≤ s_) ∧ (gb477 ≠ s_) ∧ (s_ ≠ gb477) ∧ (gb478 ≠ s_) ∧ (s_ ≠ gb478) ∧ (gb479 ≠ s_) ∧ (s_ ≠ gb479) ∧ (Below w.heap.size w w')) ?_ ?_
  rotate_left
  ·intro hCont
   refine two_ (i := 2) (j := 7) (Ni := some 13) (Nj := some 6) #[true, true, true, true, true, false, false, false, false] #[true, true, false, true, true, false, false, true, false] rfl rfl rfl rfl (two_of HT_.out (by kernel_rfl)) (by decide) (by decide) (fun K hK => ?_) (fun K hK => ?_)
   ·skip
    refine goes_ Try.func102 (by kernel_rfl) rfl #[.int .i64 a0_0] (by rfl) rfl rfl (by (try simp only [List.map_toArray, List.map_cons, List.map_nil]); first | done | rfl | (simp only [List.length_drop, List.length_take]; rfl)) ?_
    with_reducible refine (spec_FpOf.calls a0_0 t480 _ A8.out).mono ?_
    rintro e w' ⟨rfl, ⟨nd, rfl⟩⟩
    refine ⟨_, rfl, ?_⟩
    refine hK.out _ _ ⟨bc BK477 0, bc BK477 1⟩ (fun hHeld => ?_)
    clear hK K
    refine norm_ (a' := ?_) ?_ ?_
    rotate_left
    ·show Act.put _ (some 13) _ = _
     simp only [Act.put, List.setIfInBounds_toArray, List.set_cons_zero, List.set_cons_succ, i64_w, i32_w]
     rfl
    refine two_ (i := 5) (j := 7) (Ni := some 16) (Nj := some 6) #[true, true, true, true, true, true, false, false, false] #[true, true, true, true, true, false, false, true, false] rfl rfl rfl rfl (two_of HT_.out (by kernel_rfl)) (by decide) (by decide) (fun K hK => ?_) (fun K hK => ?_)
    ·skip
     refine goes_ Try.func102 (by kernel_rfl) rfl #[.int .i64 a0_1] (by rfl) rfl rfl (by (try simp only [List.map_toArray, List.map_cons, List.map_nil]); first | done | rfl | (simp only [List.length_drop, List.length_take]; rfl)) ?_
     with_reducible refine (spec_FpOf.calls a0_1 t481 _ A9.out).mono ?_
     rintro e w' ⟨rfl, ⟨nd, rfl⟩⟩
     refine ⟨_, rfl, ?_⟩
     refine hK.out _ _ ⟨bc BK477 0, bc BK477 1⟩ (fun hHeld => ?_)
     clear hK K
     refine norm_ (a' := ?_) ?_ ?_
     rotate_left
     ·show Act.put _ (some 16) _ = _
      simp only [Act.put, List.setIfInBounds_toArray, List.set_cons_zero, List.set_cons_succ, i64_w, i32_w]
      rfl
     refine pure_ (i := 6) (N := some 17) (v := ?_) (a' := ?_) #[true, true, true, true, true, true, true, false, false] rfl rfl (any_of HT_.out (by kernel_rfl)) (fun _ _ _ h => h) (Or.inl ⟨by rfl, ?_⟩) ?_ ?_
     rotate_left
     ·intro w'
      go_simp
      with_reducible rfl
     rotate_left
     ·simp only [Act.put, List.setIfInBounds_toArray, List.set_cons_zero, List.set_cons_succ, i64_w, i32_w]
      rfl
     refine one_ (i := 7) (N := some 6) #[true, true, true, true, true, true, true, true, false] rfl rfl (one_of HT_.out (by kernel_rfl)) (by decide) (fun K hK => ?_)
     refine box_step ?hg (N := 6) ?hd (cs := #[.int .i64 0, .int .i64 0]) (t := 31) ?hr ?_; (case hd => rfl); (case hg => rfl); (case hr => first | (go_simp; done) | (go_simp; rfl))
     intro gb482 hg w18 hbox hb
     have BK482 := Aside0.mk (hbox)
     have GW482 := bG HB hg
     have GE482 := bG HB hg
     replace HB := bS HB hb
     have NB477_482 := bL BK477 hg
     have NB482_477 := bR BK477 hg
     replace BK477 := bB BK477 hb
     have NB478_482 := bL BK478 hg
     have NB482_478 := bR BK478 hg
     replace BK478 := bB BK478 hb
     have NB479_482 := bL BK479 hg
     have NB482_479 := bR BK479 hg
     replace BK479 := bB BK479 hb
     clear hb hbox hg
     refine hK.out _ _ ⟨bc BK477 0, bc BK477 1⟩ (fun hHeld => ?_)
     clear hK K
     refine norm_ (a' := ?_) ?_ ?_
     rotate_left
     ·show Act.put _ (some 6) _ = _
      simp only [Act.put, List.setIfInBounds_toArray, List.set_cons_zero, List.set_cons_succ, i64_w, i32_w]
      rfl
     exact norm_ (by simp only [putAll, Act.put, List.setIfInBounds_toArray, List.set_cons_zero, List.set_cons_succ]) (hCont (gb482) _ ⟨hHeld, (bP BK477), (bP BK478), (bP BK479), (bP BK482), GW482.out, GE482.out, NB477_482.out, NB482_477.out, NB478_482.out, NB482_478.out, NB479_482.out, NB482_479.out, (bZ HB)⟩)
    ·skip
     refine box_step ?hg (N := 6) ?hd (cs := #[.int .i64 0, .int .i64 0]) (t := 31) ?hr ?_; (case hd => rfl); (case hg => rfl); (case hr => first | (go_simp; done) | (go_simp; rfl))
     intro gb482 hg w18 hbox hb
     have BK482 := Aside0.mk (hbox)
     have GW482 := bG HB hg
     have GE482 := bG HB hg
     replace HB := bS HB hb
     have NB477_482 := bL BK477 hg
     have NB482_477 := bR BK477 hg
     replace BK477 := bB BK477 hb
     have NB478_482 := bL BK478 hg
     have NB482_478 := bR BK478 hg
     replace BK478 := bB BK478 hb
     have NB479_482 := bL BK479 hg
     have NB482_479 := bR BK479 hg
     replace BK479 := bB BK479 hb
     clear hb hbox hg
     refine hK.out _ _ ⟨bc BK477 0, bc BK477 1⟩ (fun hHeld => ?_)
     clear hK K
     refine norm_ (a' := ?_) ?_ ?_
     rotate_left
     ·show Act.put _ (some 6) _ = _
      simp only [Act.put, List.setIfInBounds_toArray, List.set_cons_zero, List.set_cons_succ, i64_w, i32_w]
      rfl
     refine one_ (i := 5) (N := some 16) #[true, true, true, true, true, true, false, true, false] rfl rfl (one_of HT_.out (by kernel_rfl)) (by decide) (fun K hK => ?_)
     refine goes_ Try.func102 (by kernel_rfl) rfl #[.int .i64 a0_1] (by rfl) rfl rfl (by (try simp only [List.map_toArray, List.map_cons, List.map_nil]); first | done | rfl | (simp only [List.length_drop, List.length_take]; rfl)) ?_
     with_reducible refine (spec_FpOf.calls a0_1 t481 _ A9.out).mono ?_
     rintro e w' ⟨rfl, ⟨nd, rfl⟩⟩
     refine ⟨_, rfl, ?_⟩
     refine hK.out _ _ ⟨bc BK477 0, bc BK477 1⟩ (fun hHeld => ?_)
     clear hK K
     refine norm_ (a' := ?_) ?_ ?_
     rotate_left
     ·show Act.put _ (some 16) _ = _
      simp only [Act.put, List.setIfInBounds_toArray, List.set_cons_zero, List.set_cons_succ, i64_w, i32_w]
      rfl
     refine pure_ (i := 6) (N := some 17) (v := ?_) (a' := ?_) #[true, true, true, true, true, true, true, true, false] rfl rfl (any_of HT_.out (by kernel_rfl)) (fun _ _ _ h => h) (Or.inl ⟨by rfl, ?_⟩) ?_ ?_
     rotate_left
     ·intro w'
      go_simp
      with_reducible rfl
     rotate_left
     ·simp only [Act.put, List.setIfInBounds_toArray, List.set_cons_zero, List.set_cons_succ, i64_w, i32_w]
      rfl
     exact norm_ (by simp only [putAll, Act.put, List.setIfInBounds_toArray, List.set_cons_zero, List.set_cons_succ]) (hCont (gb482) _ ⟨hHeld, (bP BK477), (bP BK478), (bP BK479), (bP BK482), GW482.out, GE482.out, NB477_482.out, NB482_477.out, NB478_482.out, NB482_478.out, NB479_482.out, NB482_479.out, (bZ HB)⟩)
   ·skip
    refine box_step ?hg (N := 6) ?hd (cs := #[.int .i64 0, .int .i64 0]) (t := 31) ?hr ?_; (case hd => rfl); (case hg => rfl); (case hr => first | (go_simp; done) | (go_simp; rfl))
    intro gb482 hg w18 hbox hb
    have BK482 := Aside0.mk (hbox)
    have GW482 := bG HB hg
    have GE482 := bG HB hg
    replace HB := bS HB hb
    have NB477_482 := bL BK477 hg
    have NB482_477 := bR BK477 hg
    replace BK477 := bB BK477 hb
    have NB478_482 := bL BK478 hg
    have NB482_478 := bR BK478 hg
    replace BK478 := bB BK478 hb
    have NB479_482 := bL BK479 hg
    have NB482_479 := bR BK479 hg
    replace BK479 := bB BK479 hb
    clear hb hbox hg
    refine hK.out _ _ ⟨bc BK477 0, bc BK477 1⟩ (fun hHeld => ?_)
    clear hK K
    refine norm_ (a' := ?_) ?_ ?_
    rotate_left
    ·show Act.put _ (some 6) _ = _
     simp only [Act.put, List.setIfInBounds_toArray, List.set_cons_zero, List.set_cons_succ, i64_w, i32_w]
     rfl
    refine one_ (i := 2) (N := some 13) #[true, true, true, true, true, false, false, true, false] rfl rfl (one_of HT_.out (by kernel_rfl)) (by decide) (fun K hK => ?_)
    refine goes_ Try.func102 (by kernel_rfl) rfl #[.int .i64 a0_0] (by rfl) rfl rfl (by (try simp only [List.map_toArray, List.map_cons, List.map_nil]); first | done | rfl | (simp only [List.length_drop, List.length_take]; rfl)) ?_
    with_reducible refine (spec_FpOf.calls a0_0 t480 _ A8.out).mono ?_
    rintro e w' ⟨rfl, ⟨nd, rfl⟩⟩
    refine ⟨_, rfl, ?_⟩
    refine hK.out _ _ ⟨bc BK477 0, bc BK477 1⟩ (fun hHeld => ?_)
    clear hK K
    refine norm_ (a' := ?_) ?_ ?_
    rotate_left
    ·show Act.put _ (some 13) _ = _
     simp only [Act.put, List.setIfInBounds_toArray, List.set_cons_zero, List.set_cons_succ, i64_w, i32_w]
     rfl
    refine one_ (i := 5) (N := some 16) #[true, true, true, true, true, true, false, true, false] rfl rfl (one_of HT_.out (by kernel_rfl)) (by decide) (fun K hK => ?_)
    refine goes_ Try.func102 (by kernel_rfl) rfl #[.int .i64 a0_1] (by rfl) rfl rfl (by (try simp only [List.map_toArray, List.map_cons, List.map_nil]); first | done | rfl | (simp only [List.length_drop, List.length_take]; rfl)) ?_
    with_reducible refine (spec_FpOf.calls a0_1 t481 _ A9.out).mono ?_
    rintro e w' ⟨rfl, ⟨nd, rfl⟩⟩
    refine ⟨_, rfl, ?_⟩
    refine hK.out _ _ ⟨bc BK477 0, bc BK477 1⟩ (fun hHeld => ?_)
    clear hK K
    refine norm_ (a' := ?_) ?_ ?_
    rotate_left
    ·show Act.put _ (some 16) _ = _
     simp only [Act.put, List.setIfInBounds_toArray, List.set_cons_zero, List.set_cons_succ, i64_w, i32_w]
     rfl
    refine pure_ (i := 6) (N := some 17) (v := ?_) (a' := ?_) #[true, true, true, true, true, true, true, true, false] rfl rfl (any_of HT_.out (by kernel_rfl)) (fun _ _ _ h => h) (Or.inl ⟨by rfl, ?_⟩) ?_ ?_
    rotate_left
    ·intro w'
     go_simp
     with_reducible rfl
    rotate_left
    ·simp only [Act.put, List.setIfInBounds_toArray, List.set_cons_zero, List.set_cons_succ, i64_w, i32_w]
     rfl
    exact norm_ (by simp only [putAll, Act.put, List.setIfInBounds_toArray, List.set_cons_zero, List.set_cons_succ]) (hCont (gb482) _ ⟨hHeld, (bP BK477), (bP BK478), (bP BK479), (bP BK482), GW482.out, GE482.out, NB477_482.out, NB482_477.out, NB478_482.out, NB482_478.out, NB479_482.out, NB482_479.out, (bZ HB)⟩)
  rintro gb482 w19 ⟨hS_, h0_, h1_, h2_, h3_, h4_, h5_, h6_, h7_, h8_, h9_, h10_, h11_, h12_⟩
  replace BK477 : Aside0 (w19.heap[gb477]? = some (.cells #[.int .i64 a0_0, .int .i64 a0_1] 31 (0, 0))) := ⟨h0_⟩
  replace BK478 : Aside0 (w19.heap[gb478]? = some (.cells #[.int .i64 0, .int .i64 0] 31 (0, 0))) := ⟨h1_⟩
  replace BK479 : Aside0 (w19.heap[gb479]? = some (.cells #[.int .i64 1, .int .i64 0] 31 (0, 0))) := ⟨h2_⟩
  have BK482 : Aside0 (w19.heap[gb482]? = some (.cells #[.int .i64 0, .int .i64 0] 31 (0, 0))) := ⟨h3_⟩
  have GW482 : Aside0 (w.heap.size ≤ gb482) := ⟨h4_⟩
  have GE482 : Aside0 (w.heap.size ≤ gb482) := ⟨h5_⟩
  have NB477_482 : Aside0 (gb477 ≠ gb482) := ⟨h6_⟩
  have NB482_477 : Aside0 (gb482 ≠ gb477) := ⟨h7_⟩
  have NB478_482 : Aside0 (gb478 ≠ gb482) := ⟨h8_⟩
  have NB482_478 : Aside0 (gb482 ≠ gb478) := ⟨h9_⟩
  have NB479_482 : Aside0 (gb479 ≠ gb482) := ⟨h10_⟩
  have NB482_479 : Aside0 (gb482 ≠ gb479) := ⟨h11_⟩
  replace HB : Aside0 (Below w.heap.size w w19) := ⟨h12_⟩
  clear h0_ h1_ h2_ h3_ h4_ h5_ h6_ h7_ h8_ h9_ h10_ h11_ h12_
  have hHeld : w19.cell? ⟨gb477, 0, none⟩ = some (.int .i64 a0_0) ∧ w19.cell? ⟨gb477, 1, none⟩ = some (.int .i64 a0_1) := hS_
  refine norm_ (a' := ?_) ?_ ?_
  rotate_left
  ·simp only [putAll, Act.put, List.setIfInBounds_toArray, List.set_cons_zero, List.set_cons_succ]
   rfl
  refine one_ (i := 8) (N := none) #[true, true, true, true, true, true, true, true, true] rfl rfl (one_of HT_.out (by kernel_rfl)) (by decide) (fun K hK => ?_)
  have hs20 : w19.cell? ⟨gb482, 0, none⟩ = some (.int .i64 0) := bc BK482 0
  have hfs20 := blk_frozen BK482.out 0
  have hns20_0 := NB477_482.out
  have hns20_1 := NB478_482.out
  have hns20_2 := NB479_482.out
  have hms20_0 := NB482_477.out
  have hms20_1 := NB482_478.out
  have hms20_2 := NB482_479.out
  have hs21 : w19.cell? ⟨gb482, 1, none⟩ = some (.int .i64 0) := bc BK482 1
  have hfs21 := blk_frozen BK482.out 1
  have hns21_0 := NB477_482.out
  have hns21_1 := NB478_482.out
  have hns21_2 := NB479_482.out
  have hms21_0 := NB482_477.out
  have hms21_1 := NB482_478.out
  have hms21_2 := NB482_479.out
  refine skip_ (w1 := ?_) (by rfl) rfl ?_ ?_
  rotate_left
  ·go_simp
   rfl
  refine hK.out _ _ ⟨((cell_far (p := ⟨gb482, _, none⟩) NB477_482.out _).trans (((cell_far (p := ⟨gb482, _, none⟩) NB477_482.out _).trans (hHeld.1)))), ((cell_far (p := ⟨gb482, _, none⟩) NB477_482.out _).trans (((cell_far (p := ⟨gb482, _, none⟩) NB477_482.out _).trans (hHeld.2))))⟩ (fun hHeld => ?_)
  clear hK K
  refine done_ (done_of HT_.out (by kernel_rfl)) ?_
  try go_wp2
  go_loopg [1] k (fun kq v1 w' => ∃ (x1_1 : Int) (x480000_1 : Int) (x480001_1 : Int) (x483000_1 : Int) (x483001_1 : Int), v1 = .int .i64 x1_1 ∧ Aside0 (spec_TwoPow.l0 kq x1_1 x480000_1 x480001_1 x483000_1 x483001_1 = some (r1, r2)) ∧ Aside0 (kq ≤ k) ∧ Aside0 (w'.heap[gb477]? = some (.cells #[.int .i64 a0_0, .int .i64 a0_1] 31 (0, 0))) ∧ Aside0 (w'.heap[gb478]? = some (.cells #[.int .i64 0, .int .i64 0] 31 (0, 0))) ∧ Aside0 (w'.heap[gb479]? = some (.cells #[.int .i64 x480000_1, .int .i64 x480001_1] 31 (0, 0))) ∧ Aside0 (w'.heap[gb482]? = some (.cells #[.int .i64 x483000_1, .int .i64 x483001_1] 31 (0, 0))) ∧ Aside0 (Below w.heap.size w w'))
  case atStart => exact ⟨(a1), (1), (0), (t480), (t481), (by first | rfl | (simp; done) | (simp [*]; done)), H', ⟨Nat.le_refl _⟩, ⟨bP BK477⟩, ⟨bP BK478⟩, ⟨bP BK479⟩, ⟨by (with_reducible repeat (first | refine blk_drewN ?_ _ | refine blk_drew ?_ | refine blk_alloc ?_ _)); refine blk_put (cs := #[.int .i64 t480, .int .i64 0]) ?_ 1 _ rfl; (with_reducible repeat (first | refine blk_drewN ?_ _ | refine blk_drew ?_ | refine blk_alloc ?_ _)); refine blk_put (cs := #[.int .i64 0, .int .i64 0]) ?_ 0 _ rfl; (with_reducible repeat (first | refine blk_drewN ?_ _ | refine blk_drew ?_ | refine blk_alloc ?_ _)); exact BK482.out⟩, ⟨bZ HB⟩⟩
  case round =>
   clear H'
   try clear c1
   try clear p2
   try clear c3
   try clear c3b0
   try clear c6
   try clear c7
   try clear c10
   try clear c13
   try clear c14
   try clear hcz15_0
   try clear hcz15_1
   try clear hcz7_0
   try clear hcz7_1
   try clear hfz15_0
   try clear hfz15_1
   try clear hfz7_0
   try clear hfz7_1
   obtain ⟨x1_1, x480000_1, x480001_1, x483000_1, x483001_1, rfl, HA, HK1, BK477, BK478, BK479, BK482, HB⟩ := hrel
   cases gk with
   | zero => exact absurd HA.out (by simp [spec_TwoPow.l0])
   | succ k1 =>
    have H := HA.out
    clear HA
    simp only [spec_TwoPow.l0] at H
    by_cases c22 : x1_1 > 0
    ·rw [if_pos c22] at H
     have c22b0 : decide (0 < x1_1) = true := decide_eq_true c22
     clear c22
     by_cases c23 : (Int.tmod x1_1 2) = 1
     ·rw [if_pos c23] at H
      have c23b0 : ((Int.tmod x1_1 2) == 1) = true := beq_iff_eq.mpr c23
      have c23b1 : ((Int.tmod x1_1 2) != 1) = false := bne_eq_false_iff_eq.mpr c23
      clear c23
      replace H := Option.bind_eq_some_iff.mp H
      obtain ⟨⟨t483, t484⟩, A240, H⟩ := H
      replace H : ((spec_TwoMul.f x483000_1 x483001_1 x483000_1 x483001_1).bind fun bt485 => (spec_TwoPow.l0 k1 (wrap64 (Int.tdiv x1_1 2)) t483 t484 bt485.1 bt485.2)) = some (r1, r2) := H
      have A24 := Aside0.mk A240
      clear A240
      replace H := Option.bind_eq_some_iff.mp H
      obtain ⟨⟨t485, t486⟩, A250, H⟩ := H
      replace H : (spec_TwoPow.l0 k1 (wrap64 (Int.tdiv x1_1 2)) t483 t484 t485 t486) = some (r1, r2) := H
      have A25 := Aside0.mk A250
      clear A250
      have H' := Aside0.mk H
      clear H
      have hnb26 := NB479_477.out
      have hnc26 := NB477_479.out
      have hnb27 := NB479_478.out
      have hnc27 := NB478_479.out
      have hnb28 := NB479_482.out
      have hnc28 := NB482_479.out
      have hcz29_0 : wr.cell? ⟨gb479, 0, none⟩ = some (.int .i64 x480000_1) := bc BK479 0
      have hcz29_1 : wr.cell? ⟨gb479, 1, none⟩ = some (.int .i64 x480001_1) := bc BK479 1
      have hfz29_0 := blk_frozen BK479.out 0
      have hfz29_1 := blk_frozen BK479.out 1
      have hnb30 := NB482_477.out
      have hnc30 := NB477_482.out
      have hnb31 := NB482_478.out
      have hnc31 := NB478_482.out
      have hcz32_0 : wr.cell? ⟨gb482, 0, none⟩ = some (.int .i64 x483000_1) := bc BK482 0
      have hcz32_1 : wr.cell? ⟨gb482, 1, none⟩ = some (.int .i64 x483001_1) := bc BK482 1
      have hfz32_0 := blk_frozen BK482.out 0
      have hfz32_1 := blk_frozen BK482.out 1
      go_wp2_with (first | ((with_reducible refine gate_callee (f := 71) rfl ?_); refine goesL_ (some 25) rfl rfl Try.func71 (by kernel_rfl) rfl #[.agg #[.int .i64 x480000_1, .int .i64 x480001_1], .agg #[.int .i64 x483000_1, .int .i64 x483001_1]] rfl (by (try simp only [List.map_toArray, List.map_cons, List.map_nil]); first | done | rfl | (simp only [List.length_drop, List.length_take]; rfl)) ?_; (with_reducible refine (spec_TwoMul.calls x480000_1 x480001_1 x483000_1 x483001_1 t483 t484 _ A24.out).mono ?_); rintro e w33 ⟨rfl, hb⟩; refine ⟨_, rfl, ?_⟩; replace BK477 := bB BK477 hb; replace BK478 := bB BK478 hb; replace BK479 := bB BK479 hb; replace BK482 := bB BK482 hb; replace HB := bS HB hb; (try clear hb); (try clear hb2); (try clear hk); (try clear hi); have hcz34_0 : w33.cell? ⟨gb479, 0, none⟩ = some (.int .i64 x480000_1) := bc BK479 0; have hcz34_1 : w33.cell? ⟨gb479, 1, none⟩ = some (.int .i64 x480001_1) := bc BK479 1; have hfz34_0 := blk_frozen BK479.out 0; have hfz34_1 := blk_frozen BK479.out 1; have hcz35_0 : w33.cell? ⟨gb482, 0, none⟩ = some (.int .i64 x483000_1) := bc BK482 0; have hcz35_1 : w33.cell? ⟨gb482, 1, none⟩ = some (.int .i64 x483001_1) := bc BK482 1; have hfz35_0 := blk_frozen BK482.out 0; have hfz35_1 := blk_frozen BK482.out 1) | ((with_reducible refine gate_callee (f := 71) rfl ?_); refine goesL_ (some 28) rfl rfl Try.func71 (by kernel_rfl) rfl #[.agg #[.int .i64 x483000_1, .int .i64 x483001_1], .agg #[.int .i64 x483000_1, .int .i64 x483001_1]] rfl (by (try simp only [List.map_toArray, List.map_cons, List.map_nil]); first | done | rfl | (simp only [List.length_drop, List.length_take]; rfl)) ?_; (with_reducible refine (spec_TwoMul.calls x483000_1 x483001_1 x483000_1 x483001_1 t485 t486 _ A25.out).mono ?_); rintro e w36 ⟨rfl, hb⟩; refine ⟨_, rfl, ?_⟩; replace BK477 := bB BK477 hb; replace BK478 := bB BK478 hb; replace BK479 := Aside0.mk (blk_below (g := gb479) (o := .cells #[.int .i64 t483, .int .i64 t484] 31 (0, 0)) (by (with_reducible repeat (first | refine blk_drewN ?_ _ | refine blk_drew ?_ | refine blk_alloc ?_ _)); refine blk_put (cs := #[.int .i64 t483, .int .i64 x480001_1]) ?_ 1 _ rfl; (with_reducible repeat (first | refine blk_drewN ?_ _ | refine blk_drew ?_ | refine blk_alloc ?_ _)); refine blk_put (cs := #[.int .i64 x480000_1, .int .i64 x480001_1]) ?_ 0 _ rfl; (with_reducible repeat (first | refine blk_drewN ?_ _ | refine blk_drew ?_ | refine blk_alloc ?_ _)); exact BK479.out) hb); replace BK482 := bB BK482 hb; replace HB := bS HB hb; (try clear hb); (try clear hb2); (try clear hk); (try clear hi); have hcz37_0 : w36.cell? ⟨gb482, 0, none⟩ = some (.int .i64 x483000_1) := bc BK482 0; have hcz37_1 : w36.cell? ⟨gb482, 1, none⟩ = some (.int .i64 x483001_1) := bc BK482 1; have hfz37_0 := blk_frozen BK482.out 0; have hfz37_1 := blk_frozen BK482.out 1))
      go_roundg k1
      case measure => have := HK1.out; omega
      case rel => exact ⟨(wrap64 (Int.tdiv x1_1 2)), (t483), (t484), (t485), (t486), (by first | rfl | (simp; done) | (simp [*]; done)), H', ⟨by have := HK1.out; omega⟩, ⟨bP BK477⟩, ⟨bP BK478⟩, ⟨bP BK479⟩, ⟨by (with_reducible repeat (first | refine blk_drewN ?_ _ | refine blk_drew ?_ | refine blk_alloc ?_ _)); refine blk_put (cs := #[.int .i64 t485, .int .i64 x483001_1]) ?_ 1 _ rfl; (with_reducible repeat (first | refine blk_drewN ?_ _ | refine blk_drew ?_ | refine blk_alloc ?_ _)); refine blk_put (cs := #[.int .i64 x483000_1, .int .i64 x483001_1]) ?_ 0 _ rfl; (with_reducible repeat (first | refine blk_drewN ?_ _ | refine blk_drew ?_ | refine blk_alloc ?_ _)); exact BK482.out⟩, ⟨bZ HB⟩⟩
     ·rw [if_neg c23] at H
      have c23b0 : ((Int.tmod x1_1 2) == 1) = false := beq_eq_false_iff_ne.mpr c23
      have c23b1 : ((Int.tmod x1_1 2) != 1) = true := bne_iff_ne.mpr c23
      replace H := Option.bind_eq_some_iff.mp H
      obtain ⟨⟨t487, t488⟩, A380, H⟩ := H
      replace H : (spec_TwoPow.l0 k1 (wrap64 (Int.tdiv x1_1 2)) x480000_1 x480001_1 t487 t488) = some (r1, r2) := H
      have A38 := Aside0.mk A380
      clear A380
      have H' := Aside0.mk H
      clear H
      have hnb39 := NB482_477.out
      have hnc39 := NB477_482.out
      have hnb40 := NB482_478.out
      have hnc40 := NB478_482.out
      have hnb41 := NB482_479.out
      have hnc41 := NB479_482.out
      have hcz42_0 : wr.cell? ⟨gb482, 0, none⟩ = some (.int .i64 x483000_1) := bc BK482 0
      have hcz42_1 : wr.cell? ⟨gb482, 1, none⟩ = some (.int .i64 x483001_1) := bc BK482 1
      have hfz42_0 := blk_frozen BK482.out 0
      have hfz42_1 := blk_frozen BK482.out 1
      go_wp2_with (first | ((with_reducible refine gate_callee (f := 71) rfl ?_); refine goesL_ (some 28) rfl rfl Try.func71 (by kernel_rfl) rfl #[.agg #[.int .i64 x483000_1, .int .i64 x483001_1], .agg #[.int .i64 x483000_1, .int .i64 x483001_1]] rfl (by (try simp only [List.map_toArray, List.map_cons, List.map_nil]); first | done | rfl | (simp only [List.length_drop, List.length_take]; rfl)) ?_; (with_reducible refine (spec_TwoMul.calls x483000_1 x483001_1 x483000_1 x483001_1 t487 t488 _ A38.out).mono ?_); rintro e w43 ⟨rfl, hb⟩; refine ⟨_, rfl, ?_⟩; replace BK477 := bB BK477 hb; replace BK478 := bB BK478 hb; replace BK479 := bB BK479 hb; replace BK482 := bB BK482 hb; replace HB := bS HB hb; (try clear hb); (try clear hb2); (try clear hk); (try clear hi); have hcz44_0 : w43.cell? ⟨gb482, 0, none⟩ = some (.int .i64 x483000_1) := bc BK482 0; have hcz44_1 : w43.cell? ⟨gb482, 1, none⟩ = some (.int .i64 x483001_1) := bc BK482 1; have hfz44_0 := blk_frozen BK482.out 0; have hfz44_1 := blk_frozen BK482.out 1))
      go_roundg k1
      case measure => have := HK1.out; omega
      case rel => exact ⟨(wrap64 (Int.tdiv x1_1 2)), (x480000_1), (x480001_1), (t487), (t488), (by first | rfl | (simp; done) | (simp [*]; done)), H', ⟨by have := HK1.out; omega⟩, ⟨bP BK477⟩, ⟨bP BK478⟩, ⟨bP BK479⟩, ⟨by (with_reducible repeat (first | refine blk_drewN ?_ _ | refine blk_drew ?_ | refine blk_alloc ?_ _)); refine blk_put (cs := #[.int .i64 t487, .int .i64 x483001_1]) ?_ 1 _ rfl; (with_reducible repeat (first | refine blk_drewN ?_ _ | refine blk_drew ?_ | refine blk_alloc ?_ _)); refine blk_put (cs := #[.int .i64 x483000_1, .int .i64 x483001_1]) ?_ 0 _ rfl; (with_reducible repeat (first | refine blk_drewN ?_ _ | refine blk_drew ?_ | refine blk_alloc ?_ _)); exact BK482.out⟩, ⟨bZ HB⟩⟩
    ·rw [if_neg c22] at H
     have c22b0 : decide (0 < x1_1) = false := decide_eq_false c22
     clear c22
     simp only [Option.some.injEq, Prod.mk.injEq] at H
     obtain ⟨rfl, rfl⟩ := H
     have hnb45 := NB479_477.out
     have hnc45 := NB477_479.out
     have hnb46 := NB479_478.out
     have hnc46 := NB478_479.out
     have hnb47 := NB479_482.out
     have hnc47 := NB482_479.out
     have hcz48_0 : wr.cell? ⟨gb479, 0, none⟩ = some (.int .i64 x480000_1) := bc BK479 0
     have hcz48_1 : wr.cell? ⟨gb479, 1, none⟩ = some (.int .i64 x480001_1) := bc BK479 1
     have hfz48_0 := blk_frozen BK479.out 0
     have hfz48_1 := blk_frozen BK479.out 1
     have hnb49 := NB478_477.out
     have hnc49 := NB477_478.out
     have hnb50 := NB478_482.out
     have hnc50 := NB482_478.out
     have hcz51_0 : wr.cell? ⟨gb478, 0, none⟩ = some (.int .i64 0) := bc BK478 0
     have hcz51_1 : wr.cell? ⟨gb478, 1, none⟩ = some (.int .i64 0) := bc BK478 1
     have hfz51_0 := blk_frozen BK478.out 0
     have hfz51_1 := blk_frozen BK478.out 1
     go_wp2
     refine bodyPost_ret (results_cell_row rfl _ _ gb478 31 #[.int .i64 x480000_1, .int .i64 x480001_1] (0, 0) _ rfl (by (with_reducible repeat (first | refine blk_drewN ?_ _ | refine blk_drew ?_ | refine blk_alloc ?_ _)); refine blk_put (cs := #[.int .i64 x480000_1, .int .i64 0]) ?_ 1 _ rfl; (with_reducible repeat (first | refine blk_drewN ?_ _ | refine blk_drew ?_ | refine blk_alloc ?_ _)); refine blk_put (cs := #[.int .i64 0, .int .i64 0]) ?_ 0 _ rfl; (with_reducible repeat (first | refine blk_drewN ?_ _ | refine blk_drew ?_ | refine blk_alloc ?_ _)); exact BK478.out) Try.underlying31 rfl (by kernel_rfl)) rfl ?_
     exact ⟨by first | rfl | (simp [errW_none, errW_some] <;> rfl) | (simp [*, errW_none, errW_some] <;> rfl), bZ HB⟩
/-! ### spec_TwoTurn: function 72 -/
def spec_TwoTurn.f (a0_0 : Int) (a0_1 : Int) : Option (Int × Int) := (spec_FpOf.f a0_0).bind fun t491 => ((spec_FpSub.f 0 a0_1).bind fun t492 => (some (t491, t492)))
def spec_TwoTurn.T1 : Bool × List (List Nat × List Nat) := (true, [([], []), ([0], [0]), ([1], [1]), ([], []), ([3], [3]), ([4, 2], [4]), ([2, 5], [2, 5]), ([6, 5, 0, 1, 2, 3, 4, 5, 6], [6])])
def spec_TwoTurn.B1 : List Nat := [0, 1, 3, 0, 8, 31, 63, 127]
theorem spec_TwoTurn.tab1 : rtab .any (opsOf Try.f72 1) = spec_TwoTurn.T1 := by kernel_rfl
theorem spec_TwoTurn.bits1 : waitsOk spec_TwoTurn.T1.2 spec_TwoTurn.B1 = true := by kernel_rfl
set_option maxHeartbeats 8000000 in
set_option maxRecDepth 100000 in
theorem spec_TwoTurn.calls (a0_0 : Int) (a0_1 : Int) (r1 : Int) (r2 : Int) (w : World) (h : spec_TwoTurn.f a0_0 a0_1 = some (r1, r2)) :
  Calls Try.prog 72 #[.agg #[.int .i64 a0_0, .int .i64 a0_1]] w fun e w' => e = .returned (.agg #[.int .i64 r1, .int .i64 r2]) ∧ Below w.heap.size w w' := by
 have hu31 := Try.underlying31
 have HB := Aside0.mk (Below.refl w.heap.size w)
 have H : ((spec_FpOf.f a0_0).bind fun t491 => ((spec_FpSub.f 0 a0_1).bind fun t492 => (some (t491, t492)))) = some (r1, r2) := h
 clear h
 replace H := Option.bind_eq_some_iff.mp H
 obtain ⟨t491, A20, H⟩ := H
 replace H : ((spec_FpSub.f 0 a0_1).bind fun t492 => (some (t491, t492))) = some (r1, r2) := H
 have A2 := Aside0.mk A20
 clear A20
 replace H := Option.bind_eq_some_iff.mp H
 obtain ⟨t492, A30, H⟩ := H
 replace H : (some (t491, t492)) = some (r1, r2) := H
 have A3 := Aside0.mk A30
 clear A30
 simp only [Option.some.injEq, Prod.mk.injEq] at H
 obtain ⟨rfl, rfl⟩ := H
 go_enter Try.func72, Try.ntmps72
 try go_wp2_with (first | ((with_reducible refine gate_dst (N := 1) rfl ?_); refine box_event ?hg (N := 1) ?hd (cs := #[.int .i64 a0_0, .int .i64 a0_1]) (t := 31) ?hr ?_; (case hd => rfl); (case hg => rfl); (case hr => first | (go_simp; done) | (go_simp; rfl)); intro gb489 hg w4 hbox hb; have BK489 := Aside0.mk (hbox); have GW489 := bG HB hg; have GE489 := bG HB hg; replace HB := bS HB hb; clear hb hbox hg) | ((with_reducible refine gate_dst (N := 2) rfl ?_); refine box_event ?hg (N := 2) ?hd (cs := #[.int .i64 0, .int .i64 0]) (t := 31) ?hr ?_; (case hd => rfl); (case hg => rfl); (case hr => first | (go_simp; done) | (go_simp; rfl)); intro gb490 hg w5 hbox hb; have BK490 := Aside0.mk (hbox); have GW490 := bG HB hg; have GE490 := bG HB hg; replace HB := bS HB hb; have NB489_490 := bL BK489 hg; have NB490_489 := bR BK489 hg; replace BK489 := bB BK489 hb; clear hb hbox hg))
 replace BK489 := Aside0.mk (blk_drew BK489.out)
 replace BK490 := Aside0.mk (blk_drew BK490.out)
 replace HB := Aside0.mk (below_drew1 HB.out)
 refine start_ (n := 8) (S := fun w' => w'.cell? ⟨gb489, 0, none⟩ = some (.int .i64 a0_0) ∧ w'.cell? ⟨gb489, 1, none⟩ = some (.int .i64 a0_1)) (ds := []) #[false, false, false, false, false, false, false, false] (by kernel_rfl) rfl rfl ⟨bc BK489 0, bc BK489 1⟩ (fun hHeld => ?_); refine with_tabW spec_TwoTurn.tab1 spec_TwoTurn.bits1 (fun HT_ HW_ => ?_)
 generalize w5.drew = w6 at BK489 BK490 HB hHeld ⊢
 refine pure_ (i := 0) (N := some 3) (v := ?_) (a' := ?_) #[true, false, false, false, false, false, false, false] rfl rfl (any_of HT_.out (by kernel_rfl)) (fun _ _ _ h => h) (Or.inl ⟨by rfl, ?_⟩) ?_ ?_
 rotate_left
 ·intro w'
  go_simp
  with_reducible rfl
 rotate_left
 ·simp only [Act.put, List.setIfInBounds_toArray, List.set_cons_zero, List.set_cons_succ, i64_w, i32_w]
  rfl
 refine pure_ (i := 3) (N := some 6) (v := ?_) (a' := ?_) #[true, false, false, true, false, false, false, false] rfl rfl (any_of HT_.out (by kernel_rfl)) (fun _ _ _ h => h) (Or.inl ⟨by rfl, ?_⟩) ?_ ?_
 rotate_left
 ·intro w'
  go_simp
  with_reducible rfl
 rotate_left
 ·simp only [Act.put, List.setIfInBounds_toArray, List.set_cons_zero, List.set_cons_succ, i64_w, i32_w]
  rfl
 refine take_ (i := 1) (N := some 4) (v := ?_) (a' := ?_) #[true, true, false, true, false, false, false, false] rfl rfl (take_ofW HT_.out HW_.out (by kernel_rfl)) (fun _ _ _ h => h) (Or.inl ⟨by rfl, ?_⟩) hHeld ?_ ?_
 rotate_left
 ·rintro w' ⟨s0, s1⟩
  go_simp
  with_reducible rfl
 rotate_left
 ·simp only [Act.put, List.setIfInBounds_toArray, List.set_cons_zero, List.set_cons_succ, i64_w, i32_w]
  rfl
 refine take_ (i := 4) (N := some 7) (v := ?_) (a' := ?_) #[true, true, false, true, true, false, false, false] rfl rfl (take_ofW HT_.out HW_.out (by kernel_rfl)) (fun _ _ _ h => h) (Or.inl ⟨by rfl, ?_⟩) hHeld ?_ ?_
 rotate_left
 ·rintro w' ⟨s0, s1⟩
  go_simp
  with_reducible rfl
 rotate_left
 ·simp only [Act.put, List.setIfInBounds_toArray, List.set_cons_zero, List.set_cons_succ, i64_w, i32_w]
  rfl
 refine one_ (i := 2) (N := some 5) #[true, true, true, true, true, false, false, false] rfl rfl (one_of HT_.out (by kernel_rfl)) (by decide) (fun K hK => ?_)
 refine goes_ Try.func102 (by kernel_rfl) rfl #[.int .i64 a0_0] (by rfl) rfl rfl (by (try simp only [List.map_toArray, List.map_cons, List.map_nil]); first | done | rfl | (simp only [List.length_drop, List.length_take]; rfl)) ?_
 with_reducible refine (spec_FpOf.calls a0_0 t491 _ A2.out).mono ?_
 rintro e w' ⟨rfl, ⟨nd, rfl⟩⟩
 refine ⟨_, rfl, ?_⟩
 refine hK.out _ _ ⟨bc BK489 0, bc BK489 1⟩ (fun hHeld => ?_)
 clear hK K
 refine norm_ (a' := ?_) ?_ ?_
 rotate_left
 ·show Act.put _ (some 5) _ = _
  simp only [Act.put, List.setIfInBounds_toArray, List.set_cons_zero, List.set_cons_succ, i64_w, i32_w]
  rfl
 refine one_ (i := 5) (N := some 8) #[true, true, true, true, true, true, false, false] rfl rfl (one_of HT_.out (by kernel_rfl)) (by decide) (fun K hK => ?_)
 refine goes_ Try.func75 (by kernel_rfl) rfl #[.int .i64 0, .int .i64 a0_1] (by rfl) rfl rfl (by (try simp only [List.map_toArray, List.map_cons, List.map_nil]); first | done | rfl | (simp only [List.length_drop, List.length_take]; rfl)) ?_
 with_reducible refine (spec_FpSub.calls 0 a0_1 t492 _ A3.out).mono ?_
 rintro e w' ⟨rfl, ⟨nd, rfl⟩⟩
 refine ⟨_, rfl, ?_⟩
 refine hK.out _ _ ⟨bc BK489 0, bc BK489 1⟩ (fun hHeld => ?_)
 clear hK K
 refine norm_ (a' := ?_) ?_ ?_
 rotate_left
 ·show Act.put _ (some 8) _ = _
  simp only [Act.put, List.setIfInBounds_toArray, List.set_cons_zero, List.set_cons_succ, i64_w, i32_w]
  rfl
 refine pure_ (i := 6) (N := some 9) (v := ?_) (a' := ?_) #[true, true, true, true, true, true, true, false] rfl rfl (any_of HT_.out (by kernel_rfl)) (fun _ _ _ h => h) (Or.inl ⟨by rfl, ?_⟩) ?_ ?_
 rotate_left
 ·intro w'
  go_simp
  with_reducible rfl
 rotate_left
 ·simp only [Act.put, List.setIfInBounds_toArray, List.set_cons_zero, List.set_cons_succ, i64_w, i32_w]
  rfl
 refine one_ (i := 7) (N := none) #[true, true, true, true, true, true, true, true] rfl rfl (one_of HT_.out (by kernel_rfl)) (by decide) (fun K hK => ?_)
 have hs7 : w6.cell? ⟨gb490, 0, none⟩ = some (.int .i64 0) := bc BK490 0
 have hfs7 := blk_frozen BK490.out 0
 have hns7_0 := NB489_490.out
 have hms7_0 := NB490_489.out
 have hs8 : w6.cell? ⟨gb490, 1, none⟩ = some (.int .i64 0) := bc BK490 1
 have hfs8 := blk_frozen BK490.out 1
 have hns8_0 := NB489_490.out
 have hms8_0 := NB490_489.out
 refine skip_ (w1 := ?_) (by rfl) rfl ?_ ?_
 rotate_left
 ·go_simp
  rfl
 refine hK.out _ _ ⟨((cell_far (p := ⟨gb490, _, none⟩) NB489_490.out _).trans (((cell_far (p := ⟨gb490, _, none⟩) NB489_490.out _).trans (hHeld.1)))), ((cell_far (p := ⟨gb490, _, none⟩) NB489_490.out _).trans (((cell_far (p := ⟨gb490, _, none⟩) NB489_490.out _).trans (hHeld.2))))⟩ (fun hHeld => ?_)
 clear hK K
 refine done_ (done_of HT_.out (by kernel_rfl)) ?_
 try go_wp2
 refine bodyPost_ret (results_cell_row rfl _ _ gb490 31 #[.int .i64 t491, .int .i64 t492] (0, 0) _ rfl (by (with_reducible repeat (first | refine blk_drewN ?_ _ | refine blk_drew ?_ | refine blk_alloc ?_ _)); refine blk_put (cs := #[.int .i64 t491, .int .i64 0]) ?_ 1 _ rfl; (with_reducible repeat (first | refine blk_drewN ?_ _ | refine blk_drew ?_ | refine blk_alloc ?_ _)); refine blk_put (cs := #[.int .i64 0, .int .i64 0]) ?_ 0 _ rfl; (with_reducible repeat (first | refine blk_drewN ?_ _ | refine blk_drew ?_ | refine blk_alloc ?_ _)); exact BK490.out) Try.underlying31 rfl (by kernel_rfl)) rfl ?_
 exact ⟨by first | rfl | (simp [errW_none, errW_some] <;> rfl) | (simp [*, errW_none, errW_some] <;> rfl), bZ HB⟩
/-! ### spec_TwoInv: function 73 -/
def spec_TwoInv.f (k : Nat) (a0_0 : Int) (a0_1 : Int) : Option (Int × Int) := (spec_FpMul.f a0_0 a0_0).bind fun t495 => ((spec_FpMul.f a0_1 a0_1).bind fun t496 => ((spec_FpAdd.f t495 t496).bind fun t497 => ((spec_FpInv.f k t497).bind fun t498 => ((spec_FpMul.f a0_0 t498).bind fun t499 => ((spec_FpSub.f 0 a0_1).bind fun t500 => ((spec_FpMul.f t500 t498).bind fun t501 => (some (t499, t501))))))))
theorem spec_TwoInv.mono : ∀ a0 a1 k, LeO (spec_TwoInv.f k a0 a1) (spec_TwoInv.f (k + 1) a0 a1) := by
 intro a0 a1 k
 unfold spec_TwoInv.f
 repeat' first
   | (with_reducible exact spec_FpInv.mono _ _)
   | (with_reducible exact LeO.refl _)
   | (with_reducible exact LeO.none _)
   | (with_reducible refine LeO.ite ?_ ?_)
   | (with_reducible refine LeO.bind ?_ (fun _ => ?_))
   | exact spec_FpInv.mono _ _
   | exact LeO.none _
   | refine LeO.ite ?_ ?_
   | refine LeO.bind ?_ (fun _ => ?_)
def spec_TwoInv.T1 : Bool × List (List Nat × List Nat) := (true, [([], []), ([0], [0]), ([], []), ([2], [2]), ([1, 3], [1, 3]), ([], []), ([5], [5]), ([], []), ([7], [7]), ([6, 8, 4], [6, 8]), ([4, 9, 9], [4, 9]), ([10, 10], [10]), ([11, 11, 0, 1, 2, 3, 4, 5, 6, 7, 8, 9, 10, 11], [11])])
def spec_TwoInv.B1 : List Nat := [0, 1, 0, 4, 15, 0, 32, 0, 128, 511, 1023, 2047, 4095]
theorem spec_TwoInv.tab1 : rtab .any (opsOf Try.f73 1) = spec_TwoInv.T1 := by kernel_rfl
theorem spec_TwoInv.bits1 : waitsOk spec_TwoInv.T1.2 spec_TwoInv.B1 = true := by kernel_rfl
def spec_TwoInv.T2 : Bool × List (List Nat × List Nat) := (true, [([], []), ([0], [0]), ([], []), ([1, 2], [1, 2]), ([], []), ([4], [4]), ([5, 3], [5]), ([], []), ([6, 7, 6], [6, 7]), ([3, 8], [3, 8]), ([9, 8, 0, 1, 2, 3, 4, 5, 6, 7, 8, 9], [9])])
def spec_TwoInv.B2 : List Nat := [0, 1, 0, 7, 0, 16, 63, 0, 255, 511, 1023]
theorem spec_TwoInv.tab2 : rtab .any (opsOf Try.f73 2) = spec_TwoInv.T2 := by kernel_rfl
theorem spec_TwoInv.bits2 : waitsOk spec_TwoInv.T2.2 spec_TwoInv.B2 = true := by kernel_rfl
set_option maxHeartbeats 8000000 in
set_option maxRecDepth 100000 in
theorem spec_TwoInv.calls (k : Nat) (a0_0 : Int) (a0_1 : Int) (r1 : Int) (r2 : Int) (w : World) (h : spec_TwoInv.f k a0_0 a0_1 = some (r1, r2)) :
  Calls Try.prog 73 #[.agg #[.int .i64 a0_0, .int .i64 a0_1]] w fun e w' => e = .returned (.agg #[.int .i64 r1, .int .i64 r2]) ∧ Below w.heap.size w w' := by
 have hu31 := Try.underlying31
 have HB := Aside0.mk (Below.refl w.heap.size w)
 have H : ((spec_FpMul.f a0_0 a0_0).bind fun t495 => ((spec_FpMul.f a0_1 a0_1).bind fun t496 => ((spec_FpAdd.f t495 t496).bind fun t497 => ((spec_FpInv.f k t497).bind fun t498 => ((spec_FpMul.f a0_0 t498).bind fun t499 => ((spec_FpSub.f 0 a0_1).bind fun t500 => ((spec_FpMul.f t500 t498).bind fun t501 => (some (t499, t501))))))))) = some (r1, r2) := h
 clear h
 replace H := Option.bind_eq_some_iff.mp H
 obtain ⟨t495, A20, H⟩ := H
 replace H : ((spec_FpMul.f a0_1 a0_1).bind fun t496 => ((spec_FpAdd.f t495 t496).bind fun t497 => ((spec_FpInv.f k t497).bind fun t498 => ((spec_FpMul.f a0_0 t498).bind fun t499 => ((spec_FpSub.f 0 a0_1).bind fun t500 => ((spec_FpMul.f t500 t498).bind fun t501 => (some (t499, t501)))))))) = some (r1, r2) := H
 have A2 := Aside0.mk A20
 clear A20
 replace H := Option.bind_eq_some_iff.mp H
 obtain ⟨t496, A30, H⟩ := H
 replace H : ((spec_FpAdd.f t495 t496).bind fun t497 => ((spec_FpInv.f k t497).bind fun t498 => ((spec_FpMul.f a0_0 t498).bind fun t499 => ((spec_FpSub.f 0 a0_1).bind fun t500 => ((spec_FpMul.f t500 t498).bind fun t501 => (some (t499, t501))))))) = some (r1, r2) := H
 have A3 := Aside0.mk A30
 clear A30
 replace H := Option.bind_eq_some_iff.mp H
 obtain ⟨t497, A40, H⟩ := H
 replace H : ((spec_FpInv.f k t497).bind fun t498 => ((spec_FpMul.f a0_0 t498).bind fun t499 => ((spec_FpSub.f 0 a0_1).bind fun t500 => ((spec_FpMul.f t500 t498).bind fun t501 => (some (t499, t501)))))) = some (r1, r2) := H
 have A4 := Aside0.mk A40
 clear A40
 replace H := Option.bind_eq_some_iff.mp H
 obtain ⟨t498, A50, H⟩ := H
 replace H : ((spec_FpMul.f a0_0 t498).bind fun t499 => ((spec_FpSub.f 0 a0_1).bind fun t500 => ((spec_FpMul.f t500 t498).bind fun t501 => (some (t499, t501))))) = some (r1, r2) := H
 have A5 := Aside0.mk A50
 clear A50
 replace H := Option.bind_eq_some_iff.mp H
 obtain ⟨t499, A60, H⟩ := H
 replace H : ((spec_FpSub.f 0 a0_1).bind fun t500 => ((spec_FpMul.f t500 t498).bind fun t501 => (some (t499, t501)))) = some (r1, r2) := H
 have A6 := Aside0.mk A60
 clear A60
 replace H := Option.bind_eq_some_iff.mp H
 obtain ⟨t500, A70, H⟩ := H
 replace H : ((spec_FpMul.f t500 t498).bind fun t501 => (some (t499, t501))) = some (r1, r2) := H
 have A7 := Aside0.mk A70
 clear A70
 replace H := Option.bind_eq_some_iff.mp H
 obtain ⟨t501, A80, H⟩ := H
 replace H : (some (t499, t501)) = some (r1, r2) := H
 have A8 := Aside0.mk A80
 clear A80
 simp only [Option.some.injEq, Prod.mk.injEq] at H
 obtain ⟨rfl, rfl⟩ := H
 go_enter Try.func73, Try.ntmps73
 try go_wp2_with (first | ((with_reducible refine gate_dst (N := 1) rfl ?_); refine box_event ?hg (N := 1) ?hd (cs := #[.int .i64 a0_0, .int .i64 a0_1]) (t := 31) ?hr ?_; (case hd => rfl); (case hg => rfl); (case hr => first | (go_simp; done) | (go_simp; rfl)); intro gb493 hg w9 hbox hb; have BK493 := Aside0.mk (hbox); have GW493 := bG HB hg; have GE493 := bG HB hg; replace HB := bS HB hb; clear hb hbox hg) | ((with_reducible refine gate_dst (N := 2) rfl ?_); refine box_event ?hg (N := 2) ?hd (cs := #[.int .i64 0, .int .i64 0]) (t := 31) ?hr ?_; (case hd => rfl); (case hg => rfl); (case hr => first | (go_simp; done) | (go_simp; rfl)); intro gb494 hg w10 hbox hb; have BK494 := Aside0.mk (hbox); have GW494 := bG HB hg; have GE494 := bG HB hg; replace HB := bS HB hb; have NB493_494 := bL BK493 hg; have NB494_493 := bR BK493 hg; replace BK493 := bB BK493 hb; clear hb hbox hg))
 replace BK493 := Aside0.mk (blk_drew BK493.out)
 replace BK494 := Aside0.mk (blk_drew BK494.out)
 replace HB := Aside0.mk (below_drew1 HB.out)
 refine start_ (n := 13) (S := fun w' => w'.cell? ⟨gb493, 0, none⟩ = some (.int .i64 a0_0) ∧ w'.cell? ⟨gb493, 1, none⟩ = some (.int .i64 a0_1)) (ds := []) #[false, false, false, false, false, false, false, false, false, false, false, false, false] (by kernel_rfl) rfl rfl ⟨bc BK493 0, bc BK493 1⟩ (fun hHeld => ?_); refine with_tabW spec_TwoInv.tab1 spec_TwoInv.bits1 (fun HT_ HW_ => ?_)
 generalize w10.drew = w11 at BK493 BK494 HB hHeld ⊢
 refine pure_ (i := 0) (N := some 4) (v := ?_) (a' := ?_) #[true, false, false, false, false, false, false, false, false, false, false, false, false] rfl rfl (any_of HT_.out (by kernel_rfl)) (fun _ _ _ h => h) (Or.inl ⟨by rfl, ?_⟩) ?_ ?_
 rotate_left
 ·intro w'
  go_simp
  with_reducible rfl
 rotate_left
 ·simp only [Act.put, List.setIfInBounds_toArray, List.set_cons_zero, List.set_cons_succ, i64_w, i32_w]
  rfl
 refine pure_ (i := 2) (N := some 6) (v := ?_) (a' := ?_) #[true, false, true, false, false, false, false, false, false, false, false, false, false] rfl rfl (any_of HT_.out (by kernel_rfl)) (fun _ _ _ h => h) (Or.inl ⟨by rfl, ?_⟩) ?_ ?_
 rotate_left
 ·intro w'
  go_simp
  with_reducible rfl
 rotate_left
 ·simp only [Act.put, List.setIfInBounds_toArray, List.set_cons_zero, List.set_cons_succ, i64_w, i32_w]
  rfl
 refine pure_ (i := 5) (N := some 9) (v := ?_) (a' := ?_) #[true, false, true, false, false, true, false, false, false, false, false, false, false] rfl rfl (any_of HT_.out (by kernel_rfl)) (fun _ _ _ h => h) (Or.inl ⟨by rfl, ?_⟩) ?_ ?_
 rotate_left
 ·intro w'
  go_simp
  with_reducible rfl
 rotate_left
 ·simp only [Act.put, List.setIfInBounds_toArray, List.set_cons_zero, List.set_cons_succ, i64_w, i32_w]
  rfl
 refine pure_ (i := 7) (N := some 11) (v := ?_) (a' := ?_) #[true, false, true, false, false, true, false, true, false, false, false, false, false] rfl rfl (any_of HT_.out (by kernel_rfl)) (fun _ _ _ h => h) (Or.inl ⟨by rfl, ?_⟩) ?_ ?_
 rotate_left
 ·intro w'
  go_simp
  with_reducible rfl
 rotate_left
 ·simp only [Act.put, List.setIfInBounds_toArray, List.set_cons_zero, List.set_cons_succ, i64_w, i32_w]
  rfl
 refine take_ (i := 1) (N := some 5) (v := ?_) (a' := ?_) #[true, true, true, false, false, true, false, true, false, false, false, false, false] rfl rfl (take_ofW HT_.out HW_.out (by kernel_rfl)) (fun _ _ _ h => h) (Or.inl ⟨by rfl, ?_⟩) hHeld ?_ ?_
 rotate_left
 ·rintro w' ⟨s0, s1⟩
  go_simp
  with_reducible rfl
 rotate_left
 ·simp only [Act.put, List.setIfInBounds_toArray, List.set_cons_zero, List.set_cons_succ, i64_w, i32_w]
  rfl
 refine take_ (i := 3) (N := some 7) (v := ?_) (a' := ?_) #[true, true, true, true, false, true, false, true, false, false, false, false, false] rfl rfl (take_ofW HT_.out HW_.out (by kernel_rfl)) (fun _ _ _ h => h) (Or.inl ⟨by rfl, ?_⟩) hHeld ?_ ?_
 rotate_left
 ·rintro w' ⟨s0, s1⟩
  go_simp
  with_reducible rfl
 rotate_left
 ·simp only [Act.put, List.setIfInBounds_toArray, List.set_cons_zero, List.set_cons_succ, i64_w, i32_w]
  rfl
 refine take_ (i := 6) (N := some 10) (v := ?_) (a' := ?_) #[true, true, true, true, false, true, true, true, false, false, false, false, false] rfl rfl (take_ofW HT_.out HW_.out (by kernel_rfl)) (fun _ _ _ h => h) (Or.inl ⟨by rfl, ?_⟩) hHeld ?_ ?_
 rotate_left
 ·rintro w' ⟨s0, s1⟩
  go_simp
  with_reducible rfl
 rotate_left
 ·simp only [Act.put, List.setIfInBounds_toArray, List.set_cons_zero, List.set_cons_succ, i64_w, i32_w]
  rfl
 refine take_ (i := 8) (N := some 12) (v := ?_) (a' := ?_) #[true, true, true, true, false, true, true, true, true, false, false, false, false] rfl rfl (take_ofW HT_.out HW_.out (by kernel_rfl)) (fun _ _ _ h => h) (Or.inl ⟨by rfl, ?_⟩) hHeld ?_ ?_
 rotate_left
 ·rintro w' ⟨s0, s1⟩
  go_simp
  with_reducible rfl
 rotate_left
 ·simp only [Act.put, List.setIfInBounds_toArray, List.set_cons_zero, List.set_cons_succ, i64_w, i32_w]
  rfl
 refine one_ (i := 4) (N := some 8) #[true, true, true, true, true, true, true, true, true, false, false, false, false] rfl rfl (one_of HT_.out (by kernel_rfl)) (by decide) (fun K hK => ?_)
 refine goes_ Try.func76 (by kernel_rfl) rfl #[.int .i64 a0_0, .int .i64 a0_0] (by rfl) rfl rfl (by (try simp only [List.map_toArray, List.map_cons, List.map_nil]); first | done | rfl | (simp only [List.length_drop, List.length_take]; rfl)) ?_
 with_reducible refine (spec_FpMul.calls a0_0 a0_0 t495 _ A2.out).mono ?_
 rintro e w' ⟨rfl, ⟨nd, rfl⟩⟩
 refine ⟨_, rfl, ?_⟩
 refine hK.out _ _ ⟨bc BK493 0, bc BK493 1⟩ (fun hHeld => ?_)
 clear hK K
 refine norm_ (a' := ?_) ?_ ?_
 rotate_left
 ·show Act.put _ (some 8) _ = _
  simp only [Act.put, List.setIfInBounds_toArray, List.set_cons_zero, List.set_cons_succ, i64_w, i32_w]
  rfl
 refine one_ (i := 9) (N := some 13) #[true, true, true, true, true, true, true, true, true, true, false, false, false] rfl rfl (one_of HT_.out (by kernel_rfl)) (by decide) (fun K hK => ?_)
 refine goes_ Try.func76 (by kernel_rfl) rfl #[.int .i64 a0_1, .int .i64 a0_1] (by rfl) rfl rfl (by (try simp only [List.map_toArray, List.map_cons, List.map_nil]); first | done | rfl | (simp only [List.length_drop, List.length_take]; rfl)) ?_
 with_reducible refine (spec_FpMul.calls a0_1 a0_1 t496 _ A3.out).mono ?_
 rintro e w' ⟨rfl, ⟨nd, rfl⟩⟩
 refine ⟨_, rfl, ?_⟩
 refine hK.out _ _ ⟨bc BK493 0, bc BK493 1⟩ (fun hHeld => ?_)
 clear hK K
 refine norm_ (a' := ?_) ?_ ?_
 rotate_left
 ·show Act.put _ (some 13) _ = _
  simp only [Act.put, List.setIfInBounds_toArray, List.set_cons_zero, List.set_cons_succ, i64_w, i32_w]
  rfl
 refine one_ (i := 10) (N := some 14) #[true, true, true, true, true, true, true, true, true, true, true, false, false] rfl rfl (one_of HT_.out (by kernel_rfl)) (by decide) (fun K hK => ?_)
 refine goes_ Try.func103 (by kernel_rfl) rfl #[.int .i64 t495, .int .i64 t496] (by rfl) rfl rfl (by (try simp only [List.map_toArray, List.map_cons, List.map_nil]); first | done | rfl | (simp only [List.length_drop, List.length_take]; rfl)) ?_
 with_reducible refine (spec_FpAdd.calls t495 t496 t497 _ A4.out).mono ?_
 rintro e w' ⟨rfl, ⟨nd, rfl⟩⟩
 refine ⟨_, rfl, ?_⟩
 refine hK.out _ _ ⟨bc BK493 0, bc BK493 1⟩ (fun hHeld => ?_)
 clear hK K
 refine norm_ (a' := ?_) ?_ ?_
 rotate_left
 ·show Act.put _ (some 14) _ = _
  simp only [Act.put, List.setIfInBounds_toArray, List.set_cons_zero, List.set_cons_succ, i64_w, i32_w]
  rfl
 refine one_ (i := 11) (N := some 15) #[true, true, true, true, true, true, true, true, true, true, true, true, false] rfl rfl (one_of HT_.out (by kernel_rfl)) (by decide) (fun K hK => ?_)
 refine goes_ Try.func104 (by kernel_rfl) rfl #[.int .i64 t497] (by rfl) rfl rfl (by (try simp only [List.map_toArray, List.map_cons, List.map_nil]); first | done | rfl | (simp only [List.length_drop, List.length_take]; rfl)) ?_
 with_reducible refine (spec_FpInv.calls k t497 t498 _ A5.out).mono ?_
 rintro e w' ⟨rfl, ⟨nd, rfl⟩⟩
 refine ⟨_, rfl, ?_⟩
 refine hK.out _ _ ⟨bc BK493 0, bc BK493 1⟩ (fun hHeld => ?_)
 clear hK K
 refine norm_ (a' := ?_) ?_ ?_
 rotate_left
 ·show Act.put _ (some 15) _ = _
  simp only [Act.put, List.setIfInBounds_toArray, List.set_cons_zero, List.set_cons_succ, i64_w, i32_w]
  rfl
 refine pure_ (i := 12) (N := some 3) (v := ?_) (a' := ?_) #[true, true, true, true, true, true, true, true, true, true, true, true, true] rfl rfl (any_of HT_.out (by kernel_rfl)) (fun _ _ _ h => h) (Or.inl ⟨by rfl, ?_⟩) ?_ ?_
 rotate_left
 ·intro w'
  go_simp
  with_reducible rfl
 rotate_left
 ·simp only [Act.put, List.setIfInBounds_toArray, List.set_cons_zero, List.set_cons_succ, i64_w, i32_w]
  rfl
 refine done_ (done_of HT_.out (by kernel_rfl)) ?_
 try go_wp2
 (try simp only [World.drewN_drewN]); (try (rw [drewN_self w11]; generalize hq_ : World.drewN w11 _ = w11; replace BK493 : Aside0 (w11.heap[gb493]? = some (.cells #[.int .i64 a0_0, .int .i64 a0_1] 31 (0, 0))) := ⟨by rw [← hq_]; exact (bP BK493)⟩; replace BK494 : Aside0 (w11.heap[gb494]? = some (.cells #[.int .i64 0, .int .i64 0] 31 (0, 0))) := ⟨by rw [← hq_]; exact (bP BK494)⟩; replace HB : Aside0 (Below w.heap.size w w11) := ⟨by rw [← hq_]; exact (bZ HB)⟩; clear hq_))
 replace BK493 := Aside0.mk (blk_drew BK493.out)
 replace BK494 := Aside0.mk (blk_drew BK494.out)
 replace HB := Aside0.mk (below_drew1 HB.out)
 refine start_ (n := 11) (S := fun w' => w'.cell? ⟨gb493, 0, none⟩ = some (.int .i64 a0_0) ∧ w'.cell? ⟨gb493, 1, none⟩ = some (.int .i64 a0_1)) (ds := []) #[false, false, false, false, false, false, false, false, false, false, false] (by kernel_rfl) rfl rfl ⟨bc BK493 0, bc BK493 1⟩ (fun hHeld => ?_); refine with_tabW spec_TwoInv.tab2 spec_TwoInv.bits2 (fun HT_ HW_ => ?_)
 generalize w11.drew = w12 at BK493 BK494 HB hHeld ⊢
 refine pure_ (i := 0) (N := some 16) (v := ?_) (a' := ?_) #[true, false, false, false, false, false, false, false, false, false, false] rfl rfl (any_of HT_.out (by kernel_rfl)) (fun _ _ _ h => h) (Or.inl ⟨by rfl, ?_⟩) ?_ ?_
 rotate_left
 ·intro w'
  go_simp
  with_reducible rfl
 rotate_left
 ·simp only [Act.put, List.setIfInBounds_toArray, List.set_cons_zero, List.set_cons_succ, i64_w, i32_w]
  rfl
 refine pure_ (i := 2) (N := some 18) (v := ?_) (a' := ?_) #[true, false, true, false, false, false, false, false, false, false, false] rfl rfl (any_of HT_.out (by kernel_rfl)) (fun _ _ _ h => h) (Or.inl ⟨by rfl, ?_⟩) ?_ ?_
 rotate_left
 ·intro w'
  go_simp
  with_reducible rfl
 rotate_left
 ·simp only [Act.put, List.setIfInBounds_toArray, List.set_cons_zero, List.set_cons_succ, i64_w, i32_w]
  rfl
 refine pure_ (i := 4) (N := some 20) (v := ?_) (a' := ?_) #[true, false, true, false, true, false, false, false, false, false, false] rfl rfl (any_of HT_.out (by kernel_rfl)) (fun _ _ _ h => h) (Or.inl ⟨by rfl, ?_⟩) ?_ ?_
 rotate_left
 ·intro w'
  go_simp
  with_reducible rfl
 rotate_left
 ·simp only [Act.put, List.setIfInBounds_toArray, List.set_cons_zero, List.set_cons_succ, i64_w, i32_w]
  rfl
 refine pure_ (i := 7) (N := some 23) (v := ?_) (a' := ?_) #[true, false, true, false, true, false, false, true, false, false, false] rfl rfl (any_of HT_.out (by kernel_rfl)) (fun _ _ _ h => h) (Or.inl ⟨by rfl, ?_⟩) ?_ ?_
 rotate_left
 ·intro w'
  go_simp
  with_reducible rfl
 rotate_left
 ·simp only [Act.put, List.setIfInBounds_toArray, List.set_cons_zero, List.set_cons_succ, i64_w, i32_w]
  rfl
 refine take_ (i := 1) (N := some 17) (v := ?_) (a' := ?_) #[true, true, true, false, true, false, false, true, false, false, false] rfl rfl (take_ofW HT_.out HW_.out (by kernel_rfl)) (fun _ _ _ h => h) (Or.inl ⟨by rfl, ?_⟩) hHeld ?_ ?_
 rotate_left
 ·rintro w' ⟨s0, s1⟩
  go_simp
  with_reducible rfl
 rotate_left
 ·simp only [Act.put, List.setIfInBounds_toArray, List.set_cons_zero, List.set_cons_succ, i64_w, i32_w]
  rfl
 refine take_ (i := 5) (N := some 21) (v := ?_) (a' := ?_) #[true, true, true, false, true, true, false, true, false, false, false] rfl rfl (take_ofW HT_.out HW_.out (by kernel_rfl)) (fun _ _ _ h => h) (Or.inl ⟨by rfl, ?_⟩) hHeld ?_ ?_
 rotate_left
 ·rintro w' ⟨s0, s1⟩
  go_simp
  with_reducible rfl
 rotate_left
 ·simp only [Act.put, List.setIfInBounds_toArray, List.set_cons_zero, List.set_cons_succ, i64_w, i32_w]
  rfl
 refine one_ (i := 3) (N := some 19) #[true, true, true, true, true, true, false, true, false, false, false] rfl rfl (one_of HT_.out (by kernel_rfl)) (by decide) (fun K hK => ?_)
 refine goes_ Try.func76 (by kernel_rfl) rfl #[.int .i64 a0_0, .int .i64 t498] (by rfl) rfl rfl (by (try simp only [List.map_toArray, List.map_cons, List.map_nil]); first | done | rfl | (simp only [List.length_drop, List.length_take]; rfl)) ?_
 with_reducible refine (spec_FpMul.calls a0_0 t498 t499 _ A6.out).mono ?_
 rintro e w' ⟨rfl, ⟨nd, rfl⟩⟩
 refine ⟨_, rfl, ?_⟩
 refine hK.out _ _ ⟨bc BK493 0, bc BK493 1⟩ (fun hHeld => ?_)
 clear hK K
 refine norm_ (a' := ?_) ?_ ?_
 rotate_left
 ·show Act.put _ (some 19) _ = _
  simp only [Act.put, List.setIfInBounds_toArray, List.set_cons_zero, List.set_cons_succ, i64_w, i32_w]
  rfl
 refine one_ (i := 6) (N := some 22) #[true, true, true, true, true, true, true, true, false, false, false] rfl rfl (one_of HT_.out (by kernel_rfl)) (by decide) (fun K hK => ?_)
 refine goes_ Try.func75 (by kernel_rfl) rfl #[.int .i64 0, .int .i64 a0_1] (by rfl) rfl rfl (by (try simp only [List.map_toArray, List.map_cons, List.map_nil]); first | done | rfl | (simp only [List.length_drop, List.length_take]; rfl)) ?_
 with_reducible refine (spec_FpSub.calls 0 a0_1 t500 _ A7.out).mono ?_
 rintro e w' ⟨rfl, ⟨nd, rfl⟩⟩
 refine ⟨_, rfl, ?_⟩
 refine hK.out _ _ ⟨bc BK493 0, bc BK493 1⟩ (fun hHeld => ?_)
 clear hK K
 refine norm_ (a' := ?_) ?_ ?_
 rotate_left
 ·show Act.put _ (some 22) _ = _
  simp only [Act.put, List.setIfInBounds_toArray, List.set_cons_zero, List.set_cons_succ, i64_w, i32_w]
  rfl
 refine one_ (i := 8) (N := some 24) #[true, true, true, true, true, true, true, true, true, false, false] rfl rfl (one_of HT_.out (by kernel_rfl)) (by decide) (fun K hK => ?_)
 refine goes_ Try.func76 (by kernel_rfl) rfl #[.int .i64 t500, .int .i64 t498] (by rfl) rfl rfl (by (try simp only [List.map_toArray, List.map_cons, List.map_nil]); first | done | rfl | (simp only [List.length_drop, List.length_take]; rfl)) ?_
 with_reducible refine (spec_FpMul.calls t500 t498 t501 _ A8.out).mono ?_
 rintro e w' ⟨rfl, ⟨nd, rfl⟩⟩
 refine ⟨_, rfl, ?_⟩
 refine hK.out _ _ ⟨bc BK493 0, bc BK493 1⟩ (fun hHeld => ?_)
 clear hK K
 refine norm_ (a' := ?_) ?_ ?_
 rotate_left
 ·show Act.put _ (some 24) _ = _
  simp only [Act.put, List.setIfInBounds_toArray, List.set_cons_zero, List.set_cons_succ, i64_w, i32_w]
  rfl
 refine pure_ (i := 9) (N := some 25) (v := ?_) (a' := ?_) #[true, true, true, true, true, true, true, true, true, true, false] rfl rfl (any_of HT_.out (by kernel_rfl)) (fun _ _ _ h => h) (Or.inl ⟨by rfl, ?_⟩) ?_ ?_
 rotate_left
 ·intro w'
  go_simp
  with_reducible rfl
 rotate_left
 ·simp only [Act.put, List.setIfInBounds_toArray, List.set_cons_zero, List.set_cons_succ, i64_w, i32_w]
  rfl
 refine one_ (i := 10) (N := none) #[true, true, true, true, true, true, true, true, true, true, true] rfl rfl (one_of HT_.out (by kernel_rfl)) (by decide) (fun K hK => ?_)
 have hs13 : w12.cell? ⟨gb494, 0, none⟩ = some (.int .i64 0) := bc BK494 0
 have hfs13 := blk_frozen BK494.out 0
 have hns13_0 := NB493_494.out
 have hms13_0 := NB494_493.out
 have hs14 : w12.cell? ⟨gb494, 1, none⟩ = some (.int .i64 0) := bc BK494 1
 have hfs14 := blk_frozen BK494.out 1
 have hns14_0 := NB493_494.out
 have hms14_0 := NB494_493.out
 refine skip_ (w1 := ?_) (by rfl) rfl ?_ ?_
 rotate_left
 ·go_simp
  rfl
 refine hK.out _ _ ⟨((cell_far (p := ⟨gb494, _, none⟩) NB493_494.out _).trans (((cell_far (p := ⟨gb494, _, none⟩) NB493_494.out _).trans (hHeld.1)))), ((cell_far (p := ⟨gb494, _, none⟩) NB493_494.out _).trans (((cell_far (p := ⟨gb494, _, none⟩) NB493_494.out _).trans (hHeld.2))))⟩ (fun hHeld => ?_)
 clear hK K
 refine done_ (done_of HT_.out (by kernel_rfl)) ?_
 try go_wp2
 refine bodyPost_ret (results_cell_row rfl _ _ gb494 31 #[.int .i64 t499, .int .i64 t501] (0, 0) _ rfl (by (with_reducible repeat (first | refine blk_drewN ?_ _ | refine blk_drew ?_ | refine blk_alloc ?_ _)); refine blk_put (cs := #[.int .i64 t499, .int .i64 0]) ?_ 1 _ rfl; (with_reducible repeat (first | refine blk_drewN ?_ _ | refine blk_drew ?_ | refine blk_alloc ?_ _)); refine blk_put (cs := #[.int .i64 0, .int .i64 0]) ?_ 0 _ rfl; (with_reducible repeat (first | refine blk_drewN ?_ _ | refine blk_drew ?_ | refine blk_alloc ?_ _)); exact BK494.out) Try.underlying31 rfl (by kernel_rfl)) rfl ?_
 exact ⟨by first | rfl | (simp [errW_none, errW_some] <;> rfl) | (simp [*, errW_none, errW_some] <;> rfl), bZ HB⟩
/-! ### spec_Pairing: function 22 -/
def spec_Pairing.j0 : Nat → Bool → Int → Int → Bool → Int → Int → Bool → Option (Int × Int)
 | 0, _, _, _, _, _, _, _ => none
 | k + 1, x21, x503000, x503001, x503002, x504000, x504001, x504002 => if x21 = true then (some (1, 0)) else ((spec_Miller.f k x503000 x503001 x503002 x504000 x504001 x504002).bind fun bt507 => ((spec_TwoTurn.f bt507.1 bt507.2).bind fun bt510 => ((spec_TwoInv.f k bt507.1 bt507.2).bind fun bt512 => ((spec_TwoMul.f bt510.1 bt510.2 bt512.1 bt512.2).bind fun bt514 => ((spec_TwoPow.f k bt514.1 bt514.2 12).bind fun bt516 => (some (bt516.1, bt516.2)))))))
def spec_Pairing.f (k : Nat) (a0_0 : Int) (a0_1 : Int) (a0_2 : Bool) (a1_0 : Int) (a1_1 : Int) (a1_2 : Bool) : Option (Int × Int) := (spec_InGroup.f k a0_0 a0_1 a0_2).bind fun t505 => (if t505 = true then ((spec_InGroup.f k a1_0 a1_1 a1_2).bind fun t506 => (if t506 = true then (if a0_2 = true then (spec_Pairing.j0 k true a0_0 a0_1 a0_2 a1_0 a1_1 a1_2) else (spec_Pairing.j0 k a1_2 a0_0 a0_1 a0_2 a1_0 a1_1 a1_2)) else (spec_Pairing.j0 k true a0_0 a0_1 a0_2 a1_0 a1_1 a1_2))) else (spec_Pairing.j0 k true a0_0 a0_1 a0_2 a1_0 a1_1 a1_2))
theorem spec_Pairing.mono_l : ∀ k, (∀ y0 y1 y2 y3 y4 y5 y6, LeO (spec_Pairing.j0 k y0 y1 y2 y3 y4 y5 y6) (spec_Pairing.j0 (k + 1) y0 y1 y2 y3 y4 y5 y6))
 | 0 => fun _ _ _ _ _ _ _ r h => by simp [spec_Pairing.j0] at h
 | k + 1 => by
  have ih0 := spec_Pairing.mono_l k
  ·intro y0 y1 y2 y3 y4 y5 y6
   unfold spec_Pairing.j0
   repeat' first
   | (with_reducible exact ih0 _ _ _ _ _ _ _)
   | (with_reducible exact spec_InGroup.mono _ _ _ _)
   | (with_reducible exact spec_Miller.mono _ _ _ _ _ _ _)
   | (with_reducible exact spec_TwoInv.mono _ _ _)
   | (with_reducible exact spec_TwoPow.mono _ _ _ _)
   | (with_reducible exact LeO.refl _)
   | (with_reducible exact LeO.none _)
   | (with_reducible refine LeO.ite ?_ ?_)
   | (with_reducible refine LeO.bind ?_ (fun _ => ?_))
   | exact ih0 _ _ _ _ _ _ _
   | exact spec_InGroup.mono _ _ _ _
   | exact spec_Miller.mono _ _ _ _ _ _ _
   | exact spec_TwoInv.mono _ _ _
   | exact spec_TwoPow.mono _ _ _ _
   | exact LeO.none _
   | refine LeO.ite ?_ ?_
   | refine LeO.bind ?_ (fun _ => ?_)
theorem spec_Pairing.mono : ∀ a0 a1 a2 a3 a4 a5 k, LeO (spec_Pairing.f k a0 a1 a2 a3 a4 a5) (spec_Pairing.f (k + 1) a0 a1 a2 a3 a4 a5) := by
 intro a0 a1 a2 a3 a4 a5 k
 have ih0 := spec_Pairing.mono_l k
 unfold spec_Pairing.f
 repeat' first
   | (with_reducible exact ih0 _ _ _ _ _ _ _)
   | (with_reducible exact spec_InGroup.mono _ _ _ _)
   | (with_reducible exact spec_Miller.mono _ _ _ _ _ _ _)
   | (with_reducible exact spec_TwoInv.mono _ _ _)
   | (with_reducible exact spec_TwoPow.mono _ _ _ _)
   | (with_reducible exact LeO.refl _)
   | (with_reducible exact LeO.none _)
   | (with_reducible refine LeO.ite ?_ ?_)
   | (with_reducible refine LeO.bind ?_ (fun _ => ?_))
   | exact ih0 _ _ _ _ _ _ _
   | exact spec_InGroup.mono _ _ _ _
   | exact spec_Miller.mono _ _ _ _ _ _ _
   | exact spec_TwoInv.mono _ _ _
   | exact spec_TwoPow.mono _ _ _ _
   | exact LeO.none _
   | refine LeO.ite ?_ ?_
   | refine LeO.bind ?_ (fun _ => ?_)
set_option maxHeartbeats 8000000 in
set_option maxRecDepth 100000 in
theorem spec_Pairing.calls (k : Nat) (a0_0 : Int) (a0_1 : Int) (a0_2 : Bool) (a1_0 : Int) (a1_1 : Int) (a1_2 : Bool) (r1 : Int) (r2 : Int) (w : World) (h : spec_Pairing.f k a0_0 a0_1 a0_2 a1_0 a1_1 a1_2 = some (r1, r2)) :
  Calls Try.prog 22 #[.agg #[.int .i64 a0_0, .int .i64 a0_1, .bool a0_2], .agg #[.int .i64 a1_0, .int .i64 a1_1, .bool a1_2]] w fun e w' => e = .returned (.agg #[.int .i64 r1, .int .i64 r2]) ∧ Below w.heap.size w w' := by
 have hu25 := Try.underlying25
 have hu31 := Try.underlying31
 have HB := Aside0.mk (Below.refl w.heap.size w)
 have H : ((spec_InGroup.f k a0_0 a0_1 a0_2).bind fun t505 => (if t505 = true then ((spec_InGroup.f k a1_0 a1_1 a1_2).bind fun t506 => (if t506 = true then (if a0_2 = true then (spec_Pairing.j0 k true a0_0 a0_1 a0_2 a1_0 a1_1 a1_2) else (spec_Pairing.j0 k a1_2 a0_0 a0_1 a0_2 a1_0 a1_1 a1_2)) else (spec_Pairing.j0 k true a0_0 a0_1 a0_2 a1_0 a1_1 a1_2))) else (spec_Pairing.j0 k true a0_0 a0_1 a0_2 a1_0 a1_1 a1_2))) = some (r1, r2) := h
 clear h
 have HC3 := Aside0.mk H
 clear H
 go_enter Try.func22, Try.ntmps22
 go_upto_region 1 with (first | ((with_reducible refine gate_dst (N := 2) rfl ?_); refine box_event ?hg (N := 2) ?hd (cs := #[.int .i64 a0_0, .int .i64 a0_1, .bool a0_2]) (t := 25) ?hr ?_; (case hd => rfl); (case hg => rfl); (case hr => first | (go_simp; done) | (go_simp; rfl)); intro gb502 hg w4 hbox hb; have BK502 := Aside0.mk (hbox); have GW502 := bG HB hg; have GE502 := bG HB hg; replace HB := bS HB hb; clear hb hbox hg) | ((with_reducible refine gate_dst (N := 3) rfl ?_); refine box_event ?hg (N := 3) ?hd (cs := #[.int .i64 a1_0, .int .i64 a1_1, .bool a1_2]) (t := 25) ?hr ?_; (case hd => rfl); (case hg => rfl); (case hr => first | (go_simp; done) | (go_simp; rfl)); intro gb503 hg w5 hbox hb; have BK503 := Aside0.mk (hbox); have GW503 := bG HB hg; have GE503 := bG HB hg; replace HB := bS HB hb; have NB502_503 := bL BK502 hg; have NB503_502 := bR BK502 hg; replace BK502 := bB BK502 hb; clear hb hbox hg) | ((with_reducible refine gate_dst (N := 4) rfl ?_); refine box_event ?hg (N := 4) ?hd (cs := #[.int .i64 0, .int .i64 0]) (t := 31) ?hr ?_; (case hd => rfl); (case hg => rfl); (case hr => first | (go_simp; done) | (go_simp; rfl)); intro gb504 hg w6 hbox hb; have BK504 := Aside0.mk (hbox); have GW504 := bG HB hg; have GE504 := bG HB hg; replace HB := bS HB hb; have NB502_504 := bL BK502 hg; have NB504_502 := bR BK502 hg; replace BK502 := bB BK502 hb; have NB503_504 := bL BK503 hg; have NB504_503 := bR BK503 hg; replace BK503 := bB BK503 hb; clear hb hbox hg))
 (try simp only [Act.put, List.setIfInBounds_toArray, List.set_cons_zero, List.set_cons_succ])
 go_cut [21] (fun v21 wc => ∃ (kq : Nat) (x21_2 : Bool), v21 = .bool x21_2 ∧ Aside0 (spec_Pairing.j0 kq x21_2 a0_0 a0_1 a0_2 a1_0 a1_1 a1_2 = some (r1, r2)) ∧ Aside0 (kq ≤ k) ∧ Aside0 (wc.heap[gb502]? = some (.cells #[.int .i64 a0_0, .int .i64 a0_1, .bool a0_2] 25 (0, 0))) ∧ Aside0 (wc.heap[gb503]? = some (.cells #[.int .i64 a1_0, .int .i64 a1_1, .bool a1_2] 25 (0, 0))) ∧ Aside0 (wc.heap[gb504]? = some (.cells #[.int .i64 0, .int .i64 0] 31 (0, 0))) ∧ Aside0 (Below w.heap.size w wc))
 case first =>
  have H := HC3.out
  clear HC3
  replace H := Option.bind_eq_some_iff.mp H
  obtain ⟨t505, A70, H⟩ := H
  replace H : (if t505 = true then ((spec_InGroup.f k a1_0 a1_1 a1_2).bind fun t506 => (if t506 = true then (if a0_2 = true then (spec_Pairing.j0 k true a0_0 a0_1 a0_2 a1_0 a1_1 a1_2) else (spec_Pairing.j0 k a1_2 a0_0 a0_1 a0_2 a1_0 a1_1 a1_2)) else (spec_Pairing.j0 k true a0_0 a0_1 a0_2 a1_0 a1_1 a1_2))) else (spec_Pairing.j0 k true a0_0 a0_1 a0_2 a1_0 a1_1 a1_2)) = some (r1, r2) := H
  have A7 := Aside0.mk A70
  clear A70
  by_cases c8 : t505 = true
  ·subst c8
   have H1 : ((spec_InGroup.f k a1_0 a1_1 a1_2).bind fun t506 => (if t506 = true then (if a0_2 = true then (spec_Pairing.j0 k true a0_0 a0_1 a0_2 a1_0 a1_1 a1_2) else (spec_Pairing.j0 k a1_2 a0_0 a0_1 a0_2 a1_0 a1_1 a1_2)) else (spec_Pairing.j0 k true a0_0 a0_1 a0_2 a1_0 a1_1 a1_2))) = some (r1, r2) := by rw [if_pos rfl] at H; exact H
   clear H
   have H := H1
   clear H1
   replace H := Option.bind_eq_some_iff.mp H
   obtain ⟨t506, A90, H⟩ := H
   replace H : (if t506 = true then (if a0_2 = true then (spec_Pairing.j0 k true a0_0 a0_1 a0_2 a1_0 a1_1 a1_2) else (spec_Pairing.j0 k a1_2 a0_0 a0_1 a0_2 a1_0 a1_1 a1_2)) else (spec_Pairing.j0 k true a0_0 a0_1 a0_2 a1_0 a1_1 a1_2)) = some (r1, r2) := H
   have A9 := Aside0.mk A90
   clear A90
   by_cases c10 : t506 = true
   ·subst c10
    have H1 : (if a0_2 = true then (spec_Pairing.j0 k true a0_0 a0_1 a0_2 a1_0 a1_1 a1_2) else (spec_Pairing.j0 k a1_2 a0_0 a0_1 a0_2 a1_0 a1_1 a1_2)) = some (r1, r2) := by rw [if_pos rfl] at H; exact H
    clear H
    have H := H1
    clear H1
    by_cases c11 : a0_2 = true
    ·subst c11
     have H1 : (spec_Pairing.j0 k true a0_0 a0_1 true a1_0 a1_1 a1_2) = some (r1, r2) := by rw [if_pos rfl] at H; exact H
     clear H
     have H := H1
     clear H1
     have H' := Aside0.mk H
     clear H
     have hnb12 := NB502_503.out
     have hnc12 := NB503_502.out
     have hnb13 := NB502_504.out
     have hnc13 := NB504_502.out
     have hcz14_0 : w6.cell? ⟨gb502, 0, none⟩ = some (.int .i64 a0_0) := bc BK502 0
     have hcz14_1 : w6.cell? ⟨gb502, 1, none⟩ = some (.int .i64 a0_1) := bc BK502 1
     have hcz14_2 : w6.cell? ⟨gb502, 2, none⟩ = some (.bool true) := bc BK502 2
     have hfz14_0 := blk_frozen BK502.out 0
     have hfz14_1 := blk_frozen BK502.out 1
     have hfz14_2 := blk_frozen BK502.out 2
     go_wp2_with (first | ((with_reducible refine gate_callee (f := 52) rfl ?_); refine goesL_ (some 7) rfl rfl Try.func52 (by kernel_rfl) rfl #[.agg #[.int .i64 a0_0, .int .i64 a0_1, .bool true]] rfl (by (try simp only [List.map_toArray, List.map_cons, List.map_nil]); first | done | rfl | (simp only [List.length_drop, List.length_take]; rfl)) ?_; (with_reducible refine (spec_InGroup.calls k a0_0 a0_1 true true _ A7.out).mono ?_); rintro e w15 ⟨rfl, hb⟩; refine ⟨_, rfl, ?_⟩; replace BK502 := bB BK502 hb; replace BK503 := bB BK503 hb; replace BK504 := bB BK504 hb; replace HB := bS HB hb; (try clear hb); (try clear hb2); (try clear hk); (try clear hi); have hnb16 := NB503_504.out; have hnc16 := NB504_503.out; have hcz17_0 : w15.cell? ⟨gb503, 0, none⟩ = some (.int .i64 a1_0) := bc BK503 0; have hcz17_1 : w15.cell? ⟨gb503, 1, none⟩ = some (.int .i64 a1_1) := bc BK503 1; have hcz17_2 : w15.cell? ⟨gb503, 2, none⟩ = some (.bool a1_2) := bc BK503 2; have hfz17_0 := blk_frozen BK503.out 0; have hfz17_1 := blk_frozen BK503.out 1; have hfz17_2 := blk_frozen BK503.out 2) | (go_at_call 52; (with_reducible refine (spec_InGroup.calls k a1_0 a1_1 a1_2 true _ A9.out).mono ?_); rintro e w18 ⟨rfl, hb⟩; replace BK502 := bB BK502 hb; replace BK503 := bB BK503 hb; replace BK504 := bB BK504 hb; replace HB := bS HB hb; (try clear hb); (try clear hb2); (try clear hk); (try clear hi); have hcz19_0 : w18.cell? ⟨gb502, 0, none⟩ = some (.int .i64 a0_0) := bc BK502 0; have hcz19_1 : w18.cell? ⟨gb502, 1, none⟩ = some (.int .i64 a0_1) := bc BK502 1; have hcz19_2 : w18.cell? ⟨gb502, 2, none⟩ = some (.bool true) := bc BK502 2; have hfz19_0 := blk_frozen BK502.out 0; have hfz19_1 := blk_frozen BK502.out 1; have hfz19_2 := blk_frozen BK502.out 2))
     go_meet
     case rel => exact ⟨_, (true), (by first | rfl | (simp; done) | (simp [*]; done)), H', ⟨by first | omega | exact Nat.le_refl _⟩, ⟨bP BK502⟩, ⟨bP BK503⟩, ⟨bP BK504⟩, ⟨bZ HB⟩⟩
    ·replace c11 := Bool.eq_false_iff.mpr c11
     subst c11
     have H1 : (spec_Pairing.j0 k a1_2 a0_0 a0_1 false a1_0 a1_1 a1_2) = some (r1, r2) := by rw [if_neg (show ¬ (false = true) by decide)] at H; exact H
     clear H
     have H := H1
     clear H1
     have H' := Aside0.mk H
     clear H
     have hnb20 := NB502_503.out
     have hnc20 := NB503_502.out
     have hnb21 := NB502_504.out
     have hnc21 := NB504_502.out
     have hcz22_0 : w6.cell? ⟨gb502, 0, none⟩ = some (.int .i64 a0_0) := bc BK502 0
     have hcz22_1 : w6.cell? ⟨gb502, 1, none⟩ = some (.int .i64 a0_1) := bc BK502 1
     have hcz22_2 : w6.cell? ⟨gb502, 2, none⟩ = some (.bool false) := bc BK502 2
     have hfz22_0 := blk_frozen BK502.out 0
     have hfz22_1 := blk_frozen BK502.out 1
     have hfz22_2 := blk_frozen BK502.out 2
     go_wp2_with (first | ((with_reducible refine gate_callee (f := 52) rfl ?_); refine goesL_ (some 7) rfl rfl Try.func52 (by kernel_rfl) rfl #[.agg #[.int .i64 a0_0, .int .i64 a0_1, .bool false]] rfl (by (try simp only [List.map_toArray, List.map_cons, List.map_nil]); first | done | rfl | (simp only [List.length_drop, List.length_take]; rfl)) ?_; (with_reducible refine (spec_InGroup.calls k a0_0 a0_1 false true _ A7.out).mono ?_); rintro e w23 ⟨rfl, hb⟩; refine ⟨_, rfl, ?_⟩; replace BK502 := bB BK502 hb; replace BK503 := bB BK503 hb; replace BK504 := bB BK504 hb; replace HB := bS HB hb; (try clear hb); (try clear hb2); (try clear hk); (try clear hi); have hnb24 := NB503_504.out; have hnc24 := NB504_503.out; have hcz25_0 : w23.cell? ⟨gb503, 0, none⟩ = some (.int .i64 a1_0) := bc BK503 0; have hcz25_1 : w23.cell? ⟨gb503, 1, none⟩ = some (.int .i64 a1_1) := bc BK503 1; have hcz25_2 : w23.cell? ⟨gb503, 2, none⟩ = some (.bool a1_2) := bc BK503 2; have hfz25_0 := blk_frozen BK503.out 0; have hfz25_1 := blk_frozen BK503.out 1; have hfz25_2 := blk_frozen BK503.out 2) | (go_at_call 52; (with_reducible refine (spec_InGroup.calls k a1_0 a1_1 a1_2 true _ A9.out).mono ?_); rintro e w26 ⟨rfl, hb⟩; replace BK502 := bB BK502 hb; replace BK503 := bB BK503 hb; replace BK504 := bB BK504 hb; replace HB := bS HB hb; (try clear hb); (try clear hb2); (try clear hk); (try clear hi); have hcz27_0 : w26.cell? ⟨gb502, 0, none⟩ = some (.int .i64 a0_0) := bc BK502 0; have hcz27_1 : w26.cell? ⟨gb502, 1, none⟩ = some (.int .i64 a0_1) := bc BK502 1; have hcz27_2 : w26.cell? ⟨gb502, 2, none⟩ = some (.bool false) := bc BK502 2; have hfz27_0 := blk_frozen BK502.out 0; have hfz27_1 := blk_frozen BK502.out 1; have hfz27_2 := blk_frozen BK502.out 2; have hcz28_0 : w26.cell? ⟨gb503, 0, none⟩ = some (.int .i64 a1_0) := bc BK503 0; have hcz28_1 : w26.cell? ⟨gb503, 1, none⟩ = some (.int .i64 a1_1) := bc BK503 1; have hcz28_2 : w26.cell? ⟨gb503, 2, none⟩ = some (.bool a1_2) := bc BK503 2; have hfz28_0 := blk_frozen BK503.out 0; have hfz28_1 := blk_frozen BK503.out 1; have hfz28_2 := blk_frozen BK503.out 2))
     go_meet
     case rel => exact ⟨_, (a1_2), (by first | rfl | (simp; done) | (simp [*]; done)), H', ⟨by first | omega | exact Nat.le_refl _⟩, ⟨bP BK502⟩, ⟨bP BK503⟩, ⟨bP BK504⟩, ⟨bZ HB⟩⟩
   ·replace c10 := Bool.eq_false_iff.mpr c10
    subst c10
    have H1 : (spec_Pairing.j0 k true a0_0 a0_1 a0_2 a1_0 a1_1 a1_2) = some (r1, r2) := by rw [if_neg (show ¬ (false = true) by decide)] at H; exact H
    clear H
    have H := H1
    clear H1
    have H' := Aside0.mk H
    clear H
    have hnb29 := NB502_503.out
    have hnc29 := NB503_502.out
    have hnb30 := NB502_504.out
    have hnc30 := NB504_502.out
    have hcz31_0 : w6.cell? ⟨gb502, 0, none⟩ = some (.int .i64 a0_0) := bc BK502 0
    have hcz31_1 : w6.cell? ⟨gb502, 1, none⟩ = some (.int .i64 a0_1) := bc BK502 1
    have hcz31_2 : w6.cell? ⟨gb502, 2, none⟩ = some (.bool a0_2) := bc BK502 2
    have hfz31_0 := blk_frozen BK502.out 0
    have hfz31_1 := blk_frozen BK502.out 1
    have hfz31_2 := blk_frozen BK502.out 2
    go_wp2_with (first | ((with_reducible refine gate_callee (f := 52) rfl ?_); refine goesL_ (some 7) rfl rfl Try.func52 (by kernel_rfl) rfl #[.agg #[.int .i64 a0_0, .int .i64 a0_1, .bool a0_2]] rfl (by (try simp only [List.map_toArray, List.map_cons, List.map_nil]); first | done | rfl | (simp only [List.length_drop, List.length_take]; rfl)) ?_; (with_reducible refine (spec_InGroup.calls k a0_0 a0_1 a0_2 true _ A7.out).mono ?_); rintro e w32 ⟨rfl, hb⟩; refine ⟨_, rfl, ?_⟩; replace BK502 := bB BK502 hb; replace BK503 := bB BK503 hb; replace BK504 := bB BK504 hb; replace HB := bS HB hb; (try clear hb); (try clear hb2); (try clear hk); (try clear hi); have hnb33 := NB503_504.out; have hnc33 := NB504_503.out; have hcz34_0 : w32.cell? ⟨gb503, 0, none⟩ = some (.int .i64 a1_0) := bc BK503 0; have hcz34_1 : w32.cell? ⟨gb503, 1, none⟩ = some (.int .i64 a1_1) := bc BK503 1; have hcz34_2 : w32.cell? ⟨gb503, 2, none⟩ = some (.bool a1_2) := bc BK503 2; have hfz34_0 := blk_frozen BK503.out 0; have hfz34_1 := blk_frozen BK503.out 1; have hfz34_2 := blk_frozen BK503.out 2) | (go_at_call 52; (with_reducible refine (spec_InGroup.calls k a1_0 a1_1 a1_2 false _ A9.out).mono ?_); rintro e w35 ⟨rfl, hb⟩; replace BK502 := bB BK502 hb; replace BK503 := bB BK503 hb; replace BK504 := bB BK504 hb; replace HB := bS HB hb; (try clear hb); (try clear hb2); (try clear hk); (try clear hi)))
    go_meet
    case rel => exact ⟨_, (true), (by first | rfl | (simp; done) | (simp [*]; done)), H', ⟨by first | omega | exact Nat.le_refl _⟩, ⟨bP BK502⟩, ⟨bP BK503⟩, ⟨bP BK504⟩, ⟨bZ HB⟩⟩
  ·replace c8 := Bool.eq_false_iff.mpr c8
   subst c8
   have H1 : (spec_Pairing.j0 k true a0_0 a0_1 a0_2 a1_0 a1_1 a1_2) = some (r1, r2) := by rw [if_neg (show ¬ (false = true) by decide)] at H; exact H
   clear H
   have H := H1
   clear H1
   have H' := Aside0.mk H
   clear H
   have hnb36 := NB502_503.out
   have hnc36 := NB503_502.out
   have hnb37 := NB502_504.out
   have hnc37 := NB504_502.out
   have hcz38_0 : w6.cell? ⟨gb502, 0, none⟩ = some (.int .i64 a0_0) := bc BK502 0
   have hcz38_1 : w6.cell? ⟨gb502, 1, none⟩ = some (.int .i64 a0_1) := bc BK502 1
   have hcz38_2 : w6.cell? ⟨gb502, 2, none⟩ = some (.bool a0_2) := bc BK502 2
   have hfz38_0 := blk_frozen BK502.out 0
   have hfz38_1 := blk_frozen BK502.out 1
   have hfz38_2 := blk_frozen BK502.out 2
   go_wp2_with (first | ((with_reducible refine gate_callee (f := 52) rfl ?_); refine goesL_ (some 7) rfl rfl Try.func52 (by kernel_rfl) rfl #[.agg #[.int .i64 a0_0, .int .i64 a0_1, .bool a0_2]] rfl (by (try simp only [List.map_toArray, List.map_cons, List.map_nil]); first | done | rfl | (simp only [List.length_drop, List.length_take]; rfl)) ?_; (with_reducible refine (spec_InGroup.calls k a0_0 a0_1 a0_2 false _ A7.out).mono ?_); rintro e w39 ⟨rfl, hb⟩; refine ⟨_, rfl, ?_⟩; replace BK502 := bB BK502 hb; replace BK503 := bB BK503 hb; replace BK504 := bB BK504 hb; replace HB := bS HB hb; (try clear hb); (try clear hb2); (try clear hk); (try clear hi)))
   go_meet
   case rel => exact ⟨_, (true), (by first | rfl | (simp; done) | (simp [*]; done)), H', ⟨by first | omega | exact Nat.le_refl _⟩, ⟨bP BK502⟩, ⟨bP BK503⟩, ⟨bP BK504⟩, ⟨bZ HB⟩⟩
 case rest =>
  clear HC3
  try clear c1
  try clear c2
  try clear p2
  try clear c3
  try clear c5
  try clear c8
  try clear c10
  try clear c11
  try clear c12
  try clear c13
  try clear c16
  try clear c20
  try clear c21
  try clear c22
  try clear c24
  try clear c29
  try clear c30
  try clear c33
  try clear c36
  try clear c37
  try clear hcz14_0
  try clear hcz14_1
  try clear hcz14_2
  try clear hcz17_0
  try clear hcz17_1
  try clear hcz17_2
  try clear hcz19_0
  try clear hcz19_1
  try clear hcz19_2
  try clear hcz22_0
  try clear hcz22_1
  try clear hcz22_2
  try clear hcz25_0
  try clear hcz25_1
  try clear hcz25_2
  try clear hcz27_0
  try clear hcz27_1
  try clear hcz27_2
  try clear hcz28_0
  try clear hcz28_1
  try clear hcz28_2
  try clear hcz31_0
  try clear hcz31_1
  try clear hcz31_2
  try clear hcz34_0
  try clear hcz34_1
  try clear hcz34_2
  try clear hcz38_0
  try clear hcz38_1
  try clear hcz38_2
  try clear hfz14_0
  try clear hfz14_1
  try clear hfz14_2
  try clear hfz17_0
  try clear hfz17_1
  try clear hfz17_2
  try clear hfz19_0
  try clear hfz19_1
  try clear hfz19_2
  try clear hfz22_0
  try clear hfz22_1
  try clear hfz22_2
  try clear hfz25_0
  try clear hfz25_1
  try clear hfz25_2
  try clear hfz27_0
  try clear hfz27_1
  try clear hfz27_2
  try clear hfz28_0
  try clear hfz28_1
  try clear hfz28_2
  try clear hfz31_0
  try clear hfz31_1
  try clear hfz31_2
  try clear hfz34_0
  try clear hfz34_1
  try clear hfz34_2
  try clear hfz38_0
  try clear hfz38_1
  try clear hfz38_2
  obtain ⟨kq, x21_2, rfl, HA, HJ2, BK502, BK503, BK504, HB⟩ := hcut
  cases kq with
  | zero => exact absurd HA.out (by simp [spec_Pairing.j0])
  | succ kj2 =>
   have H := HA.out
   clear HA
   simp only [spec_Pairing.j0] at H
   by_cases c40 : x21_2 = true
   ·subst c40
    have H1 : (some (1, 0)) = some (r1, r2) := by rw [if_pos rfl] at H; exact H
    clear H
    have H := H1
    clear H1
    simp only [Option.some.injEq, Prod.mk.injEq] at H
    obtain ⟨rfl, rfl⟩ := H
    have hnb41 := NB504_502.out
    have hnc41 := NB502_504.out
    have hnb42 := NB504_503.out
    have hnc42 := NB503_504.out
    have hcz43_0 : wc.cell? ⟨gb504, 0, none⟩ = some (.int .i64 0) := bc BK504 0
    have hcz43_1 : wc.cell? ⟨gb504, 1, none⟩ = some (.int .i64 0) := bc BK504 1
    have hfz43_0 := blk_frozen BK504.out 0
    have hfz43_1 := blk_frozen BK504.out 1
    go_wp2
    refine bodyPost_ret (results_cell_row rfl _ _ gb504 31 #[.int .i64 1, .int .i64 0] (0, 0) _ rfl (by (with_reducible repeat (first | refine blk_drewN ?_ _ | refine blk_drew ?_ | refine blk_alloc ?_ _)); refine blk_put (cs := #[.int .i64 1, .int .i64 0]) ?_ 1 _ rfl; (with_reducible repeat (first | refine blk_drewN ?_ _ | refine blk_drew ?_ | refine blk_alloc ?_ _)); refine blk_put (cs := #[.int .i64 0, .int .i64 0]) ?_ 0 _ rfl; (with_reducible repeat (first | refine blk_drewN ?_ _ | refine blk_drew ?_ | refine blk_alloc ?_ _)); exact BK504.out) Try.underlying31 rfl (by kernel_rfl)) rfl ?_
    exact ⟨by first | rfl | (simp [errW_none, errW_some] <;> rfl) | (simp [*, errW_none, errW_some] <;> rfl), bZ HB⟩
   ·replace c40 := Bool.eq_false_iff.mpr c40
    subst c40
    have H1 : ((spec_Miller.f kj2 a0_0 a0_1 a0_2 a1_0 a1_1 a1_2).bind fun bt507 => ((spec_TwoTurn.f bt507.1 bt507.2).bind fun bt510 => ((spec_TwoInv.f kj2 bt507.1 bt507.2).bind fun bt512 => ((spec_TwoMul.f bt510.1 bt510.2 bt512.1 bt512.2).bind fun bt514 => ((spec_TwoPow.f kj2 bt514.1 bt514.2 12).bind fun bt516 => (some (bt516.1, bt516.2))))))) = some (r1, r2) := by rw [if_neg (show ¬ (false = true) by decide)] at H; exact H
    clear H
    have H := H1
    clear H1
    replace H := Option.bind_eq_some_iff.mp H
    obtain ⟨⟨t507, t508⟩, A440, H⟩ := H
    replace H : ((spec_TwoTurn.f t507 t508).bind fun bt510 => ((spec_TwoInv.f kj2 t507 t508).bind fun bt512 => ((spec_TwoMul.f bt510.1 bt510.2 bt512.1 bt512.2).bind fun bt514 => ((spec_TwoPow.f kj2 bt514.1 bt514.2 12).bind fun bt516 => (some (bt516.1, bt516.2)))))) = some (r1, r2) := H
    have A44 := Aside0.mk A440
    clear A440
    replace H := Option.bind_eq_some_iff.mp H
    obtain ⟨⟨t510, t511⟩, A450, H⟩ := H
    replace H : ((spec_TwoInv.f kj2 t507 t508).bind fun bt512 => ((spec_TwoMul.f t510 t511 bt512.1 bt512.2).bind fun bt514 => ((spec_TwoPow.f kj2 bt514.1 bt514.2 12).bind fun bt516 => (some (bt516.1, bt516.2))))) = some (r1, r2) := H
    have A45 := Aside0.mk A450
    clear A450
    replace H := Option.bind_eq_some_iff.mp H
    obtain ⟨⟨t512, t513⟩, A460, H⟩ := H
    replace H : ((spec_TwoMul.f t510 t511 t512 t513).bind fun bt514 => ((spec_TwoPow.f kj2 bt514.1 bt514.2 12).bind fun bt516 => (some (bt516.1, bt516.2)))) = some (r1, r2) := H
    have A46 := Aside0.mk A460
    clear A460
    replace H := Option.bind_eq_some_iff.mp H
    obtain ⟨⟨t514, t515⟩, A470, H⟩ := H
    replace H : ((spec_TwoPow.f kj2 t514 t515 12).bind fun bt516 => (some (bt516.1, bt516.2))) = some (r1, r2) := H
    have A47 := Aside0.mk A470
    clear A470
    replace H := Option.bind_eq_some_iff.mp H
    obtain ⟨⟨t516, t517⟩, A480, H⟩ := H
    replace H : (some (t516, t517)) = some (r1, r2) := H
    have A48 := Aside0.mk A480
    clear A480
    simp only [Option.some.injEq, Prod.mk.injEq] at H
    obtain ⟨rfl, rfl⟩ := H
    have hnb49 := NB502_503.out
    have hnc49 := NB503_502.out
    have hnb50 := NB502_504.out
    have hnc50 := NB504_502.out
    have hcz51_0 : wc.cell? ⟨gb502, 0, none⟩ = some (.int .i64 a0_0) := bc BK502 0
    have hcz51_1 : wc.cell? ⟨gb502, 1, none⟩ = some (.int .i64 a0_1) := bc BK502 1
    have hcz51_2 : wc.cell? ⟨gb502, 2, none⟩ = some (.bool a0_2) := bc BK502 2
    have hfz51_0 := blk_frozen BK502.out 0
    have hfz51_1 := blk_frozen BK502.out 1
    have hfz51_2 := blk_frozen BK502.out 2
    have hnb52 := NB503_504.out
    have hnc52 := NB504_503.out
    have hcz53_0 : wc.cell? ⟨gb503, 0, none⟩ = some (.int .i64 a1_0) := bc BK503 0
    have hcz53_1 : wc.cell? ⟨gb503, 1, none⟩ = some (.int .i64 a1_1) := bc BK503 1
    have hcz53_2 : wc.cell? ⟨gb503, 2, none⟩ = some (.bool a1_2) := bc BK503 2
    have hfz53_0 := blk_frozen BK503.out 0
    have hfz53_1 := blk_frozen BK503.out 1
    have hfz53_2 := blk_frozen BK503.out 2
    try go_wp2_with (first | ((with_reducible refine gate_callee (f := 39) rfl ?_); refine goesL_ (some 25) rfl rfl Try.func39 (by kernel_rfl) rfl #[.agg #[.int .i64 a0_0, .int .i64 a0_1, .bool a0_2], .agg #[.int .i64 a1_0, .int .i64 a1_1, .bool a1_2]] rfl (by (try simp only [List.map_toArray, List.map_cons, List.map_nil]); first | done | rfl | (simp only [List.length_drop, List.length_take]; rfl)) ?_; (with_reducible refine (spec_Miller.calls kj2 a0_0 a0_1 a0_2 a1_0 a1_1 a1_2 t507 t508 _ A44.out).mono ?_); rintro e w54 ⟨rfl, hb⟩; refine ⟨_, rfl, ?_⟩; replace BK502 := bB BK502 hb; replace BK503 := bB BK503 hb; replace BK504 := bB BK504 hb; replace HB := bS HB hb; (try clear hb); (try clear hb2); (try clear hk); (try clear hi)) | ((with_reducible refine gate_dst (N := 5) rfl ?_); refine box_event ?hg (N := 5) ?hd (cs := #[.int .i64 0, .int .i64 0]) (t := 31) ?hr ?_; (case hd => rfl); (case hg => rfl); (case hr => first | (go_simp; done) | (go_simp; rfl)); intro gb509 hg w55 hbox hb; have BK509 := Aside0.mk (hbox); have GW509 := bG HB hg; have GE509 := bG HB hg; replace HB := bS HB hb; have NB502_509 := bL BK502 hg; have NB509_502 := bR BK502 hg; replace BK502 := bB BK502 hb; have NB503_509 := bL BK503 hg; have NB509_503 := bR BK503 hg; replace BK503 := bB BK503 hb; have NB504_509 := bL BK504 hg; have NB509_504 := bR BK504 hg; replace BK504 := bB BK504 hb; clear hb hbox hg; have hnb56 := NB509_502.out; have hnc56 := NB502_509.out; have hnb57 := NB509_503.out; have hnc57 := NB503_509.out; have hnb58 := NB509_504.out; have hnc58 := NB504_509.out; have hcz59_0 : w55.cell? ⟨gb509, 0, none⟩ = some (.int .i64 0) := bc BK509 0; have hcz59_1 : w55.cell? ⟨gb509, 1, none⟩ = some (.int .i64 0) := bc BK509 1; have hfz59_0 := blk_frozen BK509.out 0; have hfz59_1 := blk_frozen BK509.out 1))
    have n0_ : Aside0 (((w55.setCell ⟨gb509, 0, none⟩ (.int .i64 t507)).setCell ⟨gb509, 1, none⟩ (.int .i64 t508)).heap[gb502]? = some (.cells #[.int .i64 a0_0, .int .i64 a0_1, .bool a0_2] 25 (0, 0))) := ⟨bP BK502⟩
    have n1_ : Aside0 (((w55.setCell ⟨gb509, 0, none⟩ (.int .i64 t507)).setCell ⟨gb509, 1, none⟩ (.int .i64 t508)).heap[gb503]? = some (.cells #[.int .i64 a1_0, .int .i64 a1_1, .bool a1_2] 25 (0, 0))) := ⟨bP BK503⟩
    have n2_ : Aside0 (((w55.setCell ⟨gb509, 0, none⟩ (.int .i64 t507)).setCell ⟨gb509, 1, none⟩ (.int .i64 t508)).heap[gb504]? = some (.cells #[.int .i64 0, .int .i64 0] 31 (0, 0))) := ⟨bP BK504⟩
    have n3_ : Aside0 (((w55.setCell ⟨gb509, 0, none⟩ (.int .i64 t507)).setCell ⟨gb509, 1, none⟩ (.int .i64 t508)).heap[gb509]? = some (.cells #[.int .i64 t507, .int .i64 t508] 31 (0, 0))) := ⟨by (with_reducible repeat (first | refine blk_drewN ?_ _ | refine blk_drew ?_ | refine blk_alloc ?_ _)); refine blk_put (cs := #[.int .i64 t507, .int .i64 0]) ?_ 1 _ rfl; (with_reducible repeat (first | refine blk_drewN ?_ _ | refine blk_drew ?_ | refine blk_alloc ?_ _)); refine blk_put (cs := #[.int .i64 0, .int .i64 0]) ?_ 0 _ rfl; (with_reducible repeat (first | refine blk_drewN ?_ _ | refine blk_drew ?_ | refine blk_alloc ?_ _)); exact BK509.out⟩
    have n4_ : Aside0 (Below w.heap.size w ((w55.setCell ⟨gb509, 0, none⟩ (.int .i64 t507)).setCell ⟨gb509, 1, none⟩ (.int .i64 t508))) := ⟨bZ HB⟩
    (try clear BK502)
    (try clear BK503)
    (try clear BK504)
    (try clear BK509)
    (try clear HB)
    generalize ((w55.setCell ⟨gb509, 0, none⟩ (.int .i64 t507)).setCell ⟨gb509, 1, none⟩ (.int .i64 t508)) = w60 at n0_ n1_ n2_ n3_ n4_ ⊢
    have BK502 := n0_
    have BK503 := n1_
    have BK504 := n2_
    have BK509 := n3_
    have HB := n4_
    clear n0_ n1_ n2_ n3_ n4_
    replace BK502 := Aside0.mk (blk_drew BK502.out)
    replace BK503 := Aside0.mk (blk_drew BK503.out)
    replace BK504 := Aside0.mk (blk_drew BK504.out)
    replace BK509 := Aside0.mk (blk_drew BK509.out)
    replace HB := Aside0.mk (below_drew1 HB.out)
    refine start_ (n := 7) (S := fun w' => w'.cell? ⟨gb509, 0, none⟩ = some (.int .i64 t507) ∧ w'.cell? ⟨gb509, 1, none⟩ = some (.int .i64 t508)) (ds := []) #[false, false, false, false, false, false, false] (by kernel_rfl) rfl rfl ⟨bc BK509 0, bc BK509 1⟩ (fun hHeld => ?_)
    generalize w60.drew = w61 at BK502 BK503 BK504 BK509 HB hHeld ⊢
    refine take_ (i := 0) (N := some 26) (v := ?_) (a' := ?_) #[true, false, false, false, false, false, false] rfl rfl (by kernel_rfl) (fun _ _ _ h => h) (Or.inl ⟨by rfl, ?_⟩) hHeld ?_ ?_
    rotate_left
    ·rintro w' ⟨s0, s1⟩
     go_simp
     with_reducible rfl
    rotate_left
    ·simp only [Act.put, List.setIfInBounds_toArray, List.set_cons_zero, List.set_cons_succ, i64_w, i32_w]
     rfl
    refine take_ (i := 2) (N := some 28) (v := ?_) (a' := ?_) #[true, false, true, false, false, false, false] rfl rfl (by kernel_rfl) (fun _ _ _ h => h) (Or.inl ⟨by rfl, ?_⟩) hHeld ?_ ?_
    rotate_left
    ·rintro w' ⟨s0, s1⟩
     go_simp
     with_reducible rfl
    rotate_left
    ·simp only [Act.put, List.setIfInBounds_toArray, List.set_cons_zero, List.set_cons_succ, i64_w, i32_w]
     rfl
    refine one_ (i := 1) (N := some 27) #[true, true, true, false, false, false, false] rfl rfl (by kernel_rfl) (by decide) (fun K hK => ?_)
    refine goes_ Try.func72 (by kernel_rfl) rfl #[.agg #[.int .i64 t507, .int .i64 t508]] (by rfl) rfl rfl (by (try simp only [List.map_toArray, List.map_cons, List.map_nil]); first | done | rfl | (simp only [List.length_drop, List.length_take]; rfl)) ?_
    with_reducible refine (spec_TwoTurn.calls t507 t508 t510 t511 _ A45.out).mono ?_
    rintro e w62 ⟨rfl, hb⟩
    refine ⟨_, rfl, ?_⟩
    replace BK502 := bB BK502 hb
    replace BK503 := bB BK503 hb
    replace BK504 := bB BK504 hb
    replace BK509 := bB BK509 hb
    replace HB := bS HB hb
    (try clear hb)
    (try clear hb2)
    (try clear hk)
    (try clear hi)
    refine hK.out _ _ ⟨bc BK509 0, bc BK509 1⟩ (fun hHeld => ?_)
    clear hK K
    refine norm_ (a' := ?_) ?_ ?_
    rotate_left
    ·show Act.put _ (some 27) _ = _
     simp only [Act.put, List.setIfInBounds_toArray, List.set_cons_zero, List.set_cons_succ, i64_w, i32_w]
     rfl
    refine one_ (i := 3) (N := some 29) #[true, true, true, true, false, false, false] rfl rfl (by kernel_rfl) (by decide) (fun K hK => ?_)
    refine goes_ Try.func73 (by kernel_rfl) rfl #[.agg #[.int .i64 t507, .int .i64 t508]] (by rfl) rfl rfl (by (try simp only [List.map_toArray, List.map_cons, List.map_nil]); first | done | rfl | (simp only [List.length_drop, List.length_take]; rfl)) ?_
    with_reducible refine (spec_TwoInv.calls kj2 t507 t508 t512 t513 _ A46.out).mono ?_
    rintro e w63 ⟨rfl, hb⟩
    refine ⟨_, rfl, ?_⟩
    replace BK502 := bB BK502 hb
    replace BK503 := bB BK503 hb
    replace BK504 := bB BK504 hb
    replace BK509 := bB BK509 hb
    replace HB := bS HB hb
    (try clear hb)
    (try clear hb2)
    (try clear hk)
    (try clear hi)
    refine hK.out _ _ ⟨bc BK509 0, bc BK509 1⟩ (fun hHeld => ?_)
    clear hK K
    refine norm_ (a' := ?_) ?_ ?_
    rotate_left
    ·show Act.put _ (some 29) _ = _
     simp only [Act.put, List.setIfInBounds_toArray, List.set_cons_zero, List.set_cons_succ, i64_w, i32_w]
     rfl
    refine one_ (i := 4) (N := some 30) #[true, true, true, true, true, false, false] rfl rfl (by kernel_rfl) (by decide) (fun K hK => ?_)
    refine goes_ Try.func71 (by kernel_rfl) rfl #[.agg #[.int .i64 t510, .int .i64 t511], .agg #[.int .i64 t512, .int .i64 t513]] (by rfl) rfl rfl (by (try simp only [List.map_toArray, List.map_cons, List.map_nil]); first | done | rfl | (simp only [List.length_drop, List.length_take]; rfl)) ?_
    with_reducible refine (spec_TwoMul.calls t510 t511 t512 t513 t514 t515 _ A47.out).mono ?_
    rintro e w64 ⟨rfl, hb⟩
    refine ⟨_, rfl, ?_⟩
    replace BK502 := bB BK502 hb
    replace BK503 := bB BK503 hb
    replace BK504 := bB BK504 hb
    replace BK509 := bB BK509 hb
    replace HB := bS HB hb
    (try clear hb)
    (try clear hb2)
    (try clear hk)
    (try clear hi)
    refine hK.out _ _ ⟨bc BK509 0, bc BK509 1⟩ (fun hHeld => ?_)
    clear hK K
    refine norm_ (a' := ?_) ?_ ?_
    rotate_left
    ·show Act.put _ (some 30) _ = _
     simp only [Act.put, List.setIfInBounds_toArray, List.set_cons_zero, List.set_cons_succ, i64_w, i32_w]
     rfl
    refine one_ (i := 5) (N := some 31) #[true, true, true, true, true, true, false] rfl rfl (by kernel_rfl) (by decide) (fun K hK => ?_)
    refine goes_ Try.func70 (by kernel_rfl) rfl #[.agg #[.int .i64 t514, .int .i64 t515], .int .i64 12] (by rfl) rfl rfl (by (try simp only [List.map_toArray, List.map_cons, List.map_nil]); first | done | rfl | (simp only [List.length_drop, List.length_take]; rfl)) ?_
    with_reducible refine (spec_TwoPow.calls kj2 t514 t515 12 t516 t517 _ A48.out).mono ?_
    rintro e w65 ⟨rfl, hb⟩
    refine ⟨_, rfl, ?_⟩
    replace BK502 := bB BK502 hb
    replace BK503 := bB BK503 hb
    replace BK504 := bB BK504 hb
    replace BK509 := bB BK509 hb
    replace HB := bS HB hb
    (try clear hb)
    (try clear hb2)
    (try clear hk)
    (try clear hi)
    refine hK.out _ _ ⟨bc BK509 0, bc BK509 1⟩ (fun hHeld => ?_)
    clear hK K
    refine norm_ (a' := ?_) ?_ ?_
    rotate_left
    ·show Act.put _ (some 31) _ = _
     simp only [Act.put, List.setIfInBounds_toArray, List.set_cons_zero, List.set_cons_succ, i64_w, i32_w]
     rfl
    refine one_ (i := 6) (N := none) #[true, true, true, true, true, true, true] rfl rfl (by kernel_rfl) (by decide) (fun K hK => ?_)
    have hs66 : w65.cell? ⟨gb504, 0, none⟩ = some (.int .i64 0) := bc BK504 0
    have hfs66 := blk_frozen BK504.out 0
    have hns66_0 := NB502_504.out
    have hns66_1 := NB503_504.out
    have hns66_3 := NB509_504.out
    have hms66_0 := NB504_502.out
    have hms66_1 := NB504_503.out
    have hms66_3 := NB504_509.out
    have hs67 : w65.cell? ⟨gb504, 1, none⟩ = some (.int .i64 0) := bc BK504 1
    have hfs67 := blk_frozen BK504.out 1
    have hns67_0 := NB502_504.out
    have hns67_1 := NB503_504.out
    have hns67_3 := NB509_504.out
    have hms67_0 := NB504_502.out
    have hms67_1 := NB504_503.out
    have hms67_3 := NB504_509.out
    refine skip_ (w1 := ?_) (by rfl) rfl ?_ ?_
    rotate_left
    ·go_simp
     rfl
    refine hK.out _ _ ⟨((cell_far (p := ⟨gb504, _, none⟩) NB509_504.out _).trans (((cell_far (p := ⟨gb504, _, none⟩) NB509_504.out _).trans (hHeld.1)))), ((cell_far (p := ⟨gb504, _, none⟩) NB509_504.out _).trans (((cell_far (p := ⟨gb504, _, none⟩) NB509_504.out _).trans (hHeld.2))))⟩ (fun hHeld => ?_)
    clear hK K
    refine done_ (by kernel_rfl) ?_
    try go_wp2
    refine bodyPost_ret (results_cell_row rfl _ _ gb504 31 #[.int .i64 t516, .int .i64 t517] (0, 0) _ rfl (by (with_reducible repeat (first | refine blk_drewN ?_ _ | refine blk_drew ?_ | refine blk_alloc ?_ _)); refine blk_put (cs := #[.int .i64 t516, .int .i64 0]) ?_ 1 _ rfl; (with_reducible repeat (first | refine blk_drewN ?_ _ | refine blk_drew ?_ | refine blk_alloc ?_ _)); refine blk_put (cs := #[.int .i64 0, .int .i64 0]) ?_ 0 _ rfl; (with_reducible repeat (first | refine blk_drewN ?_ _ | refine blk_drew ?_ | refine blk_alloc ?_ _)); exact BK504.out) Try.underlying31 rfl (by kernel_rfl)) rfl ?_
    exact ⟨by first | rfl | (simp [errW_none, errW_some] <;> rfl) | (simp [*, errW_none, errW_some] <;> rfl), bZ HB⟩
end Go.Proofs.Ytmbjefdkjdemhaa.Pf
end
