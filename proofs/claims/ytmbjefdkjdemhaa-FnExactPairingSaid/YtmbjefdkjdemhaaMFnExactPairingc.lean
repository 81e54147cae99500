/- What is proved here: part 3 of 5 of the proof of the given statement FnExactPairing: the contracts of the Go functions that it reaches, the plain facts on lists and numbers, and (in the last part) the statement itself. No conditions beyond the given ones. -/
import Derived.Test.YtmbjefdkjdemhaaMFnExactPairingwSlim
import Derived.Test.YtmbjefdkjdemhaaMFnExactPairinga
import Derived.Test.YtmbjefdkjdemhaaMFnExactPairingb

section
namespace Go.Proofs.Ytmbjefdkjdemhaa.Pf
open Go.RowKit Go.Proofs.YtmbjefdkjdemhaaW.PrintWords Go.Proofs.YtmbjefdkjdemhaaW.PrintLast Go.Proofs.YtmbjefdkjdemhaaW.PrintMore
attribute [local go_sem] max2_int min2_int max_two min_two max_three min_three max_four min_four   -- for this text's walks alone
set_option linter.unusedVariables false
set_option linter.unusedSimpArgs false
/-! ### spec_PairLine: function 23 -/
def spec_PairLine.j0 : Nat → Bool → Int → Int → Bool → Int → Int → Bool → Int → Int → Bool → Int → Int → Option (Int × Int)
 | 0, _, _, _, _, _, _, _, _, _, _, _, _ => none
 | k + 1, x36, x417000, x417001, x417002, x418000, x418001, x418002, x419000, x419001, x419002, x421000, x421001 => if x36 = true then (some (x421000, x421001)) else ((spec_l07Slope.f k x417000 x417001 x417002 x418000 x418001 x418002).bind fun bt424 => (if bt424.2 = true then ((spec_FpSub.f 0 x419000).bind fun t426 => ((spec_FpSub.f t426 x417000).bind fun t427 => ((spec_FpSub.f 0 x417001).bind fun t428 => ((spec_FpMul.f bt424.1 t427).bind fun t429 => ((spec_FpSub.f t428 t429).bind fun t430 => (some (t430, x419001))))))) else (some (x421000, x421001))))
def spec_PairLine.f (k : Nat) (a0_0 : Int) (a0_1 : Int) (a0_2 : Bool) (a1_0 : Int) (a1_1 : Int) (a1_2 : Bool) (a2_0 : Int) (a2_1 : Int) (a2_2 : Bool) : Option (Int × Int) := if a0_2 = true then (spec_PairLine.j0 k true a0_0 a0_1 a0_2 a1_0 a1_1 a1_2 a2_0 a2_1 a2_2 1 0) else (if a1_2 = true then (spec_PairLine.j0 k true a0_0 a0_1 a0_2 a1_0 a1_1 a1_2 a2_0 a2_1 a2_2 1 0) else (if a2_2 = true then (spec_PairLine.j0 k true a0_0 a0_1 a0_2 a1_0 a1_1 a1_2 a2_0 a2_1 a2_2 1 0) else ((spec_PointOk.f a0_0 a0_1 a0_2).bind fun t421 => (if t421 = true then ((spec_PointOk.f a1_0 a1_1 a1_2).bind fun t422 => (if t422 = true then ((spec_PointOk.f a2_0 a2_1 a2_2).bind fun t423 => (spec_PairLine.j0 k (!t423) a0_0 a0_1 a0_2 a1_0 a1_1 a1_2 a2_0 a2_1 a2_2 1 0)) else (spec_PairLine.j0 k true a0_0 a0_1 a0_2 a1_0 a1_1 a1_2 a2_0 a2_1 a2_2 1 0))) else (spec_PairLine.j0 k true a0_0 a0_1 a0_2 a1_0 a1_1 a1_2 a2_0 a2_1 a2_2 1 0)))))
theorem spec_PairLine.mono_l : ∀ k, (∀ y0 y1 y2 y3 y4 y5 y6 y7 y8 y9 y10 y11, LeO (spec_PairLine.j0 k y0 y1 y2 y3 y4 y5 y6 y7 y8 y9 y10 y11) (spec_PairLine.j0 (k + 1) y0 y1 y2 y3 y4 y5 y6 y7 y8 y9 y10 y11))
 | 0 => fun _ _ _ _ _ _ _ _ _ _ _ _ r h => by simp [spec_PairLine.j0] at h
 | k + 1 => by
  have ih0 := spec_PairLine.mono_l k
  ·intro y0 y1 y2 y3 y4 y5 y6 y7 y8 y9 y10 y11
   unfold spec_PairLine.j0
   repeat' first
   | (with_reducible exact ih0 _ _ _ _ _ _ _ _ _ _ _ _)
   | (with_reducible exact spec_l07Slope.mono _ _ _ _ _ _ _)
   | (with_reducible exact LeO.refl _)
   | (with_reducible exact LeO.none _)
   | (with_reducible refine LeO.ite ?_ ?_)
   | (with_reducible refine LeO.bind ?_ (fun _ => ?_))
   | exact ih0 _ _ _ _ _ _ _ _ _ _ _ _
   | exact spec_l07Slope.mono _ _ _ _ _ _ _
   | exact LeO.none _
   | refine LeO.ite ?_ ?_
   | refine LeO.bind ?_ (fun _ => ?_)
theorem spec_PairLine.mono : ∀ a0 a1 a2 a3 a4 a5 a6 a7 a8 k, LeO (spec_PairLine.f k a0 a1 a2 a3 a4 a5 a6 a7 a8) (spec_PairLine.f (k + 1) a0 a1 a2 a3 a4 a5 a6 a7 a8) := by
 intro a0 a1 a2 a3 a4 a5 a6 a7 a8 k
 have ih0 := spec_PairLine.mono_l k
 unfold spec_PairLine.f
 repeat' first
   | (with_reducible exact ih0 _ _ _ _ _ _ _ _ _ _ _ _)
   | (with_reducible exact spec_l07Slope.mono _ _ _ _ _ _ _)
   | (with_reducible exact LeO.refl _)
   | (with_reducible exact LeO.none _)
   | (with_reducible refine LeO.ite ?_ ?_)
   | (with_reducible refine LeO.bind ?_ (fun _ => ?_))
   | exact ih0 _ _ _ _ _ _ _ _ _ _ _ _
   | exact spec_l07Slope.mono _ _ _ _ _ _ _
   | exact LeO.none _
   | refine LeO.ite ?_ ?_
   | refine LeO.bind ?_ (fun _ => ?_)
def spec_PairLine.T8 : Bool × List (List Nat × List Nat) := (true, [([], []), ([0], [0]), ([1], [1]), ([], []), ([], []), ([3, 4, 2], [3, 4]), ([2, 5, 5], [2, 5]), ([], []), ([7], [7]), ([6, 8], [6, 8]), ([9, 6, 0, 1, 2, 3, 4, 5, 6, 7, 8, 9], [9])])
def spec_PairLine.B8 : List Nat := [0, 1, 3, 0, 0, 31, 63, 0, 128, 511, 1023]
theorem spec_PairLine.tab8 : rtab .any (opsOf Try.f23 8) = spec_PairLine.T8 := by kernel_rfl
theorem spec_PairLine.bits8 : waitsOk spec_PairLine.T8.2 spec_PairLine.B8 = true := by kernel_rfl
set_option maxHeartbeats 8000000 in
set_option maxRecDepth 100000 in
theorem spec_PairLine.calls (k : Nat) (a0_0 : Int) (a0_1 : Int) (a0_2 : Bool) (a1_0 : Int) (a1_1 : Int) (a1_2 : Bool) (a2_0 : Int) (a2_1 : Int) (a2_2 : Bool) (r1 : Int) (r2 : Int) (w : World) (h : spec_PairLine.f k a0_0 a0_1 a0_2 a1_0 a1_1 a1_2 a2_0 a2_1 a2_2 = some (r1, r2)) :
  Calls Try.prog 23 #[.agg #[.int .i64 a0_0, .int .i64 a0_1, .bool a0_2], .agg #[.int .i64 a1_0, .int .i64 a1_1, .bool a1_2], .agg #[.int .i64 a2_0, .int .i64 a2_1, .bool a2_2]] w fun e w' => e = .returned (.agg #[.int .i64 r1, .int .i64 r2]) ∧ Below w.heap.size w w' := by
 have hu25 := Try.underlying25
 have hu31 := Try.underlying31
 have HB := Aside0.mk (Below.refl w.heap.size w)
 have H : (if a0_2 = true then (spec_PairLine.j0 k true a0_0 a0_1 a0_2 a1_0 a1_1 a1_2 a2_0 a2_1 a2_2 1 0) else (if a1_2 = true then (spec_PairLine.j0 k true a0_0 a0_1 a0_2 a1_0 a1_1 a1_2 a2_0 a2_1 a2_2 1 0) else (if a2_2 = true then (spec_PairLine.j0 k true a0_0 a0_1 a0_2 a1_0 a1_1 a1_2 a2_0 a2_1 a2_2 1 0) else ((spec_PointOk.f a0_0 a0_1 a0_2).bind fun t421 => (if t421 = true then ((spec_PointOk.f a1_0 a1_1 a1_2).bind fun t422 => (if t422 = true then ((spec_PointOk.f a2_0 a2_1 a2_2).bind fun t423 => (spec_PairLine.j0 k (!t423) a0_0 a0_1 a0_2 a1_0 a1_1 a1_2 a2_0 a2_1 a2_2 1 0)) else (spec_PairLine.j0 k true a0_0 a0_1 a0_2 a1_0 a1_1 a1_2 a2_0 a2_1 a2_2 1 0))) else (spec_PairLine.j0 k true a0_0 a0_1 a0_2 a1_0 a1_1 a1_2 a2_0 a2_1 a2_2 1 0)))))) = some (r1, r2) := h
 clear h
 have HC4 := Aside0.mk H
 clear H
 go_enter Try.func23, Try.ntmps23
 go_upto_region 2 with (first | ((with_reducible refine gate_dst (N := 3) rfl ?_); refine box_event ?hg (N := 3) ?hd (cs := #[.int .i64 a0_0, .int .i64 a0_1, .bool a0_2]) (t := 25) ?hr ?_; (case hd => rfl); (case hg => rfl); (case hr => first | (go_simp; done) | (go_simp; rfl)); intro gb416 hg w5 hbox hb; have BK416 := Aside0.mk (hbox); have GW416 := bG HB hg; have GE416 := bG HB hg; replace HB := bS HB hb; clear hb hbox hg) | ((with_reducible refine gate_dst (N := 4) rfl ?_); refine box_event ?hg (N := 4) ?hd (cs := #[.int .i64 a1_0, .int .i64 a1_1, .bool a1_2]) (t := 25) ?hr ?_; (case hd => rfl); (case hg => rfl); (case hr => first | (go_simp; done) | (go_simp; rfl)); intro gb417 hg w6 hbox hb; have BK417 := Aside0.mk (hbox); have GW417 := bG HB hg; have GE417 := bG HB hg; replace HB := bS HB hb; have NB416_417 := bL BK416 hg; have NB417_416 := bR BK416 hg; replace BK416 := bB BK416 hb; clear hb hbox hg) | ((with_reducible refine gate_dst (N := 5) rfl ?_); refine box_event ?hg (N := 5) ?hd (cs := #[.int .i64 a2_0, .int .i64 a2_1, .bool a2_2]) (t := 25) ?hr ?_; (case hd => rfl); (case hg => rfl); (case hr => first | (go_simp; done) | (go_simp; rfl)); intro gb418 hg w7 hbox hb; have BK418 := Aside0.mk (hbox); have GW418 := bG HB hg; have GE418 := bG HB hg; replace HB := bS HB hb; have NB416_418 := bL BK416 hg; have NB418_416 := bR BK416 hg; replace BK416 := bB BK416 hb; have NB417_418 := bL BK417 hg; have NB418_417 := bR BK417 hg; replace BK417 := bB BK417 hb; clear hb hbox hg) | ((with_reducible refine gate_dst (N := 6) rfl ?_); refine box_event ?hg (N := 6) ?hd (cs := #[.int .i64 0, .int .i64 0]) (t := 31) ?hr ?_; (case hd => rfl); (case hg => rfl); (case hr => first | (go_simp; done) | (go_simp; rfl)); intro gb419 hg w8 hbox hb; have BK419 := Aside0.mk (hbox); have GW419 := bG HB hg; have GE419 := bG HB hg; replace HB := bS HB hb; have NB416_419 := bL BK416 hg; have NB419_416 := bR BK416 hg; replace BK416 := bB BK416 hb; have NB417_419 := bL BK417 hg; have NB419_417 := bR BK417 hg; replace BK417 := bB BK417 hb; have NB418_419 := bL BK418 hg; have NB419_418 := bR BK418 hg; replace BK418 := bB BK418 hb; clear hb hbox hg) | ((with_reducible refine gate_dst (N := 7) rfl ?_); refine box_event ?hg (N := 7) ?hd (cs := #[.int .i64 0, .int .i64 0]) (t := 31) ?hr ?_; (case hd => rfl); (case hg => rfl); (case hr => first | (go_simp; done) | (go_simp; rfl)); intro gb420 hg w9 hbox hb; have BK420 := Aside0.mk (hbox); have GW420 := bG HB hg; have GE420 := bG HB hg; replace HB := bS HB hb; have NB416_420 := bL BK416 hg; have NB420_416 := bR BK416 hg; replace BK416 := bB BK416 hb; have NB417_420 := bL BK417 hg; have NB420_417 := bR BK417 hg; replace BK417 := bB BK417 hb; have NB418_420 := bL BK418 hg; have NB420_418 := bR BK418 hg; replace BK418 := bB BK418 hb; have NB419_420 := bL BK419 hg; have NB420_419 := bR BK419 hg; replace BK419 := bB BK419 hb; clear hb hbox hg; have hnb10 := NB420_416.out; have hnc10 := NB416_420.out; have hnb11 := NB420_417.out; have hnc11 := NB417_420.out; have hnb12 := NB420_418.out; have hnc12 := NB418_420.out; have hnb13 := NB420_419.out; have hnc13 := NB419_420.out; have hcz14_0 : w9.cell? ⟨gb420, 0, none⟩ = some (.int .i64 0) := bc BK420 0; have hcz14_1 : w9.cell? ⟨gb420, 1, none⟩ = some (.int .i64 0) := bc BK420 1; have hfz14_0 := blk_frozen BK420.out 0; have hfz14_1 := blk_frozen BK420.out 1))
 (try simp only [Act.put, List.setIfInBounds_toArray, List.set_cons_zero, List.set_cons_succ])
 go_cut [36] (fun v36 wc => ∃ (kq : Nat) (x36_3 : Bool), v36 = .bool x36_3 ∧ Aside0 (spec_PairLine.j0 kq x36_3 a0_0 a0_1 a0_2 a1_0 a1_1 a1_2 a2_0 a2_1 a2_2 1 0 = some (r1, r2)) ∧ Aside0 (kq ≤ k) ∧ Aside0 (wc.heap[gb416]? = some (.cells #[.int .i64 a0_0, .int .i64 a0_1, .bool a0_2] 25 (0, 0))) ∧ Aside0 (wc.heap[gb417]? = some (.cells #[.int .i64 a1_0, .int .i64 a1_1, .bool a1_2] 25 (0, 0))) ∧ Aside0 (wc.heap[gb418]? = some (.cells #[.int .i64 a2_0, .int .i64 a2_1, .bool a2_2] 25 (0, 0))) ∧ Aside0 (wc.heap[gb419]? = some (.cells #[.int .i64 0, .int .i64 0] 31 (0, 0))) ∧ Aside0 (wc.heap[gb420]? = some (.cells #[.int .i64 1, .int .i64 0] 31 (0, 0))) ∧ Aside0 (Below w.heap.size w wc))
 case first =>
  have H := HC4.out
  clear HC4
  by_cases c15 : a0_2 = true
  ·subst c15
   have H1 : (spec_PairLine.j0 k true a0_0 a0_1 true a1_0 a1_1 a1_2 a2_0 a2_1 a2_2 1 0) = some (r1, r2) := by rw [if_pos rfl] at H; exact H
   clear H
   have H := H1
   clear H1
   have H' := Aside0.mk H
   clear H
   have hnb16 := NB416_417.out
   have hnc16 := NB417_416.out
   have hnb17 := NB416_418.out
   have hnc17 := NB418_416.out
   have hnb18 := NB416_419.out
   have hnc18 := NB419_416.out
   have hnb19 := NB416_420.out
   have hnc19 := NB420_416.out
   have hcz20_0 : w9.cell? ⟨gb416, 0, none⟩ = some (.int .i64 a0_0) := bc BK416 0
   have hcz20_1 : w9.cell? ⟨gb416, 1, none⟩ = some (.int .i64 a0_1) := bc BK416 1
   have hcz20_2 : w9.cell? ⟨gb416, 2, none⟩ = some (.bool true) := bc BK416 2
   have hfz20_0 := blk_frozen BK416.out 0
   have hfz20_1 := blk_frozen BK416.out 1
   have hfz20_2 := blk_frozen BK416.out 2
   go_wp2
   go_meet
   case rel => exact ⟨_, (true), (by first | rfl | (simp; done) | (simp [*]; done)), H', ⟨by first | omega | exact Nat.le_refl _⟩, ⟨bP BK416⟩, ⟨bP BK417⟩, ⟨bP BK418⟩, ⟨bP BK419⟩, ⟨by (with_reducible repeat (first | refine blk_drewN ?_ _ | refine blk_drew ?_ | refine blk_alloc ?_ _)); refine blk_put (cs := #[.int .i64 1, .int .i64 0]) ?_ 1 _ rfl; (with_reducible repeat (first | refine blk_drewN ?_ _ | refine blk_drew ?_ | refine blk_alloc ?_ _)); refine blk_put (cs := #[.int .i64 0, .int .i64 0]) ?_ 0 _ rfl; (with_reducible repeat (first | refine blk_drewN ?_ _ | refine blk_drew ?_ | refine blk_alloc ?_ _)); exact BK420.out⟩, ⟨bZ HB⟩⟩
  ·replace c15 := Bool.eq_false_iff.mpr c15
   subst c15
   have H1 : (if a1_2 = true then (spec_PairLine.j0 k true a0_0 a0_1 false a1_0 a1_1 a1_2 a2_0 a2_1 a2_2 1 0) else (if a2_2 = true then (spec_PairLine.j0 k true a0_0 a0_1 false a1_0 a1_1 a1_2 a2_0 a2_1 a2_2 1 0) else ((spec_PointOk.f a0_0 a0_1 false).bind fun t421 => (if t421 = true then ((spec_PointOk.f a1_0 a1_1 a1_2).bind fun t422 => (if t422 = true then ((spec_PointOk.f a2_0 a2_1 a2_2).bind fun t423 => (spec_PairLine.j0 k (!t423) a0_0 a0_1 false a1_0 a1_1 a1_2 a2_0 a2_1 a2_2 1 0)) else (spec_PairLine.j0 k true a0_0 a0_1 false a1_0 a1_1 a1_2 a2_0 a2_1 a2_2 1 0))) else (spec_PairLine.j0 k true a0_0 a0_1 false a1_0 a1_1 a1_2 a2_0 a2_1 a2_2 1 0))))) = some (r1, r2) := by rw [if_neg (show ¬ (false = true) by decide)] at H; exact H
   clear H
   have H := H1
   clear H1
   by_cases c21 : a1_2 = true
   ·subst c21
    have H1 : (spec_PairLine.j0 k true a0_0 a0_1 false a1_0 a1_1 true a2_0 a2_1 a2_2 1 0) = some (r1, r2) := by rw [if_pos rfl] at H; exact H
    clear H
    have H := H1
    clear H1
    have H' := Aside0.mk H
    clear H
    have hnb22 := NB416_417.out
    have hnc22 := NB417_416.out
    have hnb23 := NB416_418.out
    have hnc23 := NB418_416.out
    have hnb24 := NB416_419.out
    have hnc24 := NB419_416.out
    have hnb25 := NB416_420.out
    have hnc25 := NB420_416.out
    have hcz26_0 : w9.cell? ⟨gb416, 0, none⟩ = some (.int .i64 a0_0) := bc BK416 0
    have hcz26_1 : w9.cell? ⟨gb416, 1, none⟩ = some (.int .i64 a0_1) := bc BK416 1
    have hcz26_2 : w9.cell? ⟨gb416, 2, none⟩ = some (.bool false) := bc BK416 2
    have hfz26_0 := blk_frozen BK416.out 0
    have hfz26_1 := blk_frozen BK416.out 1
    have hfz26_2 := blk_frozen BK416.out 2
    have hnb27 := NB417_418.out
    have hnc27 := NB418_417.out
    have hnb28 := NB417_419.out
    have hnc28 := NB419_417.out
    have hnb29 := NB417_420.out
    have hnc29 := NB420_417.out
    have hcz30_0 : w9.cell? ⟨gb417, 0, none⟩ = some (.int .i64 a1_0) := bc BK417 0
    have hcz30_1 : w9.cell? ⟨gb417, 1, none⟩ = some (.int .i64 a1_1) := bc BK417 1
    have hcz30_2 : w9.cell? ⟨gb417, 2, none⟩ = some (.bool true) := bc BK417 2
    have hfz30_0 := blk_frozen BK417.out 0
    have hfz30_1 := blk_frozen BK417.out 1
    have hfz30_2 := blk_frozen BK417.out 2
    go_wp2
    go_meet
    case rel => exact ⟨_, (true), (by first | rfl | (simp; done) | (simp [*]; done)), H', ⟨by first | omega | exact Nat.le_refl _⟩, ⟨bP BK416⟩, ⟨bP BK417⟩, ⟨bP BK418⟩, ⟨bP BK419⟩, ⟨by (with_reducible repeat (first | refine blk_drewN ?_ _ | refine blk_drew ?_ | refine blk_alloc ?_ _)); refine blk_put (cs := #[.int .i64 1, .int .i64 0]) ?_ 1 _ rfl; (with_reducible repeat (first | refine blk_drewN ?_ _ | refine blk_drew ?_ | refine blk_alloc ?_ _)); refine blk_put (cs := #[.int .i64 0, .int .i64 0]) ?_ 0 _ rfl; (with_reducible repeat (first | refine blk_drewN ?_ _ | refine blk_drew ?_ | refine blk_alloc ?_ _)); exact BK420.out⟩, ⟨bZ HB⟩⟩
   ·replace c21 := Bool.eq_false_iff.mpr c21
    subst c21
    have H1 : (if a2_2 = true then (spec_PairLine.j0 k true a0_0 a0_1 false a1_0 a1_1 false a2_0 a2_1 a2_2 1 0) else ((spec_PointOk.f a0_0 a0_1 false).bind fun t421 => (if t421 = true then ((spec_PointOk.f a1_0 a1_1 false).bind fun t422 => (if t422 = true then ((spec_PointOk.f a2_0 a2_1 a2_2).bind fun t423 => (spec_PairLine.j0 k (!t423) a0_0 a0_1 false a1_0 a1_1 false a2_0 a2_1 a2_2 1 0)) else (spec_PairLine.j0 k true a0_0 a0_1 false a1_0 a1_1 false a2_0 a2_1 a2_2 1 0))) else (spec_PairLine.j0 k true a0_0 a0_1 false a1_0 a1_1 false a2_0 a2_1 a2_2 1 0)))) = some (r1, r2) := by rw [if_neg (show ¬ (false = true) by decide)] at H; exact H
    clear H
    have H := H1
    clear H1
    by_cases c31 : a2_2 = true
    ·subst c31
     have H1 : (spec_PairLine.j0 k true a0_0 a0_1 false a1_0 a1_1 false a2_0 a2_1 true 1 0) = some (r1, r2) := by rw [if_pos rfl] at H; exact H
     clear H
     have H := H1
     clear H1
     have H' := Aside0.mk H
     clear H
     have hnb32 := NB416_417.out
     have hnc32 := NB417_416.out
     have hnb33 := NB416_418.out
     have hnc33 := NB418_416.out
     have hnb34 := NB416_419.out
     have hnc34 := NB419_416.out
     have hnb35 := NB416_420.out
     have hnc35 := NB420_416.out
     have hcz36_0 : w9.cell? ⟨gb416, 0, none⟩ = some (.int .i64 a0_0) := bc BK416 0
     have hcz36_1 : w9.cell? ⟨gb416, 1, none⟩ = some (.int .i64 a0_1) := bc BK416 1
     have hcz36_2 : w9.cell? ⟨gb416, 2, none⟩ = some (.bool false) := bc BK416 2
     have hfz36_0 := blk_frozen BK416.out 0
     have hfz36_1 := blk_frozen BK416.out 1
     have hfz36_2 := blk_frozen BK416.out 2
     have hnb37 := NB417_418.out
     have hnc37 := NB418_417.out
     have hnb38 := NB417_419.out
     have hnc38 := NB419_417.out
     have hnb39 := NB417_420.out
     have hnc39 := NB420_417.out
     have hcz40_0 : w9.cell? ⟨gb417, 0, none⟩ = some (.int .i64 a1_0) := bc BK417 0
     have hcz40_1 : w9.cell? ⟨gb417, 1, none⟩ = some (.int .i64 a1_1) := bc BK417 1
     have hcz40_2 : w9.cell? ⟨gb417, 2, none⟩ = some (.bool false) := bc BK417 2
     have hfz40_0 := blk_frozen BK417.out 0
     have hfz40_1 := blk_frozen BK417.out 1
     have hfz40_2 := blk_frozen BK417.out 2
     have hnb41 := NB418_419.out
     have hnc41 := NB419_418.out
     have hnb42 := NB418_420.out
     have hnc42 := NB420_418.out
     have hcz43_0 : w9.cell? ⟨gb418, 0, none⟩ = some (.int .i64 a2_0) := bc BK418 0
     have hcz43_1 : w9.cell? ⟨gb418, 1, none⟩ = some (.int .i64 a2_1) := bc BK418 1
     have hcz43_2 : w9.cell? ⟨gb418, 2, none⟩ = some (.bool true) := bc BK418 2
     have hfz43_0 := blk_frozen BK418.out 0
     have hfz43_1 := blk_frozen BK418.out 1
     have hfz43_2 := blk_frozen BK418.out 2
     go_wp2
     go_meet
     case rel => exact ⟨_, (true), (by first | rfl | (simp; done) | (simp [*]; done)), H', ⟨by first | omega | exact Nat.le_refl _⟩, ⟨bP BK416⟩, ⟨bP BK417⟩, ⟨bP BK418⟩, ⟨bP BK419⟩, ⟨by (with_reducible repeat (first | refine blk_drewN ?_ _ | refine blk_drew ?_ | refine blk_alloc ?_ _)); refine blk_put (cs := #[.int .i64 1, .int .i64 0]) ?_ 1 _ rfl; (with_reducible repeat (first | refine blk_drewN ?_ _ | refine blk_drew ?_ | refine blk_alloc ?_ _)); refine blk_put (cs := #[.int .i64 0, .int .i64 0]) ?_ 0 _ rfl; (with_reducible repeat (first | refine blk_drewN ?_ _ | refine blk_drew ?_ | refine blk_alloc ?_ _)); exact BK420.out⟩, ⟨bZ HB⟩⟩
    ·replace c31 := Bool.eq_false_iff.mpr c31
     subst c31
     have H1 : ((spec_PointOk.f a0_0 a0_1 false).bind fun t421 => (if t421 = true then ((spec_PointOk.f a1_0 a1_1 false).bind fun t422 => (if t422 = true then ((spec_PointOk.f a2_0 a2_1 false).bind fun t423 => (spec_PairLine.j0 k (!t423) a0_0 a0_1 false a1_0 a1_1 false a2_0 a2_1 false 1 0)) else (spec_PairLine.j0 k true a0_0 a0_1 false a1_0 a1_1 false a2_0 a2_1 false 1 0))) else (spec_PairLine.j0 k true a0_0 a0_1 false a1_0 a1_1 false a2_0 a2_1 false 1 0))) = some (r1, r2) := by rw [if_neg (show ¬ (false = true) by decide)] at H; exact H
     clear H
     have H := H1
     clear H1
     replace H := Option.bind_eq_some_iff.mp H
     obtain ⟨t421, A440, H⟩ := H
     replace H : (if t421 = true then ((spec_PointOk.f a1_0 a1_1 false).bind fun t422 => (if t422 = true then ((spec_PointOk.f a2_0 a2_1 false).bind fun t423 => (spec_PairLine.j0 k (!t423) a0_0 a0_1 false a1_0 a1_1 false a2_0 a2_1 false 1 0)) else (spec_PairLine.j0 k true a0_0 a0_1 false a1_0 a1_1 false a2_0 a2_1 false 1 0))) else (spec_PairLine.j0 k true a0_0 a0_1 false a1_0 a1_1 false a2_0 a2_1 false 1 0)) = some (r1, r2) := H
     have A44 := Aside0.mk A440
     clear A440
     by_cases c45 : t421 = true
     ·subst c45
      have H1 : ((spec_PointOk.f a1_0 a1_1 false).bind fun t422 => (if t422 = true then ((spec_PointOk.f a2_0 a2_1 false).bind fun t423 => (spec_PairLine.j0 k (!t423) a0_0 a0_1 false a1_0 a1_1 false a2_0 a2_1 false 1 0)) else (spec_PairLine.j0 k true a0_0 a0_1 false a1_0 a1_1 false a2_0 a2_1 false 1 0))) = some (r1, r2) := by rw [if_pos rfl] at H; exact H
      clear H
      have H := H1
      clear H1
      replace H := Option.bind_eq_some_iff.mp H
      obtain ⟨t422, A460, H⟩ := H
      replace H : (if t422 = true then ((spec_PointOk.f a2_0 a2_1 false).bind fun t423 => (spec_PairLine.j0 k (!t423) a0_0 a0_1 false a1_0 a1_1 false a2_0 a2_1 false 1 0)) else (spec_PairLine.j0 k true a0_0 a0_1 false a1_0 a1_1 false a2_0 a2_1 false 1 0)) = some (r1, r2) := H
      have A46 := Aside0.mk A460
      clear A460
      by_cases c47 : t422 = true
      ·subst c47
       have H1 : ((spec_PointOk.f a2_0 a2_1 false).bind fun t423 => (spec_PairLine.j0 k (!t423) a0_0 a0_1 false a1_0 a1_1 false a2_0 a2_1 false 1 0)) = some (r1, r2) := by rw [if_pos rfl] at H; exact H
       clear H
       have H := H1
       clear H1
       replace H := Option.bind_eq_some_iff.mp H
       obtain ⟨t423, A480, H⟩ := H
       replace H : (spec_PairLine.j0 k (!t423) a0_0 a0_1 false a1_0 a1_1 false a2_0 a2_1 false 1 0) = some (r1, r2) := H
       have A48 := Aside0.mk A480
       clear A480
       have H' := Aside0.mk H
       clear H
       have hnb49 := NB416_417.out
       have hnc49 := NB417_416.out
       have hnb50 := NB416_418.out
       have hnc50 := NB418_416.out
       have hnb51 := NB416_419.out
       have hnc51 := NB419_416.out
       have hnb52 := NB416_420.out
       have hnc52 := NB420_416.out
       have hcz53_0 : w9.cell? ⟨gb416, 0, none⟩ = some (.int .i64 a0_0) := bc BK416 0
       have hcz53_1 : w9.cell? ⟨gb416, 1, none⟩ = some (.int .i64 a0_1) := bc BK416 1
       have hcz53_2 : w9.cell? ⟨gb416, 2, none⟩ = some (.bool false) := bc BK416 2
       have hfz53_0 := blk_frozen BK416.out 0
       have hfz53_1 := blk_frozen BK416.out 1
       have hfz53_2 := blk_frozen BK416.out 2
       have hnb54 := NB417_418.out
       have hnc54 := NB418_417.out
       have hnb55 := NB417_419.out
       have hnc55 := NB419_417.out
       have hnb56 := NB417_420.out
       have hnc56 := NB420_417.out
       have hcz57_0 : w9.cell? ⟨gb417, 0, none⟩ = some (.int .i64 a1_0) := bc BK417 0
       have hcz57_1 : w9.cell? ⟨gb417, 1, none⟩ = some (.int .i64 a1_1) := bc BK417 1
       have hcz57_2 : w9.cell? ⟨gb417, 2, none⟩ = some (.bool false) := bc BK417 2
       have hfz57_0 := blk_frozen BK417.out 0
       have hfz57_1 := blk_frozen BK417.out 1
       have hfz57_2 := blk_frozen BK417.out 2
       have hnb58 := NB418_419.out
       have hnc58 := NB419_418.out
       have hnb59 := NB418_420.out
       have hnc59 := NB420_418.out
       have hcz60_0 : w9.cell? ⟨gb418, 0, none⟩ = some (.int .i64 a2_0) := bc BK418 0
       have hcz60_1 : w9.cell? ⟨gb418, 1, none⟩ = some (.int .i64 a2_1) := bc BK418 1
       have hcz60_2 : w9.cell? ⟨gb418, 2, none⟩ = some (.bool false) := bc BK418 2
       have hfz60_0 := blk_frozen BK418.out 0
       have hfz60_1 := blk_frozen BK418.out 1
       have hfz60_2 := blk_frozen BK418.out 2
       go_wp2_with (first | (go_at_call 55; (with_reducible refine (spec_PointOk.calls a0_0 a0_1 false true _ A44.out).mono ?_); rintro e w61 ⟨rfl, hb⟩; replace BK416 := bB BK416 hb; replace BK417 := bB BK417 hb; replace BK418 := bB BK418 hb; replace BK419 := bB BK419 hb; replace BK420 := Aside0.mk (blk_below (g := gb420) (o := .cells #[.int .i64 1, .int .i64 0] 31 (0, 0)) (by (with_reducible repeat (first | refine blk_drewN ?_ _ | refine blk_drew ?_ | refine blk_alloc ?_ _)); refine blk_put (cs := #[.int .i64 1, .int .i64 0]) ?_ 1 _ rfl; (with_reducible repeat (first | refine blk_drewN ?_ _ | refine blk_drew ?_ | refine blk_alloc ?_ _)); refine blk_put (cs := #[.int .i64 0, .int .i64 0]) ?_ 0 _ rfl; (with_reducible repeat (first | refine blk_drewN ?_ _ | refine blk_drew ?_ | refine blk_alloc ?_ _)); exact BK420.out) hb); replace HB := bS HB hb; (try clear hb); (try clear hb2); (try clear hk); (try clear hi); have hcz62_0 : w61.cell? ⟨gb417, 0, none⟩ = some (.int .i64 a1_0) := bc BK417 0; have hcz62_1 : w61.cell? ⟨gb417, 1, none⟩ = some (.int .i64 a1_1) := bc BK417 1; have hcz62_2 : w61.cell? ⟨gb417, 2, none⟩ = some (.bool false) := bc BK417 2; have hfz62_0 := blk_frozen BK417.out 0; have hfz62_1 := blk_frozen BK417.out 1; have hfz62_2 := blk_frozen BK417.out 2) | (go_at_call 55; (with_reducible refine (spec_PointOk.calls a1_0 a1_1 false true _ A46.out).mono ?_); rintro e w63 ⟨rfl, hb⟩; replace BK416 := bB BK416 hb; replace BK417 := bB BK417 hb; replace BK418 := bB BK418 hb; replace BK419 := bB BK419 hb; replace BK420 := bB BK420 hb; replace HB := bS HB hb; (try clear hb); (try clear hb2); (try clear hk); (try clear hi); have hcz64_0 : w63.cell? ⟨gb418, 0, none⟩ = some (.int .i64 a2_0) := bc BK418 0; have hcz64_1 : w63.cell? ⟨gb418, 1, none⟩ = some (.int .i64 a2_1) := bc BK418 1; have hcz64_2 : w63.cell? ⟨gb418, 2, none⟩ = some (.bool false) := bc BK418 2; have hfz64_0 := blk_frozen BK418.out 0; have hfz64_1 := blk_frozen BK418.out 1; have hfz64_2 := blk_frozen BK418.out 2) | (go_at_call 55; (with_reducible refine (spec_PointOk.calls a2_0 a2_1 false t423 _ A48.out).mono ?_); rintro e w65 ⟨rfl, hb⟩; replace BK416 := bB BK416 hb; replace BK417 := bB BK417 hb; replace BK418 := bB BK418 hb; replace BK419 := bB BK419 hb; replace BK420 := bB BK420 hb; replace HB := bS HB hb; (try clear hb); (try clear hb2); (try clear hk); (try clear hi)))
       go_meet
       case rel => exact ⟨_, (!t423), (by first | rfl | (simp; done) | (simp [*]; done)), H', ⟨by first | omega | exact Nat.le_refl _⟩, ⟨bP BK416⟩, ⟨bP BK417⟩, ⟨bP BK418⟩, ⟨bP BK419⟩, ⟨bP BK420⟩, ⟨bZ HB⟩⟩
      ·replace c47 := Bool.eq_false_iff.mpr c47
       subst c47
       have H1 : (spec_PairLine.j0 k true a0_0 a0_1 false a1_0 a1_1 false a2_0 a2_1 false 1 0) = some (r1, r2) := by rw [if_neg (show ¬ (false = true) by decide)] at H; exact H
       clear H
       have H := H1
       clear H1
       have H' := Aside0.mk H
       clear H
       have hnb66 := NB416_417.out
       have hnc66 := NB417_416.out
       have hnb67 := NB416_418.out
       have hnc67 := NB418_416.out
       have hnb68 := NB416_419.out
       have hnc68 := NB419_416.out
       have hnb69 := NB416_420.out
       have hnc69 := NB420_416.out
       have hcz70_0 : w9.cell? ⟨gb416, 0, none⟩ = some (.int .i64 a0_0) := bc BK416 0
       have hcz70_1 : w9.cell? ⟨gb416, 1, none⟩ = some (.int .i64 a0_1) := bc BK416 1
       have hcz70_2 : w9.cell? ⟨gb416, 2, none⟩ = some (.bool false) := bc BK416 2
       have hfz70_0 := blk_frozen BK416.out 0
       have hfz70_1 := blk_frozen BK416.out 1
       have hfz70_2 := blk_frozen BK416.out 2
       have hnb71 := NB417_418.out
       have hnc71 := NB418_417.out
       have hnb72 := NB417_419.out
       have hnc72 := NB419_417.out
       have hnb73 := NB417_420.out
       have hnc73 := NB420_417.out
       have hcz74_0 : w9.cell? ⟨gb417, 0, none⟩ = some (.int .i64 a1_0) := bc BK417 0
       have hcz74_1 : w9.cell? ⟨gb417, 1, none⟩ = some (.int .i64 a1_1) := bc BK417 1
       have hcz74_2 : w9.cell? ⟨gb417, 2, none⟩ = some (.bool false) := bc BK417 2
       have hfz74_0 := blk_frozen BK417.out 0
       have hfz74_1 := blk_frozen BK417.out 1
       have hfz74_2 := blk_frozen BK417.out 2
       have hnb75 := NB418_419.out
       have hnc75 := NB419_418.out
       have hnb76 := NB418_420.out
       have hnc76 := NB420_418.out
       have hcz77_0 : w9.cell? ⟨gb418, 0, none⟩ = some (.int .i64 a2_0) := bc BK418 0
       have hcz77_1 : w9.cell? ⟨gb418, 1, none⟩ = some (.int .i64 a2_1) := bc BK418 1
       have hcz77_2 : w9.cell? ⟨gb418, 2, none⟩ = some (.bool false) := bc BK418 2
       have hfz77_0 := blk_frozen BK418.out 0
       have hfz77_1 := blk_frozen BK418.out 1
       have hfz77_2 := blk_frozen BK418.out 2
       go_wp2_with (first | (go_at_call 55; (with_reducible refine (spec_PointOk.calls a0_0 a0_1 false true _ A44.out).mono ?_); rintro e w78 ⟨rfl, hb⟩; replace BK416 := bB BK416 hb; replace BK417 := bB BK417 hb; replace BK418 := bB BK418 hb; replace BK419 := bB BK419 hb; replace BK420 := Aside0.mk (blk_below (g := gb420) (o := .cells #[.int .i64 1, .int .i64 0] 31 (0, 0)) (by (with_reducible repeat (first | refine blk_drewN ?_ _ | refine blk_drew ?_ | refine blk_alloc ?_ _)); refine blk_put (cs := #[.int .i64 1, .int .i64 0]) ?_ 1 _ rfl; (with_reducible repeat (first | refine blk_drewN ?_ _ | refine blk_drew ?_ | refine blk_alloc ?_ _)); refine blk_put (cs := #[.int .i64 0, .int .i64 0]) ?_ 0 _ rfl; (with_reducible repeat (first | refine blk_drewN ?_ _ | refine blk_drew ?_ | refine blk_alloc ?_ _)); exact BK420.out) hb); replace HB := bS HB hb; (try clear hb); (try clear hb2); (try clear hk); (try clear hi); have hcz79_0 : w78.cell? ⟨gb417, 0, none⟩ = some (.int .i64 a1_0) := bc BK417 0; have hcz79_1 : w78.cell? ⟨gb417, 1, none⟩ = some (.int .i64 a1_1) := bc BK417 1; have hcz79_2 : w78.cell? ⟨gb417, 2, none⟩ = some (.bool false) := bc BK417 2; have hfz79_0 := blk_frozen BK417.out 0; have hfz79_1 := blk_frozen BK417.out 1; have hfz79_2 := blk_frozen BK417.out 2) | (go_at_call 55; (with_reducible refine (spec_PointOk.calls a1_0 a1_1 false false _ A46.out).mono ?_); rintro e w80 ⟨rfl, hb⟩; replace BK416 := bB BK416 hb; replace BK417 := bB BK417 hb; replace BK418 := bB BK418 hb; replace BK419 := bB BK419 hb; replace BK420 := bB BK420 hb; replace HB := bS HB hb; (try clear hb); (try clear hb2); (try clear hk); (try clear hi)))
       go_meet
       case rel => exact ⟨_, (true), (by first | rfl | (simp; done) | (simp [*]; done)), H', ⟨by first | omega | exact Nat.le_refl _⟩, ⟨bP BK416⟩, ⟨bP BK417⟩, ⟨bP BK418⟩, ⟨bP BK419⟩, ⟨bP BK420⟩, ⟨bZ HB⟩⟩
     ·replace c45 := Bool.eq_false_iff.mpr c45
      subst c45
      have H1 : (spec_PairLine.j0 k true a0_0 a0_1 false a1_0 a1_1 false a2_0 a2_1 false 1 0) = some (r1, r2) := by rw [if_neg (show ¬ (false = true) by decide)] at H; exact H
      clear H
      have H := H1
      clear H1
      have H' := Aside0.mk H
      clear H
      have hnb81 := NB416_417.out
      have hnc81 := NB417_416.out
      have hnb82 := NB416_418.out
      have hnc82 := NB418_416.out
      have hnb83 := NB416_419.out
      have hnc83 := NB419_416.out
      have hnb84 := NB416_420.out
      have hnc84 := NB420_416.out
      have hcz85_0 : w9.cell? ⟨gb416, 0, none⟩ = some (.int .i64 a0_0) := bc BK416 0
      have hcz85_1 : w9.cell? ⟨gb416, 1, none⟩ = some (.int .i64 a0_1) := bc BK416 1
      have hcz85_2 : w9.cell? ⟨gb416, 2, none⟩ = some (.bool false) := bc BK416 2
      have hfz85_0 := blk_frozen BK416.out 0
      have hfz85_1 := blk_frozen BK416.out 1
      have hfz85_2 := blk_frozen BK416.out 2
      have hnb86 := NB417_418.out
      have hnc86 := NB418_417.out
      have hnb87 := NB417_419.out
      have hnc87 := NB419_417.out
      have hnb88 := NB417_420.out
      have hnc88 := NB420_417.out
      have hcz89_0 : w9.cell? ⟨gb417, 0, none⟩ = some (.int .i64 a1_0) := bc BK417 0
      have hcz89_1 : w9.cell? ⟨gb417, 1, none⟩ = some (.int .i64 a1_1) := bc BK417 1
      have hcz89_2 : w9.cell? ⟨gb417, 2, none⟩ = some (.bool false) := bc BK417 2
      have hfz89_0 := blk_frozen BK417.out 0
      have hfz89_1 := blk_frozen BK417.out 1
      have hfz89_2 := blk_frozen BK417.out 2
      have hnb90 := NB418_419.out
      have hnc90 := NB419_418.out
      have hnb91 := NB418_420.out
      have hnc91 := NB420_418.out
      have hcz92_0 : w9.cell? ⟨gb418, 0, none⟩ = some (.int .i64 a2_0) := bc BK418 0
      have hcz92_1 : w9.cell? ⟨gb418, 1, none⟩ = some (.int .i64 a2_1) := bc BK418 1
      have hcz92_2 : w9.cell? ⟨gb418, 2, none⟩ = some (.bool false) := bc BK418 2
      have hfz92_0 := blk_frozen BK418.out 0
      have hfz92_1 := blk_frozen BK418.out 1
      have hfz92_2 := blk_frozen BK418.out 2
      go_wp2_with (first | (go_at_call 55; (with_reducible refine (spec_PointOk.calls a0_0 a0_1 false false _ A44.out).mono ?_); rintro e w93 ⟨rfl, hb⟩; replace BK416 := bB BK416 hb; replace BK417 := bB BK417 hb; replace BK418 := bB BK418 hb; replace BK419 := bB BK419 hb; replace BK420 := Aside0.mk (blk_below (g := gb420) (o := .cells #[.int .i64 1, .int .i64 0] 31 (0, 0)) (by (with_reducible repeat (first | refine blk_drewN ?_ _ | refine blk_drew ?_ | refine blk_alloc ?_ _)); refine blk_put (cs := #[.int .i64 1, .int .i64 0]) ?_ 1 _ rfl; (with_reducible repeat (first | refine blk_drewN ?_ _ | refine blk_drew ?_ | refine blk_alloc ?_ _)); refine blk_put (cs := #[.int .i64 0, .int .i64 0]) ?_ 0 _ rfl; (with_reducible repeat (first | refine blk_drewN ?_ _ | refine blk_drew ?_ | refine blk_alloc ?_ _)); exact BK420.out) hb); replace HB := bS HB hb; (try clear hb); (try clear hb2); (try clear hk); (try clear hi)))
      go_meet
      case rel => exact ⟨_, (true), (by first | rfl | (simp; done) | (simp [*]; done)), H', ⟨by first | omega | exact Nat.le_refl _⟩, ⟨bP BK416⟩, ⟨bP BK417⟩, ⟨bP BK418⟩, ⟨bP BK419⟩, ⟨bP BK420⟩, ⟨bZ HB⟩⟩
 case rest =>
  clear HC4
  try clear c1
  try clear c2
  try clear p2
  try clear c3
  try clear c4
  try clear c5
  try clear c6
  try clear c7
  try clear c8
  try clear c9
  try clear c10
  try clear c11
  try clear c12
  try clear c13
  try clear c15
  try clear c16
  try clear c17
  try clear c18
  try clear c19
  try clear c21
  try clear c22
  try clear c23
  try clear c24
  try clear c25
  try clear c27
  try clear c28
  try clear c29
  try clear c31
  try clear c32
  try clear c33
  try clear c34
  try clear c35
  try clear c37
  try clear c38
  try clear c39
  try clear c41
  try clear c42
  try clear c45
  try clear c47
  try clear c49
  try clear c50
  try clear c51
  try clear c52
  try clear c54
  try clear c55
  try clear c56
  try clear c58
  try clear c59
  try clear c66
  try clear c67
  try clear c68
  try clear c69
  try clear c71
  try clear c72
  try clear c73
  try clear c75
  try clear c76
  try clear c81
  try clear c82
  try clear c83
  try clear c84
  try clear c86
  try clear c87
  try clear c88
  try clear c90
  try clear c91
  try clear hcz14_0
  try clear hcz14_1
  try clear hcz20_0
  try clear hcz20_1
  try clear hcz20_2
  try clear hcz26_0
  try clear hcz26_1
  try clear hcz26_2
  try clear hcz30_0
  try clear hcz30_1
  try clear hcz30_2
  try clear hcz36_0
  try clear hcz36_1
  try clear hcz36_2
  try clear hcz40_0
  try clear hcz40_1
  try clear hcz40_2
  try clear hcz43_0
  try clear hcz43_1
  try clear hcz43_2
  try clear hcz53_0
  try clear hcz53_1
  try clear hcz53_2
  try clear hcz57_0
  try clear hcz57_1
  try clear hcz57_2
  try clear hcz60_0
  try clear hcz60_1
  try clear hcz60_2
  try clear hcz62_0
  try clear hcz62_1
  try clear hcz62_2
  try clear hcz64_0
  try clear hcz64_1
  try clear hcz64_2
  try clear hcz70_0
  try clear hcz70_1
  try clear hcz70_2
  try clear hcz74_0
  try clear hcz74_1
  try clear hcz74_2
  try clear hcz77_0
  try clear hcz77_1
  try clear hcz77_2
  try clear hcz79_0
  try clear hcz79_1
  try clear hcz79_2
  try clear hcz85_0
  try clear hcz85_1
  try clear hcz85_2
  try clear hcz89_0
  try clear hcz89_1
  try clear hcz89_2
  try clear hcz92_0
  try clear hcz92_1
  try clear hcz92_2
  try clear hfz14_0
  try clear hfz14_1
  try clear hfz20_0
  try clear hfz20_1
  try clear hfz20_2
  try clear hfz26_0
  try clear hfz26_1
  try clear hfz26_2
  try clear hfz30_0
  try clear hfz30_1
  try clear hfz30_2
  try clear hfz36_0
  try clear hfz36_1
  try clear hfz36_2
  try clear hfz40_0
  try clear hfz40_1
  try clear hfz40_2
  try clear hfz43_0
  try clear hfz43_1
  try clear hfz43_2
  try clear hfz53_0
  try clear hfz53_1
  try clear hfz53_2
  try clear hfz57_0
  try clear hfz57_1
  try clear hfz57_2
  try clear hfz60_0
  try clear hfz60_1
  try clear hfz60_2
  try clear hfz62_0
  try clear hfz62_1
  try clear hfz62_2
  try clear hfz64_0
  try clear hfz64_1
  try clear hfz64_2
  try clear hfz70_0
  try clear hfz70_1
  try clear hfz70_2
  try clear hfz74_0
  try clear hfz74_1
  try clear hfz74_2
  try clear hfz77_0
  try clear hfz77_1
  try clear hfz77_2
  try clear hfz79_0
  try clear hfz79_1
  try clear hfz79_2
  try clear hfz85_0
  try clear hfz85_1
  try clear hfz85_2
  try clear hfz89_0
  try clear hfz89_1
  try clear hfz89_2
  try clear hfz92_0
  try clear hfz92_1
  try clear hfz92_2
  obtain ⟨kq, x36_3, rfl, HA, HJ3, BK416, BK417, BK418, BK419, BK420, HB⟩ := hcut
  cases kq with
  | zero => exact absurd HA.out (by simp [spec_PairLine.j0])
  | succ kj3 =>
   have H := HA.out
   clear HA
   simp only [spec_PairLine.j0] at H
   by_cases c94 : x36_3 = true
   ·subst c94
    have H1 : (some (1, 0)) = some (r1, r2) := by rw [if_pos rfl] at H; exact H
    clear H
    have H := H1
    clear H1
    simp only [Option.some.injEq, Prod.mk.injEq] at H
    obtain ⟨rfl, rfl⟩ := H
    have hnb95 := NB420_416.out
    have hnc95 := NB416_420.out
    have hnb96 := NB420_417.out
    have hnc96 := NB417_420.out
    have hnb97 := NB420_418.out
    have hnc97 := NB418_420.out
    have hnb98 := NB420_419.out
    have hnc98 := NB419_420.out
    have hcz99_0 : wc.cell? ⟨gb420, 0, none⟩ = some (.int .i64 1) := bc BK420 0
    have hcz99_1 : wc.cell? ⟨gb420, 1, none⟩ = some (.int .i64 0) := bc BK420 1
    have hfz99_0 := blk_frozen BK420.out 0
    have hfz99_1 := blk_frozen BK420.out 1
    have hnb100 := NB419_416.out
    have hnc100 := NB416_419.out
    have hnb101 := NB419_417.out
    have hnc101 := NB417_419.out
    have hnb102 := NB419_418.out
    have hnc102 := NB418_419.out
    have hcz103_0 : wc.cell? ⟨gb419, 0, none⟩ = some (.int .i64 0) := bc BK419 0
    have hcz103_1 : wc.cell? ⟨gb419, 1, none⟩ = some (.int .i64 0) := bc BK419 1
    have hfz103_0 := blk_frozen BK419.out 0
    have hfz103_1 := blk_frozen BK419.out 1
    go_wp2
    refine bodyPost_ret (results_cell_row rfl _ _ gb419 31 #[.int .i64 1, .int .i64 0] (0, 0) _ rfl (by (with_reducible repeat (first | refine blk_drewN ?_ _ | refine blk_drew ?_ | refine blk_alloc ?_ _)); refine blk_put (cs := #[.int .i64 1, .int .i64 0]) ?_ 1 _ rfl; (with_reducible repeat (first | refine blk_drewN ?_ _ | refine blk_drew ?_ | refine blk_alloc ?_ _)); refine blk_put (cs := #[.int .i64 0, .int .i64 0]) ?_ 0 _ rfl; (with_reducible repeat (first | refine blk_drewN ?_ _ | refine blk_drew ?_ | refine blk_alloc ?_ _)); exact BK419.out) Try.underlying31 rfl (by kernel_rfl)) rfl ?_
    exact ⟨by first | rfl | (simp [errW_none, errW_some] <;> rfl) | (simp [*, errW_none, errW_some] <;> rfl), bZ HB⟩
   ·replace c94 := Bool.eq_false_iff.mpr c94
    subst c94
    have H1 : ((spec_l07Slope.f kj3 a0_0 a0_1 a0_2 a1_0 a1_1 a1_2).bind fun bt424 => (if bt424.2 = true then ((spec_FpSub.f 0 a2_0).bind fun t426 => ((spec_FpSub.f t426 a0_0).bind fun t427 => ((spec_FpSub.f 0 a0_1).bind fun t428 => ((spec_FpMul.f bt424.1 t427).bind fun t429 => ((spec_FpSub.f t428 t429).bind fun t430 => (some (t430, a2_1))))))) else (some (1, 0)))) = some (r1, r2) := by rw [if_neg (show ¬ (false = true) by decide)] at H; exact H
    clear H
    have H := H1
    clear H1
    replace H := Option.bind_eq_some_iff.mp H
    obtain ⟨⟨t424, t425⟩, A1040, H⟩ := H
    replace H : (if t425 = true then ((spec_FpSub.f 0 a2_0).bind fun t426 => ((spec_FpSub.f t426 a0_0).bind fun t427 => ((spec_FpSub.f 0 a0_1).bind fun t428 => ((spec_FpMul.f t424 t427).bind fun t429 => ((spec_FpSub.f t428 t429).bind fun t430 => (some (t430, a2_1))))))) else (some (1, 0))) = some (r1, r2) := H
    have A104 := Aside0.mk A1040
    clear A1040
    by_cases c105 : t425 = true
    ·subst c105
     have H1 : ((spec_FpSub.f 0 a2_0).bind fun t426 => ((spec_FpSub.f t426 a0_0).bind fun t427 => ((spec_FpSub.f 0 a0_1).bind fun t428 => ((spec_FpMul.f t424 t427).bind fun t429 => ((spec_FpSub.f t428 t429).bind fun t430 => (some (t430, a2_1))))))) = some (r1, r2) := by rw [if_pos rfl] at H; exact H
     clear H
     have H := H1
     clear H1
     replace H := Option.bind_eq_some_iff.mp H
     obtain ⟨t426, A1060, H⟩ := H
     replace H : ((spec_FpSub.f t426 a0_0).bind fun t427 => ((spec_FpSub.f 0 a0_1).bind fun t428 => ((spec_FpMul.f t424 t427).bind fun t429 => ((spec_FpSub.f t428 t429).bind fun t430 => (some (t430, a2_1)))))) = some (r1, r2) := H
     have A106 := Aside0.mk A1060
     clear A1060
     replace H := Option.bind_eq_some_iff.mp H
     obtain ⟨t427, A1070, H⟩ := H
     replace H : ((spec_FpSub.f 0 a0_1).bind fun t428 => ((spec_FpMul.f t424 t427).bind fun t429 => ((spec_FpSub.f t428 t429).bind fun t430 => (some (t430, a2_1))))) = some (r1, r2) := H
     have A107 := Aside0.mk A1070
     clear A1070
     replace H := Option.bind_eq_some_iff.mp H
     obtain ⟨t428, A1080, H⟩ := H
     replace H : ((spec_FpMul.f t424 t427).bind fun t429 => ((spec_FpSub.f t428 t429).bind fun t430 => (some (t430, a2_1)))) = some (r1, r2) := H
     have A108 := Aside0.mk A1080
     clear A1080
     replace H := Option.bind_eq_some_iff.mp H
     obtain ⟨t429, A1090, H⟩ := H
     replace H : ((spec_FpSub.f t428 t429).bind fun t430 => (some (t430, a2_1))) = some (r1, r2) := H
     have A109 := Aside0.mk A1090
     clear A1090
     replace H := Option.bind_eq_some_iff.mp H
     obtain ⟨t430, A1100, H⟩ := H
     replace H : (some (t430, a2_1)) = some (r1, r2) := H
     have A110 := Aside0.mk A1100
     clear A1100
     simp only [Option.some.injEq, Prod.mk.injEq] at H
     obtain ⟨rfl, rfl⟩ := H
     have hnb111 := NB416_417.out
     have hnc111 := NB417_416.out
     have hnb112 := NB416_418.out
     have hnc112 := NB418_416.out
     have hnb113 := NB416_419.out
     have hnc113 := NB419_416.out
     have hnb114 := NB416_420.out
     have hnc114 := NB420_416.out
     have hcz115_0 : wc.cell? ⟨gb416, 0, none⟩ = some (.int .i64 a0_0) := bc BK416 0
     have hcz115_1 : wc.cell? ⟨gb416, 1, none⟩ = some (.int .i64 a0_1) := bc BK416 1
     have hcz115_2 : wc.cell? ⟨gb416, 2, none⟩ = some (.bool a0_2) := bc BK416 2
     have hfz115_0 := blk_frozen BK416.out 0
     have hfz115_1 := blk_frozen BK416.out 1
     have hfz115_2 := blk_frozen BK416.out 2
     have hnb116 := NB417_418.out
     have hnc116 := NB418_417.out
     have hnb117 := NB417_419.out
     have hnc117 := NB419_417.out
     have hnb118 := NB417_420.out
     have hnc118 := NB420_417.out
     have hcz119_0 : wc.cell? ⟨gb417, 0, none⟩ = some (.int .i64 a1_0) := bc BK417 0
     have hcz119_1 : wc.cell? ⟨gb417, 1, none⟩ = some (.int .i64 a1_1) := bc BK417 1
     have hcz119_2 : wc.cell? ⟨gb417, 2, none⟩ = some (.bool a1_2) := bc BK417 2
     have hfz119_0 := blk_frozen BK417.out 0
     have hfz119_1 := blk_frozen BK417.out 1
     have hfz119_2 := blk_frozen BK417.out 2
     try go_wp2_with (first | ((with_reducible refine gate_callee (f := 74) rfl ?_); refine goesL_ (some 41) rfl rfl Try.func74 (by kernel_rfl) rfl #[.agg #[.int .i64 a0_0, .int .i64 a0_1, .bool a0_2], .agg #[.int .i64 a1_0, .int .i64 a1_1, .bool a1_2]] rfl (by (try simp only [List.map_toArray, List.map_cons, List.map_nil]); first | done | rfl | (simp only [List.length_drop, List.length_take]; rfl)) ?_; (with_reducible refine (spec_l07Slope.calls kj3 a0_0 a0_1 a0_2 a1_0 a1_1 a1_2 t424 true _ A104.out).mono ?_); rintro e w120 ⟨rfl, hb⟩; refine ⟨_, rfl, ?_⟩; replace BK416 := bB BK416 hb; replace BK417 := bB BK417 hb; replace BK418 := bB BK418 hb; replace BK419 := bB BK419 hb; replace BK420 := bB BK420 hb; replace HB := bS HB hb; (try clear hb); (try clear hb2); (try clear hk); (try clear hi)))
     replace BK416 := Aside0.mk (blk_drew BK416.out)
     replace BK417 := Aside0.mk (blk_drew BK417.out)
     replace BK418 := Aside0.mk (blk_drew BK418.out)
     replace BK419 := Aside0.mk (blk_drew BK419.out)
     replace BK420 := Aside0.mk (blk_drew BK420.out)
     replace HB := Aside0.mk (below_drew1 HB.out)
     refine start_ (n := 7) (S := fun w' => w'.cell? ⟨gb418, 0, none⟩ = some (.int .i64 a2_0) ∧ w'.cell? ⟨gb418, 1, none⟩ = some (.int .i64 a2_1) ∧ w'.cell? ⟨gb418, 2, none⟩ = some (.bool a2_2) ∧ w'.cell? ⟨gb416, 0, none⟩ = some (.int .i64 a0_0) ∧ w'.cell? ⟨gb416, 1, none⟩ = some (.int .i64 a0_1) ∧ w'.cell? ⟨gb416, 2, none⟩ = some (.bool a0_2)) (ds := []) #[false, false, false, false, false, false, false] (by kernel_rfl) rfl rfl ⟨bc BK418 0, bc BK418 1, bc BK418 2, bc BK416 0, bc BK416 1, bc BK416 2⟩ (fun hHeld => ?_)
     generalize w120.drew = w121 at BK416 BK417 BK418 BK419 BK420 HB hHeld ⊢
     refine pure_ (i := 0) (N := some 47) (v := ?_) (a' := ?_) #[true, false, false, false, false, false, false] rfl rfl (by kernel_rfl) (fun _ _ _ h => h) (Or.inl ⟨by rfl, ?_⟩) ?_ ?_
     rotate_left
     ·intro w'
      go_simp
      with_reducible rfl
     rotate_left
     ·simp only [Act.put, List.setIfInBounds_toArray, List.set_cons_zero, List.set_cons_succ, i64_w, i32_w]
      rfl
     refine pure_ (i := 3) (N := some 50) (v := ?_) (a' := ?_) #[true, false, false, true, false, false, false] rfl rfl (by kernel_rfl) (fun _ _ _ h => h) (Or.inl ⟨by rfl, ?_⟩) ?_ ?_
     rotate_left
     ·intro w'
      go_simp
      with_reducible rfl
     rotate_left
     ·simp only [Act.put, List.setIfInBounds_toArray, List.set_cons_zero, List.set_cons_succ, i64_w, i32_w]
      rfl
     refine take_ (i := 1) (N := some 48) (v := ?_) (a' := ?_) #[true, true, false, true, false, false, false] rfl rfl (by kernel_rfl) (fun _ _ _ h => h) (Or.inl ⟨by rfl, ?_⟩) hHeld ?_ ?_
     rotate_left
     ·rintro w' ⟨s0, s1, s2, s3, s4, s5⟩
      go_simp
      with_reducible rfl
     rotate_left
     ·simp only [Act.put, List.setIfInBounds_toArray, List.set_cons_zero, List.set_cons_succ, i64_w, i32_w]
      rfl
     refine take_ (i := 4) (N := some 51) (v := ?_) (a' := ?_) #[true, true, false, true, true, false, false] rfl rfl (by kernel_rfl) (fun _ _ _ h => h) (Or.inl ⟨by rfl, ?_⟩) hHeld ?_ ?_
     rotate_left
     ·rintro w' ⟨s0, s1, s2, s3, s4, s5⟩
      go_simp
      with_reducible rfl
     rotate_left
     ·simp only [Act.put, List.setIfInBounds_toArray, List.set_cons_zero, List.set_cons_succ, i64_w, i32_w]
      rfl
     refine one_ (i := 2) (N := some 49) #[true, true, true, true, true, false, false] rfl rfl (by kernel_rfl) (by decide) (fun K hK => ?_)
     refine goes_ Try.func75 (by kernel_rfl) rfl #[.int .i64 0, .int .i64 a2_0] (by rfl) rfl rfl (by (try simp only [List.map_toArray, List.map_cons, List.map_nil]); first | done | rfl | (simp only [List.length_drop, List.length_take]; rfl)) ?_
     with_reducible refine (spec_FpSub.calls 0 a2_0 t426 _ A106.out).mono ?_
     rintro e w' ⟨rfl, ⟨nd, rfl⟩⟩
     refine ⟨_, rfl, ?_⟩
     refine hK.out _ _ ⟨bc BK418 0, bc BK418 1, bc BK418 2, bc BK416 0, bc BK416 1, bc BK416 2⟩ (fun hHeld => ?_)
     clear hK K
     refine norm_ (a' := ?_) ?_ ?_
     rotate_left
     ·show Act.put _ (some 49) _ = _
      simp only [Act.put, List.setIfInBounds_toArray, List.set_cons_zero, List.set_cons_succ, i64_w, i32_w]
      rfl
     refine one_ (i := 5) (N := some 52) #[true, true, true, true, true, true, false] rfl rfl (by kernel_rfl) (by decide) (fun K hK => ?_)
     refine goes_ Try.func75 (by kernel_rfl) rfl #[.int .i64 t426, .int .i64 a0_0] (by rfl) rfl rfl (by (try simp only [List.map_toArray, List.map_cons, List.map_nil]); first | done | rfl | (simp only [List.length_drop, List.length_take]; rfl)) ?_
     with_reducible refine (spec_FpSub.calls t426 a0_0 t427 _ A107.out).mono ?_
     rintro e w' ⟨rfl, ⟨nd, rfl⟩⟩
     refine ⟨_, rfl, ?_⟩
     refine hK.out _ _ ⟨bc BK418 0, bc BK418 1, bc BK418 2, bc BK416 0, bc BK416 1, bc BK416 2⟩ (fun hHeld => ?_)
     clear hK K
     refine norm_ (a' := ?_) ?_ ?_
     rotate_left
     ·show Act.put _ (some 52) _ = _
      simp only [Act.put, List.setIfInBounds_toArray, List.set_cons_zero, List.set_cons_succ, i64_w, i32_w]
      rfl
     refine pure_ (i := 6) (N := some 10) (v := ?_) (a' := ?_) #[true, true, true, true, true, true, true] rfl rfl (by kernel_rfl) (fun _ _ _ h => h) (Or.inl ⟨by rfl, ?_⟩) ?_ ?_
     rotate_left
     ·intro w'
      go_simp
      with_reducible rfl
     rotate_left
     ·simp only [Act.put, List.setIfInBounds_toArray, List.set_cons_zero, List.set_cons_succ, i64_w, i32_w]
      rfl
     refine done_ (by kernel_rfl) ?_
     try go_wp2
     (try simp only [World.drewN_drewN]); (try (rw [drewN_self w121]; generalize hq_ : World.drewN w121 _ = w121; replace BK416 : Aside0 (w121.heap[gb416]? = some (.cells #[.int .i64 a0_0, .int .i64 a0_1, .bool a0_2] 25 (0, 0))) := ⟨by rw [← hq_]; exact (bP BK416)⟩; replace BK417 : Aside0 (w121.heap[gb417]? = some (.cells #[.int .i64 a1_0, .int .i64 a1_1, .bool a1_2] 25 (0, 0))) := ⟨by rw [← hq_]; exact (bP BK417)⟩; replace BK418 : Aside0 (w121.heap[gb418]? = some (.cells #[.int .i64 a2_0, .int .i64 a2_1, .bool a2_2] 25 (0, 0))) := ⟨by rw [← hq_]; exact (bP BK418)⟩; replace BK419 : Aside0 (w121.heap[gb419]? = some (.cells #[.int .i64 0, .int .i64 0] 31 (0, 0))) := ⟨by rw [← hq_]; exact (bP BK419)⟩; replace BK420 : Aside0 (w121.heap[gb420]? = some (.cells #[.int .i64 1, .int .i64 0] 31 (0, 0))) := ⟨by rw [← hq_]; exact (bP BK420)⟩; replace HB : Aside0 (Below w.heap.size w w121) := ⟨by rw [← hq_]; exact (bZ HB)⟩; clear hq_))
     replace BK416 := Aside0.mk (blk_drew BK416.out)
     replace BK417 := Aside0.mk (blk_drew BK417.out)
     replace BK418 := Aside0.mk (blk_drew BK418.out)
     replace BK419 := Aside0.mk (blk_drew BK419.out)
     replace BK420 := Aside0.mk (blk_drew BK420.out)
     replace HB := Aside0.mk (below_drew1 HB.out)
     refine start_ (n := 11) (S := fun w' => w'.cell? ⟨gb416, 0, none⟩ = some (.int .i64 a0_0) ∧ w'.cell? ⟨gb416, 1, none⟩ = some (.int .i64 a0_1) ∧ w'.cell? ⟨gb416, 2, none⟩ = some (.bool a0_2) ∧ w'.cell? ⟨gb418, 0, none⟩ = some (.int .i64 a2_0) ∧ w'.cell? ⟨gb418, 1, none⟩ = some (.int .i64 a2_1) ∧ w'.cell? ⟨gb418, 2, none⟩ = some (.bool a2_2)) (ds := []) #[false, false, false, false, false, false, false, false, false, false, false] (by kernel_rfl) rfl rfl ⟨bc BK416 0, bc BK416 1, bc BK416 2, bc BK418 0, bc BK418 1, bc BK418 2⟩ (fun hHeld => ?_); refine with_tabW spec_PairLine.tab8 spec_PairLine.bits8 (fun HT_ HW_ => ?_)
     generalize w121.drew = w122 at BK416 BK417 BK418 BK419 BK420 HB hHeld ⊢
     refine pure_ (i := 0) (N := some 53) (v := ?_) (a' := ?_) #[true, false, false, false, false, false, false, false, false, false, false] rfl rfl (any_of HT_.out (by kernel_rfl)) (fun _ _ _ h => h) (Or.inl ⟨by rfl, ?_⟩) ?_ ?_
     rotate_left
     ·intro w'
      go_simp
      with_reducible rfl
     rotate_left
     ·simp only [Act.put, List.setIfInBounds_toArray, List.set_cons_zero, List.set_cons_succ, i64_w, i32_w]
      rfl
     refine pure_ (i := 3) (N := some 56) (v := ?_) (a' := ?_) #[true, false, false, true, false, false, false, false, false, false, false] rfl rfl (any_of HT_.out (by kernel_rfl)) (fun _ _ _ h => h) (Or.inl ⟨by rfl, ?_⟩) ?_ ?_
     rotate_left
     ·intro w'
      go_simp
      with_reducible rfl
     rotate_left
     ·simp only [Act.put, List.setIfInBounds_toArray, List.set_cons_zero, List.set_cons_succ, i64_w, i32_w]
      rfl
     refine pure_ (i := 4) (N := some 57) (v := ?_) (a' := ?_) #[true, false, false, true, true, false, false, false, false, false, false] rfl rfl (any_of HT_.out (by kernel_rfl)) (fun _ _ _ h => h) (Or.inl ⟨by rfl, ?_⟩) ?_ ?_
     rotate_left
     ·intro w'
      go_simp
      with_reducible rfl
     rotate_left
     ·simp only [Act.put, List.setIfInBounds_toArray, List.set_cons_zero, List.set_cons_succ, i64_w, i32_w]
      rfl
     refine pure_ (i := 7) (N := some 60) (v := ?_) (a' := ?_) #[true, false, false, true, true, false, false, true, false, false, false] rfl rfl (any_of HT_.out (by kernel_rfl)) (fun _ _ _ h => h) (Or.inl ⟨by rfl, ?_⟩) ?_ ?_
     rotate_left
     ·intro w'
      go_simp
      with_reducible rfl
     rotate_left
     ·simp only [Act.put, List.setIfInBounds_toArray, List.set_cons_zero, List.set_cons_succ, i64_w, i32_w]
      rfl
     refine take_ (i := 1) (N := some 54) (v := ?_) (a' := ?_) #[true, true, false, true, true, false, false, true, false, false, false] rfl rfl (take_ofW HT_.out HW_.out (by kernel_rfl)) (fun _ _ _ h => h) (Or.inl ⟨by rfl, ?_⟩) hHeld ?_ ?_
     rotate_left
     ·rintro w' ⟨s0, s1, s2, s3, s4, s5⟩
      go_simp
      with_reducible rfl
     rotate_left
     ·simp only [Act.put, List.setIfInBounds_toArray, List.set_cons_zero, List.set_cons_succ, i64_w, i32_w]
      rfl
     refine take_ (i := 8) (N := some 61) (v := ?_) (a' := ?_) #[true, true, false, true, true, false, false, true, true, false, false] rfl rfl (take_ofW HT_.out HW_.out (by kernel_rfl)) (fun _ _ _ h => h) (Or.inl ⟨by rfl, ?_⟩) hHeld ?_ ?_
     rotate_left
     ·rintro w' ⟨s0, s1, s2, s3, s4, s5⟩
      go_simp
      with_reducible rfl
     rotate_left
     ·simp only [Act.put, List.setIfInBounds_toArray, List.set_cons_zero, List.set_cons_succ, i64_w, i32_w]
      rfl
     refine one_ (i := 2) (N := some 55) #[true, true, true, true, true, false, false, true, true, false, false] rfl rfl (one_of HT_.out (by kernel_rfl)) (by decide) (fun K hK => ?_)
     refine goes_ Try.func75 (by kernel_rfl) rfl #[.int .i64 0, .int .i64 a0_1] (by rfl) rfl rfl (by (try simp only [List.map_toArray, List.map_cons, List.map_nil]); first | done | rfl | (simp only [List.length_drop, List.length_take]; rfl)) ?_
     with_reducible refine (spec_FpSub.calls 0 a0_1 t428 _ A108.out).mono ?_
     rintro e w' ⟨rfl, ⟨nd, rfl⟩⟩
     refine ⟨_, rfl, ?_⟩
     refine hK.out _ _ ⟨bc BK416 0, bc BK416 1, bc BK416 2, bc BK418 0, bc BK418 1, bc BK418 2⟩ (fun hHeld => ?_)
     clear hK K
     refine norm_ (a' := ?_) ?_ ?_
     rotate_left
     ·show Act.put _ (some 55) _ = _
      simp only [Act.put, List.setIfInBounds_toArray, List.set_cons_zero, List.set_cons_succ, i64_w, i32_w]
      rfl
     refine one_ (i := 5) (N := some 58) #[true, true, true, true, true, true, false, true, true, false, false] rfl rfl (one_of HT_.out (by kernel_rfl)) (by decide) (fun K hK => ?_)
     refine goes_ Try.func76 (by kernel_rfl) rfl #[.int .i64 t424, .int .i64 t427] (by rfl) rfl rfl (by (try simp only [List.map_toArray, List.map_cons, List.map_nil]); first | done | rfl | (simp only [List.length_drop, List.length_take]; rfl)) ?_
     with_reducible refine (spec_FpMul.calls t424 t427 t429 _ A109.out).mono ?_
     rintro e w' ⟨rfl, ⟨nd, rfl⟩⟩
     refine ⟨_, rfl, ?_⟩
     refine hK.out _ _ ⟨bc BK416 0, bc BK416 1, bc BK416 2, bc BK418 0, bc BK418 1, bc BK418 2⟩ (fun hHeld => ?_)
     clear hK K
     refine norm_ (a' := ?_) ?_ ?_
     rotate_left
     ·show Act.put _ (some 58) _ = _
      simp only [Act.put, List.setIfInBounds_toArray, List.set_cons_zero, List.set_cons_succ, i64_w, i32_w]
      rfl
     refine one_ (i := 6) (N := some 59) #[true, true, true, true, true, true, true, true, true, false, false] rfl rfl (one_of HT_.out (by kernel_rfl)) (by decide) (fun K hK => ?_)
     refine goes_ Try.func75 (by kernel_rfl) rfl #[.int .i64 t428, .int .i64 t429] (by rfl) rfl rfl (by (try simp only [List.map_toArray, List.map_cons, List.map_nil]); first | done | rfl | (simp only [List.length_drop, List.length_take]; rfl)) ?_
     with_reducible refine (spec_FpSub.calls t428 t429 t430 _ A110.out).mono ?_
     rintro e w' ⟨rfl, ⟨nd, rfl⟩⟩
     refine ⟨_, rfl, ?_⟩
     refine hK.out _ _ ⟨bc BK416 0, bc BK416 1, bc BK416 2, bc BK418 0, bc BK418 1, bc BK418 2⟩ (fun hHeld => ?_)
     clear hK K
     refine norm_ (a' := ?_) ?_ ?_
     rotate_left
     ·show Act.put _ (some 59) _ = _
      simp only [Act.put, List.setIfInBounds_toArray, List.set_cons_zero, List.set_cons_succ, i64_w, i32_w]
      rfl
     refine pure_ (i := 9) (N := some 62) (v := ?_) (a' := ?_) #[true, true, true, true, true, true, true, true, true, true, false] rfl rfl (any_of HT_.out (by kernel_rfl)) (fun _ _ _ h => h) (Or.inl ⟨by rfl, ?_⟩) ?_ ?_
     rotate_left
     ·intro w'
      go_simp
      with_reducible rfl
     rotate_left
     ·simp only [Act.put, List.setIfInBounds_toArray, List.set_cons_zero, List.set_cons_succ, i64_w, i32_w]
      rfl
     refine one_ (i := 10) (N := none) #[true, true, true, true, true, true, true, true, true, true, true] rfl rfl (one_of HT_.out (by kernel_rfl)) (by decide) (fun K hK => ?_)
     have hs123 : w122.cell? ⟨gb419, 0, none⟩ = some (.int .i64 0) := bc BK419 0
     have hfs123 := blk_frozen BK419.out 0
     have hns123_0 := NB416_419.out
     have hns123_1 := NB417_419.out
     have hns123_2 := NB418_419.out
     have hns123_4 := NB420_419.out
     have hms123_0 := NB419_416.out
     have hms123_1 := NB419_417.out
     have hms123_2 := NB419_418.out
     have hms123_4 := NB419_420.out
     have hs124 : w122.cell? ⟨gb419, 1, none⟩ = some (.int .i64 0) := bc BK419 1
     have hfs124 := blk_frozen BK419.out 1
     have hns124_0 := NB416_419.out
     have hns124_1 := NB417_419.out
     have hns124_2 := NB418_419.out
     have hns124_4 := NB420_419.out
     have hms124_0 := NB419_416.out
     have hms124_1 := NB419_417.out
     have hms124_2 := NB419_418.out
     have hms124_4 := NB419_420.out
     refine skip_ (w1 := ?_) (by rfl) rfl ?_ ?_
     rotate_left
     ·go_simp
      rfl
     refine hK.out _ _ ⟨((cell_far (p := ⟨gb419, _, none⟩) NB416_419.out _).trans (((cell_far (p := ⟨gb419, _, none⟩) NB416_419.out _).trans (hHeld.1)))), ((cell_far (p := ⟨gb419, _, none⟩) NB416_419.out _).trans (((cell_far (p := ⟨gb419, _, none⟩) NB416_419.out _).trans (hHeld.2.1)))), ((cell_far (p := ⟨gb419, _, none⟩) NB416_419.out _).trans (((cell_far (p := ⟨gb419, _, none⟩) NB416_419.out _).trans (hHeld.2.2.1)))), ((cell_far (p := ⟨gb419, _, none⟩) NB418_419.out _).trans (((cell_far (p := ⟨gb419, _, none⟩) NB418_419.out _).trans (hHeld.2.2.2.1)))), ((cell_far (p := ⟨gb419, _, none⟩) NB418_419.out _).trans (((cell_far (p := ⟨gb419, _, none⟩) NB418_419.out _).trans (hHeld.2.2.2.2.1)))), ((cell_far (p := ⟨gb419, _, none⟩) NB418_419.out _).trans (((cell_far (p := ⟨gb419, _, none⟩) NB418_419.out _).trans (hHeld.2.2.2.2.2))))⟩ (fun hHeld => ?_)
     clear hK K
     refine done_ (done_of HT_.out (by kernel_rfl)) ?_
     try go_wp2
     refine bodyPost_ret (results_cell_row rfl _ _ gb419 31 #[.int .i64 t430, .int .i64 a2_1] (0, 0) _ rfl (by (with_reducible repeat (first | refine blk_drewN ?_ _ | refine blk_drew ?_ | refine blk_alloc ?_ _)); refine blk_put (cs := #[.int .i64 t430, .int .i64 0]) ?_ 1 _ rfl; (with_reducible repeat (first | refine blk_drewN ?_ _ | refine blk_drew ?_ | refine blk_alloc ?_ _)); refine blk_put (cs := #[.int .i64 0, .int .i64 0]) ?_ 0 _ rfl; (with_reducible repeat (first | refine blk_drewN ?_ _ | refine blk_drew ?_ | refine blk_alloc ?_ _)); exact BK419.out) Try.underlying31 rfl (by kernel_rfl)) rfl ?_
     exact ⟨by first | rfl | (simp [errW_none, errW_some] <;> rfl) | (simp [*, errW_none, errW_some] <;> rfl), bZ HB⟩
    ·replace c105 := Bool.eq_false_iff.mpr c105
     subst c105
     have H1 : (some (1, 0)) = some (r1, r2) := by rw [if_neg (show ¬ (false = true) by decide)] at H; exact H
     clear H
     have H := H1
     clear H1
     simp only [Option.some.injEq, Prod.mk.injEq] at H
     obtain ⟨rfl, rfl⟩ := H
     have hnb125 := NB416_417.out
     have hnc125 := NB417_416.out
     have hnb126 := NB416_418.out
     have hnc126 := NB418_416.out
     have hnb127 := NB416_419.out
     have hnc127 := NB419_416.out
     have hnb128 := NB416_420.out
     have hnc128 := NB420_416.out
     have hcz129_0 : wc.cell? ⟨gb416, 0, none⟩ = some (.int .i64 a0_0) := bc BK416 0
     have hcz129_1 : wc.cell? ⟨gb416, 1, none⟩ = some (.int .i64 a0_1) := bc BK416 1
     have hcz129_2 : wc.cell? ⟨gb416, 2, none⟩ = some (.bool a0_2) := bc BK416 2
     have hfz129_0 := blk_frozen BK416.out 0
     have hfz129_1 := blk_frozen BK416.out 1
     have hfz129_2 := blk_frozen BK416.out 2
     have hnb130 := NB417_418.out
     have hnc130 := NB418_417.out
     have hnb131 := NB417_419.out
     have hnc131 := NB419_417.out
     have hnb132 := NB417_420.out
     have hnc132 := NB420_417.out
     have hcz133_0 : wc.cell? ⟨gb417, 0, none⟩ = some (.int .i64 a1_0) := bc BK417 0
     have hcz133_1 : wc.cell? ⟨gb417, 1, none⟩ = some (.int .i64 a1_1) := bc BK417 1
     have hcz133_2 : wc.cell? ⟨gb417, 2, none⟩ = some (.bool a1_2) := bc BK417 2
     have hfz133_0 := blk_frozen BK417.out 0
     have hfz133_1 := blk_frozen BK417.out 1
     have hfz133_2 := blk_frozen BK417.out 2
     go_wp2_with (first | ((with_reducible refine gate_callee (f := 74) rfl ?_); refine goesL_ (some 41) rfl rfl Try.func74 (by kernel_rfl) rfl #[.agg #[.int .i64 a0_0, .int .i64 a0_1, .bool a0_2], .agg #[.int .i64 a1_0, .int .i64 a1_1, .bool a1_2]] rfl (by (try simp only [List.map_toArray, List.map_cons, List.map_nil]); first | done | rfl | (simp only [List.length_drop, List.length_take]; rfl)) ?_; (with_reducible refine (spec_l07Slope.calls kj3 a0_0 a0_1 a0_2 a1_0 a1_1 a1_2 t424 false _ A104.out).mono ?_); rintro e w134 ⟨rfl, hb⟩; refine ⟨_, rfl, ?_⟩; replace BK416 := bB BK416 hb; replace BK417 := bB BK417 hb; replace BK418 := bB BK418 hb; replace BK419 := bB BK419 hb; replace BK420 := bB BK420 hb; replace HB := bS HB hb; (try clear hb); (try clear hb2); (try clear hk); (try clear hi); have hnb135 := NB420_418.out; have hnc135 := NB418_420.out; have hnb136 := NB420_419.out; have hnc136 := NB419_420.out; have hcz137_0 : w134.cell? ⟨gb420, 0, none⟩ = some (.int .i64 1) := bc BK420 0; have hcz137_1 : w134.cell? ⟨gb420, 1, none⟩ = some (.int .i64 0) := bc BK420 1; have hfz137_0 := blk_frozen BK420.out 0; have hfz137_1 := blk_frozen BK420.out 1; have hnb138 := NB419_418.out; have hnc138 := NB418_419.out; have hcz139_0 : w134.cell? ⟨gb419, 0, none⟩ = some (.int .i64 0) := bc BK419 0; have hcz139_1 : w134.cell? ⟨gb419, 1, none⟩ = some (.int .i64 0) := bc BK419 1; have hfz139_0 := blk_frozen BK419.out 0; have hfz139_1 := blk_frozen BK419.out 1))
     refine bodyPost_ret (results_cell_row rfl _ _ gb419 31 #[.int .i64 1, .int .i64 0] (0, 0) _ rfl (by (with_reducible repeat (first | refine blk_drewN ?_ _ | refine blk_drew ?_ | refine blk_alloc ?_ _)); refine blk_put (cs := #[.int .i64 1, .int .i64 0]) ?_ 1 _ rfl; (with_reducible repeat (first | refine blk_drewN ?_ _ | refine blk_drew ?_ | refine blk_alloc ?_ _)); refine blk_put (cs := #[.int .i64 0, .int .i64 0]) ?_ 0 _ rfl; (with_reducible repeat (first | refine blk_drewN ?_ _ | refine blk_drew ?_ | refine blk_alloc ?_ _)); exact BK419.out) Try.underlying31 rfl (by kernel_rfl)) rfl ?_
     exact ⟨by first | rfl | (simp [errW_none, errW_some] <;> rfl) | (simp [*, errW_none, errW_some] <;> rfl), bZ HB⟩
/-! ### spec_l07Zero: function 78 -/
def spec_l07Zero.f  : Option (Int × Int × Bool) := some (0, 0, true)
set_option maxHeartbeats 8000000 in
set_option maxRecDepth 100000 in
theorem spec_l07Zero.calls  (r1 : Int) (r2 : Int) (r3 : Bool) (w : World) (h : spec_l07Zero.f  = some (r1, r2, r3)) :
  Calls Try.prog 78 #[] w fun e w' => e = .returned (.agg #[.int .i64 r1, .int .i64 r2, .bool r3]) ∧ Below w.heap.size w w' := by
 have hu25 := Try.underlying25
 have HB := Aside0.mk (Below.refl w.heap.size w)
 have H : (some (0, 0, true)) = some (r1, r2, r3) := h
 clear h
 simp only [Option.some.injEq, Prod.mk.injEq] at H
 obtain ⟨rfl, rfl, rfl⟩ := H
 go_enter Try.func78, Try.ntmps78
 go_wp2_with (first | ((with_reducible refine gate_dst (N := 0) rfl ?_); refine box_event ?hg (N := 0) ?hd (cs := #[.int .i64 0, .int .i64 0, .bool false]) (t := 25) ?hr ?_; (case hd => rfl); (case hg => rfl); (case hr => first | (go_simp; done) | (go_simp; rfl)); intro gb119 hg w1 hbox hb; have BK119 := Aside0.mk (hbox); have GW119 := bG HB hg; have GE119 := bG HB hg; replace HB := bS HB hb; clear hb hbox hg; have hcz2_0 : w1.cell? ⟨gb119, 0, none⟩ = some (.int .i64 0) := bc BK119 0; have hcz2_1 : w1.cell? ⟨gb119, 1, none⟩ = some (.int .i64 0) := bc BK119 1; have hcz2_2 : w1.cell? ⟨gb119, 2, none⟩ = some (.bool false) := bc BK119 2; have hfz2_0 := blk_frozen BK119.out 0; have hfz2_1 := blk_frozen BK119.out 1; have hfz2_2 := blk_frozen BK119.out 2))
 refine bodyPost_ret (results_cell_row rfl _ _ gb119 25 #[.int .i64 0, .int .i64 0, .bool true] (0, 0) _ rfl (by (with_reducible repeat (first | refine blk_drewN ?_ _ | refine blk_drew ?_ | refine blk_alloc ?_ _)); refine blk_put (cs := #[.int .i64 0, .int .i64 0, .bool false]) ?_ 2 _ rfl; (with_reducible repeat (first | refine blk_drewN ?_ _ | refine blk_drew ?_ | refine blk_alloc ?_ _)); refine blk_put (cs := #[.int .i64 0, .int .i64 0, .bool false]) ?_ 1 _ rfl; (with_reducible repeat (first | refine blk_drewN ?_ _ | refine blk_drew ?_ | refine blk_alloc ?_ _)); refine blk_put (cs := #[.int .i64 0, .int .i64 0, .bool false]) ?_ 0 _ rfl; (with_reducible repeat (first | refine blk_drewN ?_ _ | refine blk_drew ?_ | refine blk_alloc ?_ _)); exact BK119.out) Try.underlying25 rfl (by kernel_rfl)) rfl ?_
 exact ⟨by first | rfl | (simp [errW_none, errW_some] <;> rfl) | (simp [*, errW_none, errW_some] <;> rfl), bZ HB⟩
/-! ### spec_l07Add: function 80 -/
def spec_l07Add.f (k : Nat) (a0_0 : Int) (a0_1 : Int) (a0_2 : Bool) (a1_0 : Int) (a1_1 : Int) (a1_2 : Bool) : Option (Int × Int × Bool) := if a0_2 = true then (some (a1_0, a1_1, a1_2)) else (if a1_2 = true then (some (a0_0, a0_1, a0_2)) else ((spec_l07Slope.f k a0_0 a0_1 a0_2 a1_0 a1_1 a1_2).bind fun bt150 => (if bt150.2 = true then ((spec_FpMul.f bt150.1 bt150.1).bind fun t155 => ((spec_FpSub.f t155 a0_0).bind fun t156 => ((spec_FpSub.f t156 a1_0).bind fun t157 => ((spec_FpSub.f a0_0 t157).bind fun t158 => ((spec_FpMul.f bt150.1 t158).bind fun t159 => ((spec_FpSub.f t159 a0_1).bind fun t160 => (some (t157, t160, false)))))))) else ((spec_l07Zero.f).bind fun bt152 => (some (bt152.1, bt152.2.1, bt152.2.2))))))
theorem spec_l07Add.mono : ∀ a0 a1 a2 a3 a4 a5 k, LeO (spec_l07Add.f k a0 a1 a2 a3 a4 a5) (spec_l07Add.f (k + 1) a0 a1 a2 a3 a4 a5) := by
 intro a0 a1 a2 a3 a4 a5 k
 unfold spec_l07Add.f
 repeat' first
   | (with_reducible exact spec_l07Slope.mono _ _ _ _ _ _ _)
   | (with_reducible exact LeO.refl _)
   | (with_reducible exact LeO.none _)
   | (with_reducible refine LeO.ite ?_ ?_)
   | (with_reducible refine LeO.bind ?_ (fun _ => ?_))
   | exact spec_l07Slope.mono _ _ _ _ _ _ _
   | exact LeO.none _
   | refine LeO.ite ?_ ?_
   | refine LeO.bind ?_ (fun _ => ?_)
def spec_l07Add.T8 : Bool × List (List Nat × List Nat) := (true, [([], []), ([], []), ([0, 1], [0, 1]), ([], []), ([3], [3]), ([2, 4, 2], [2, 4]), ([], []), ([6], [6]), ([5, 7, 5], [5, 7]), ([8, 8, 0, 1, 2, 3, 4, 5, 6, 7, 8], [8])])
def spec_l07Add.B8 : List Nat := [0, 0, 3, 0, 8, 31, 0, 64, 255, 511]
theorem spec_l07Add.tab8 : rtab .any (opsOf Try.f80 8) = spec_l07Add.T8 := by kernel_rfl
theorem spec_l07Add.bits8 : waitsOk spec_l07Add.T8.2 spec_l07Add.B8 = true := by kernel_rfl
def spec_l07Add.T9 : Bool × List (List Nat × List Nat) := (true, [([], []), ([], []), ([], []), ([2], [2]), ([], []), ([3, 4], [3, 4]), ([1, 5, 5], [1, 5]), ([], []), ([7], [7]), ([6, 8, 6], [6, 8]), ([0, 9], [0, 9]), ([10, 9, 0, 1, 2, 3, 4, 5, 6, 7, 8, 9, 10], [10])])
def spec_l07Add.B9 : List Nat := [0, 0, 0, 4, 0, 28, 62, 0, 128, 510, 1023, 2047]
theorem spec_l07Add.tab9 : rtab .any (opsOf Try.f80 9) = spec_l07Add.T9 := by kernel_rfl
theorem spec_l07Add.bits9 : waitsOk spec_l07Add.T9.2 spec_l07Add.B9 = true := by kernel_rfl
set_option maxHeartbeats 8000000 in
set_option maxRecDepth 100000 in
theorem spec_l07Add.calls (k : Nat) (a0_0 : Int) (a0_1 : Int) (a0_2 : Bool) (a1_0 : Int) (a1_1 : Int) (a1_2 : Bool) (r1 : Int) (r2 : Int) (r3 : Bool) (w : World) (h : spec_l07Add.f k a0_0 a0_1 a0_2 a1_0 a1_1 a1_2 = some (r1, r2, r3)) :
  Calls Try.prog 80 #[.agg #[.int .i64 a0_0, .int .i64 a0_1, .bool a0_2], .agg #[.int .i64 a1_0, .int .i64 a1_1, .bool a1_2]] w fun e w' => e = .returned (.agg #[.int .i64 r1, .int .i64 r2, .bool r3]) ∧ Below w.heap.size w w' := by
 have hu25 := Try.underlying25
 have HB := Aside0.mk (Below.refl w.heap.size w)
 have H : (if a0_2 = true then (some (a1_0, a1_1, a1_2)) else (if a1_2 = true then (some (a0_0, a0_1, a0_2)) else ((spec_l07Slope.f k a0_0 a0_1 a0_2 a1_0 a1_1 a1_2).bind fun bt150 => (if bt150.2 = true then ((spec_FpMul.f bt150.1 bt150.1).bind fun t155 => ((spec_FpSub.f t155 a0_0).bind fun t156 => ((spec_FpSub.f t156 a1_0).bind fun t157 => ((spec_FpSub.f a0_0 t157).bind fun t158 => ((spec_FpMul.f bt150.1 t158).bind fun t159 => ((spec_FpSub.f t159 a0_1).bind fun t160 => (some (t157, t160, false)))))))) else ((spec_l07Zero.f).bind fun bt152 => (some (bt152.1, bt152.2.1, bt152.2.2))))))) = some (r1, r2, r3) := h
 clear h
 by_cases c3 : a0_2 = true
 ·subst c3
  have H1 : (some (a1_0, a1_1, a1_2)) = some (r1, r2, r3) := by rw [if_pos rfl] at H; exact H
  clear H
  have H := H1
  clear H1
  simp only [Option.some.injEq, Prod.mk.injEq] at H
  obtain ⟨rfl, rfl, rfl⟩ := H
  go_enter Try.func80, Try.ntmps80
  go_wp2_with (first | ((with_reducible refine gate_dst (N := 2) rfl ?_); refine box_event ?hg (N := 2) ?hd (cs := #[.int .i64 a0_0, .int .i64 a0_1, .bool true]) (t := 25) ?hr ?_; (case hd => rfl); (case hg => rfl); (case hr => first | (go_simp; done) | (go_simp; rfl)); intro gb147 hg w4 hbox hb; have BK147 := Aside0.mk (hbox); have GW147 := bG HB hg; have GE147 := bG HB hg; replace HB := bS HB hb; clear hb hbox hg) | ((with_reducible refine gate_dst (N := 3) rfl ?_); refine box_event ?hg (N := 3) ?hd (cs := #[.int .i64 a1_0, .int .i64 a1_1, .bool a1_2]) (t := 25) ?hr ?_; (case hd => rfl); (case hg => rfl); (case hr => first | (go_simp; done) | (go_simp; rfl)); intro gb148 hg w5 hbox hb; have BK148 := Aside0.mk (hbox); have GW148 := bG HB hg; have GE148 := bG HB hg; replace HB := bS HB hb; have NB147_148 := bL BK147 hg; have NB148_147 := bR BK147 hg; replace BK147 := bB BK147 hb; clear hb hbox hg) | ((with_reducible refine gate_dst (N := 4) rfl ?_); refine box_event ?hg (N := 4) ?hd (cs := #[.int .i64 0, .int .i64 0, .bool false]) (t := 25) ?hr ?_; (case hd => rfl); (case hg => rfl); (case hr => first | (go_simp; done) | (go_simp; rfl)); intro gb149 hg w6 hbox hb; have BK149 := Aside0.mk (hbox); have GW149 := bG HB hg; have GE149 := bG HB hg; replace HB := bS HB hb; have NB147_149 := bL BK147 hg; have NB149_147 := bR BK147 hg; replace BK147 := bB BK147 hb; have NB148_149 := bL BK148 hg; have NB149_148 := bR BK148 hg; replace BK148 := bB BK148 hb; clear hb hbox hg; have hnb7 := NB147_148.out; have hnc7 := NB148_147.out; have hnb8 := NB147_149.out; have hnc8 := NB149_147.out; have hcz9_0 : w6.cell? ⟨gb147, 0, none⟩ = some (.int .i64 a0_0) := bc BK147 0; have hcz9_1 : w6.cell? ⟨gb147, 1, none⟩ = some (.int .i64 a0_1) := bc BK147 1; have hcz9_2 : w6.cell? ⟨gb147, 2, none⟩ = some (.bool true) := bc BK147 2; have hfz9_0 := blk_frozen BK147.out 0; have hfz9_1 := blk_frozen BK147.out 1; have hfz9_2 := blk_frozen BK147.out 2; have hnb10 := NB148_149.out; have hnc10 := NB149_148.out; have hcz11_0 : w6.cell? ⟨gb148, 0, none⟩ = some (.int .i64 a1_0) := bc BK148 0; have hcz11_1 : w6.cell? ⟨gb148, 1, none⟩ = some (.int .i64 a1_1) := bc BK148 1; have hcz11_2 : w6.cell? ⟨gb148, 2, none⟩ = some (.bool a1_2) := bc BK148 2; have hfz11_0 := blk_frozen BK148.out 0; have hfz11_1 := blk_frozen BK148.out 1; have hfz11_2 := blk_frozen BK148.out 2; have hcz12_0 : w6.cell? ⟨gb149, 0, none⟩ = some (.int .i64 0) := bc BK149 0; have hcz12_1 : w6.cell? ⟨gb149, 1, none⟩ = some (.int .i64 0) := bc BK149 1; have hcz12_2 : w6.cell? ⟨gb149, 2, none⟩ = some (.bool false) := bc BK149 2; have hfz12_0 := blk_frozen BK149.out 0; have hfz12_1 := blk_frozen BK149.out 1; have hfz12_2 := blk_frozen BK149.out 2))
  refine bodyPost_ret (results_cell_row rfl _ _ gb149 25 #[.int .i64 a1_0, .int .i64 a1_1, .bool a1_2] (0, 0) _ rfl (by (with_reducible repeat (first | refine blk_drewN ?_ _ | refine blk_drew ?_ | refine blk_alloc ?_ _)); refine blk_put (cs := #[.int .i64 a1_0, .int .i64 a1_1, .bool false]) ?_ 2 _ rfl; (with_reducible repeat (first | refine blk_drewN ?_ _ | refine blk_drew ?_ | refine blk_alloc ?_ _)); refine blk_put (cs := #[.int .i64 a1_0, .int .i64 0, .bool false]) ?_ 1 _ rfl; (with_reducible repeat (first | refine blk_drewN ?_ _ | refine blk_drew ?_ | refine blk_alloc ?_ _)); refine blk_put (cs := #[.int .i64 0, .int .i64 0, .bool false]) ?_ 0 _ rfl; (with_reducible repeat (first | refine blk_drewN ?_ _ | refine blk_drew ?_ | refine blk_alloc ?_ _)); exact BK149.out) Try.underlying25 rfl (by kernel_rfl)) rfl ?_
  exact ⟨by first | rfl | (simp [errW_none, errW_some] <;> rfl) | (simp [*, errW_none, errW_some] <;> rfl), bZ HB⟩
 ·replace c3 := Bool.eq_false_iff.mpr c3
  subst c3
  have H1 : (if a1_2 = true then (some (a0_0, a0_1, false)) else ((spec_l07Slope.f k a0_0 a0_1 false a1_0 a1_1 a1_2).bind fun bt150 => (if bt150.2 = true then ((spec_FpMul.f bt150.1 bt150.1).bind fun t155 => ((spec_FpSub.f t155 a0_0).bind fun t156 => ((spec_FpSub.f t156 a1_0).bind fun t157 => ((spec_FpSub.f a0_0 t157).bind fun t158 => ((spec_FpMul.f bt150.1 t158).bind fun t159 => ((spec_FpSub.f t159 a0_1).bind fun t160 => (some (t157, t160, false)))))))) else ((spec_l07Zero.f).bind fun bt152 => (some (bt152.1, bt152.2.1, bt152.2.2)))))) = some (r1, r2, r3) := by rw [if_neg (show ¬ (false = true) by decide)] at H; exact H
  clear H
  have H := H1
  clear H1
  by_cases c13 : a1_2 = true
  ·subst c13
   have H1 : (some (a0_0, a0_1, false)) = some (r1, r2, r3) := by rw [if_pos rfl] at H; exact H
   clear H
   have H := H1
   clear H1
   simp only [Option.some.injEq, Prod.mk.injEq] at H
   obtain ⟨rfl, rfl, rfl⟩ := H
   go_enter Try.func80, Try.ntmps80
   go_wp2_with (first | ((with_reducible refine gate_dst (N := 2) rfl ?_); refine box_event ?hg (N := 2) ?hd (cs := #[.int .i64 a0_0, .int .i64 a0_1, .bool false]) (t := 25) ?hr ?_; (case hd => rfl); (case hg => rfl); (case hr => first | (go_simp; done) | (go_simp; rfl)); intro gb147 hg w14 hbox hb; have BK147 := Aside0.mk (hbox); have GW147 := bG HB hg; have GE147 := bG HB hg; replace HB := bS HB hb; clear hb hbox hg) | ((with_reducible refine gate_dst (N := 3) rfl ?_); refine box_event ?hg (N := 3) ?hd (cs := #[.int .i64 a1_0, .int .i64 a1_1, .bool true]) (t := 25) ?hr ?_; (case hd => rfl); (case hg => rfl); (case hr => first | (go_simp; done) | (go_simp; rfl)); intro gb148 hg w15 hbox hb; have BK148 := Aside0.mk (hbox); have GW148 := bG HB hg; have GE148 := bG HB hg; replace HB := bS HB hb; have NB147_148 := bL BK147 hg; have NB148_147 := bR BK147 hg; replace BK147 := bB BK147 hb; clear hb hbox hg) | ((with_reducible refine gate_dst (N := 4) rfl ?_); refine box_event ?hg (N := 4) ?hd (cs := #[.int .i64 0, .int .i64 0, .bool false]) (t := 25) ?hr ?_; (case hd => rfl); (case hg => rfl); (case hr => first | (go_simp; done) | (go_simp; rfl)); intro gb149 hg w16 hbox hb; have BK149 := Aside0.mk (hbox); have GW149 := bG HB hg; have GE149 := bG HB hg; replace HB := bS HB hb; have NB147_149 := bL BK147 hg; have NB149_147 := bR BK147 hg; replace BK147 := bB BK147 hb; have NB148_149 := bL BK148 hg; have NB149_148 := bR BK148 hg; replace BK148 := bB BK148 hb; clear hb hbox hg; have hnb17 := NB147_148.out; have hnc17 := NB148_147.out; have hnb18 := NB147_149.out; have hnc18 := NB149_147.out; have hcz19_0 : w16.cell? ⟨gb147, 0, none⟩ = some (.int .i64 a0_0) := bc BK147 0; have hcz19_1 : w16.cell? ⟨gb147, 1, none⟩ = some (.int .i64 a0_1) := bc BK147 1; have hcz19_2 : w16.cell? ⟨gb147, 2, none⟩ = some (.bool false) := bc BK147 2; have hfz19_0 := blk_frozen BK147.out 0; have hfz19_1 := blk_frozen BK147.out 1; have hfz19_2 := blk_frozen BK147.out 2; have hnb20 := NB148_149.out; have hnc20 := NB149_148.out; have hcz21_0 : w16.cell? ⟨gb148, 0, none⟩ = some (.int .i64 a1_0) := bc BK148 0; have hcz21_1 : w16.cell? ⟨gb148, 1, none⟩ = some (.int .i64 a1_1) := bc BK148 1; have hcz21_2 : w16.cell? ⟨gb148, 2, none⟩ = some (.bool true) := bc BK148 2; have hfz21_0 := blk_frozen BK148.out 0; have hfz21_1 := blk_frozen BK148.out 1; have hfz21_2 := blk_frozen BK148.out 2; have hcz22_0 : w16.cell? ⟨gb149, 0, none⟩ = some (.int .i64 0) := bc BK149 0; have hcz22_1 : w16.cell? ⟨gb149, 1, none⟩ = some (.int .i64 0) := bc BK149 1; have hcz22_2 : w16.cell? ⟨gb149, 2, none⟩ = some (.bool false) := bc BK149 2; have hfz22_0 := blk_frozen BK149.out 0; have hfz22_1 := blk_frozen BK149.out 1; have hfz22_2 := blk_frozen BK149.out 2))
   refine bodyPost_ret (results_cell_row rfl _ _ gb149 25 #[.int .i64 a0_0, .int .i64 a0_1, .bool false] (0, 0) _ rfl (by (with_reducible repeat (first | refine blk_drewN ?_ _ | refine blk_drew ?_ | refine blk_alloc ?_ _)); refine blk_put (cs := #[.int .i64 a0_0, .int .i64 a0_1, .bool false]) ?_ 2 _ rfl; (with_reducible repeat (first | refine blk_drewN ?_ _ | refine blk_drew ?_ | refine blk_alloc ?_ _)); refine blk_put (cs := #[.int .i64 a0_0, .int .i64 0, .bool false]) ?_ 1 _ rfl; (with_reducible repeat (first | refine blk_drewN ?_ _ | refine blk_drew ?_ | refine blk_alloc ?_ _)); refine blk_put (cs := #[.int .i64 0, .int .i64 0, .bool false]) ?_ 0 _ rfl; (with_reducible repeat (first | refine blk_drewN ?_ _ | refine blk_drew ?_ | refine blk_alloc ?_ _)); exact BK149.out) Try.underlying25 rfl (by kernel_rfl)) rfl ?_
   exact ⟨by first | rfl | (simp [errW_none, errW_some] <;> rfl) | (simp [*, errW_none, errW_some] <;> rfl), bZ HB⟩
  ·replace c13 := Bool.eq_false_iff.mpr c13
   subst c13
   have H1 : ((spec_l07Slope.f k a0_0 a0_1 false a1_0 a1_1 false).bind fun bt150 => (if bt150.2 = true then ((spec_FpMul.f bt150.1 bt150.1).bind fun t155 => ((spec_FpSub.f t155 a0_0).bind fun t156 => ((spec_FpSub.f t156 a1_0).bind fun t157 => ((spec_FpSub.f a0_0 t157).bind fun t158 => ((spec_FpMul.f bt150.1 t158).bind fun t159 => ((spec_FpSub.f t159 a0_1).bind fun t160 => (some (t157, t160, false)))))))) else ((spec_l07Zero.f).bind fun bt152 => (some (bt152.1, bt152.2.1, bt152.2.2))))) = some (r1, r2, r3) := by rw [if_neg (show ¬ (false = true) by decide)] at H; exact H
   clear H
   have H := H1
   clear H1
   replace H := Option.bind_eq_some_iff.mp H
   obtain ⟨⟨t150, t151⟩, A230, H⟩ := H
   replace H : (if t151 = true then ((spec_FpMul.f t150 t150).bind fun t155 => ((spec_FpSub.f t155 a0_0).bind fun t156 => ((spec_FpSub.f t156 a1_0).bind fun t157 => ((spec_FpSub.f a0_0 t157).bind fun t158 => ((spec_FpMul.f t150 t158).bind fun t159 => ((spec_FpSub.f t159 a0_1).bind fun t160 => (some (t157, t160, false)))))))) else ((spec_l07Zero.f).bind fun bt152 => (some (bt152.1, bt152.2.1, bt152.2.2)))) = some (r1, r2, r3) := H
   have A23 := Aside0.mk A230
   clear A230
   by_cases c24 : t151 = true
   ·subst c24
    have H1 : ((spec_FpMul.f t150 t150).bind fun t155 => ((spec_FpSub.f t155 a0_0).bind fun t156 => ((spec_FpSub.f t156 a1_0).bind fun t157 => ((spec_FpSub.f a0_0 t157).bind fun t158 => ((spec_FpMul.f t150 t158).bind fun t159 => ((spec_FpSub.f t159 a0_1).bind fun t160 => (some (t157, t160, false)))))))) = some (r1, r2, r3) := by rw [if_pos rfl] at H; exact H
    clear H
    have H := H1
    clear H1
    replace H := Option.bind_eq_some_iff.mp H
    obtain ⟨t155, A250, H⟩ := H
    replace H : ((spec_FpSub.f t155 a0_0).bind fun t156 => ((spec_FpSub.f t156 a1_0).bind fun t157 => ((spec_FpSub.f a0_0 t157).bind fun t158 => ((spec_FpMul.f t150 t158).bind fun t159 => ((spec_FpSub.f t159 a0_1).bind fun t160 => (some (t157, t160, false))))))) = some (r1, r2, r3) := H
    have A25 := Aside0.mk A250
    clear A250
    replace H := Option.bind_eq_some_iff.mp H
    obtain ⟨t156, A260, H⟩ := H
    replace H : ((spec_FpSub.f t156 a1_0).bind fun t157 => ((spec_FpSub.f a0_0 t157).bind fun t158 => ((spec_FpMul.f t150 t158).bind fun t159 => ((spec_FpSub.f t159 a0_1).bind fun t160 => (some (t157, t160, false)))))) = some (r1, r2, r3) := H
    have A26 := Aside0.mk A260
    clear A260
    replace H := Option.bind_eq_some_iff.mp H
    obtain ⟨t157, A270, H⟩ := H
    replace H : ((spec_FpSub.f a0_0 t157).bind fun t158 => ((spec_FpMul.f t150 t158).bind fun t159 => ((spec_FpSub.f t159 a0_1).bind fun t160 => (some (t157, t160, false))))) = some (r1, r2, r3) := H
    have A27 := Aside0.mk A270
    clear A270
    replace H := Option.bind_eq_some_iff.mp H
    obtain ⟨t158, A280, H⟩ := H
    replace H : ((spec_FpMul.f t150 t158).bind fun t159 => ((spec_FpSub.f t159 a0_1).bind fun t160 => (some (t157, t160, false)))) = some (r1, r2, r3) := H
    have A28 := Aside0.mk A280
    clear A280
    replace H := Option.bind_eq_some_iff.mp H
    obtain ⟨t159, A290, H⟩ := H
    replace H : ((spec_FpSub.f t159 a0_1).bind fun t160 => (some (t157, t160, false))) = some (r1, r2, r3) := H
    have A29 := Aside0.mk A290
    clear A290
    replace H := Option.bind_eq_some_iff.mp H
    obtain ⟨t160, A300, H⟩ := H
    replace H : (some (t157, t160, false)) = some (r1, r2, r3) := H
    have A30 := Aside0.mk A300
    clear A300
    simp only [Option.some.injEq, Prod.mk.injEq] at H
    obtain ⟨rfl, rfl, rfl⟩ := H
    go_enter Try.func80, Try.ntmps80
    try go_wp2_with (first | ((with_reducible refine gate_dst (N := 2) rfl ?_); refine box_event ?hg (N := 2) ?hd (cs := #[.int .i64 a0_0, .int .i64 a0_1, .bool false]) (t := 25) ?hr ?_; (case hd => rfl); (case hg => rfl); (case hr => first | (go_simp; done) | (go_simp; rfl)); intro gb147 hg w31 hbox hb; have BK147 := Aside0.mk (hbox); have GW147 := bG HB hg; have GE147 := bG HB hg; replace HB := bS HB hb; clear hb hbox hg) | ((with_reducible refine gate_dst (N := 3) rfl ?_); refine box_event ?hg (N := 3) ?hd (cs := #[.int .i64 a1_0, .int .i64 a1_1, .bool false]) (t := 25) ?hr ?_; (case hd => rfl); (case hg => rfl); (case hr => first | (go_simp; done) | (go_simp; rfl)); intro gb148 hg w32 hbox hb; have BK148 := Aside0.mk (hbox); have GW148 := bG HB hg; have GE148 := bG HB hg; replace HB := bS HB hb; have NB147_148 := bL BK147 hg; have NB148_147 := bR BK147 hg; replace BK147 := bB BK147 hb; clear hb hbox hg) | ((with_reducible refine gate_dst (N := 4) rfl ?_); refine box_event ?hg (N := 4) ?hd (cs := #[.int .i64 0, .int .i64 0, .bool false]) (t := 25) ?hr ?_; (case hd => rfl); (case hg => rfl); (case hr => first | (go_simp; done) | (go_simp; rfl)); intro gb149 hg w33 hbox hb; have BK149 := Aside0.mk (hbox); have GW149 := bG HB hg; have GE149 := bG HB hg; replace HB := bS HB hb; have NB147_149 := bL BK147 hg; have NB149_147 := bR BK147 hg; replace BK147 := bB BK147 hb; have NB148_149 := bL BK148 hg; have NB149_148 := bR BK148 hg; replace BK148 := bB BK148 hb; clear hb hbox hg; have hnb34 := NB147_148.out; have hnc34 := NB148_147.out; have hnb35 := NB147_149.out; have hnc35 := NB149_147.out; have hcz36_0 : w33.cell? ⟨gb147, 0, none⟩ = some (.int .i64 a0_0) := bc BK147 0; have hcz36_1 : w33.cell? ⟨gb147, 1, none⟩ = some (.int .i64 a0_1) := bc BK147 1; have hcz36_2 : w33.cell? ⟨gb147, 2, none⟩ = some (.bool false) := bc BK147 2; have hfz36_0 := blk_frozen BK147.out 0; have hfz36_1 := blk_frozen BK147.out 1; have hfz36_2 := blk_frozen BK147.out 2; have hnb37 := NB148_149.out; have hnc37 := NB149_148.out; have hcz38_0 : w33.cell? ⟨gb148, 0, none⟩ = some (.int .i64 a1_0) := bc BK148 0; have hcz38_1 : w33.cell? ⟨gb148, 1, none⟩ = some (.int .i64 a1_1) := bc BK148 1; have hcz38_2 : w33.cell? ⟨gb148, 2, none⟩ = some (.bool false) := bc BK148 2; have hfz38_0 := blk_frozen BK148.out 0; have hfz38_1 := blk_frozen BK148.out 1; have hfz38_2 := blk_frozen BK148.out 2) | ((with_reducible refine gate_callee (f := 74) rfl ?_); refine goesL_ (some 17) rfl rfl Try.func74 (by kernel_rfl) rfl #[.agg #[.int .i64 a0_0, .int .i64 a0_1, .bool false], .agg #[.int .i64 a1_0, .int .i64 a1_1, .bool false]] rfl (by (try simp only [List.map_toArray, List.map_cons, List.map_nil]); first | done | rfl | (simp only [List.length_drop, List.length_take]; rfl)) ?_; (with_reducible refine (spec_l07Slope.calls k a0_0 a0_1 false a1_0 a1_1 false t150 true _ A23.out).mono ?_); rintro e w39 ⟨rfl, hb⟩; refine ⟨_, rfl, ?_⟩; replace BK147 := bB BK147 hb; replace BK148 := bB BK148 hb; replace BK149 := bB BK149 hb; replace HB := bS HB hb; (try clear hb); (try clear hb2); (try clear hk); (try clear hi)))
    replace BK147 := Aside0.mk (blk_drew BK147.out)
    replace BK148 := Aside0.mk (blk_drew BK148.out)
    replace BK149 := Aside0.mk (blk_drew BK149.out)
    replace HB := Aside0.mk (below_drew1 HB.out)
    refine start_ (n := 10) (S := fun w' => w'.cell? ⟨gb147, 0, none⟩ = some (.int .i64 a0_0) ∧ w'.cell? ⟨gb147, 1, none⟩ = some (.int .i64 a0_1) ∧ w'.cell? ⟨gb147, 2, none⟩ = some (.bool false) ∧ w'.cell? ⟨gb148, 0, none⟩ = some (.int .i64 a1_0) ∧ w'.cell? ⟨gb148, 1, none⟩ = some (.int .i64 a1_1) ∧ w'.cell? ⟨gb148, 2, none⟩ = some (.bool false)) (ds := []) #[false, false, false, false, false, false, false, false, false, false] (by kernel_rfl) rfl rfl ⟨bc BK147 0, bc BK147 1, bc BK147 2, bc BK148 0, bc BK148 1, bc BK148 2⟩ (fun hHeld => ?_); refine with_tabW spec_l07Add.tab8 spec_l07Add.bits8 (fun HT_ HW_ => ?_)
    generalize w39.drew = w40 at BK147 BK148 BK149 HB hHeld ⊢
    refine pure_ (i := 0) (N := some 23) (v := ?_) (a' := ?_) #[true, false, false, false, false, false, false, false, false, false] rfl rfl (any_of HT_.out (by kernel_rfl)) (fun _ _ _ h => h) (Or.inl ⟨by rfl, ?_⟩) ?_ ?_
    rotate_left
    ·intro w'
     go_simp
     with_reducible rfl
    rotate_left
    ·simp only [Act.put, List.setIfInBounds_toArray, List.set_cons_zero, List.set_cons_succ, i64_w, i32_w]
     rfl
    refine pure_ (i := 1) (N := some 24) (v := ?_) (a' := ?_) #[true, true, false, false, false, false, false, false, false, false] rfl rfl (any_of HT_.out (by kernel_rfl)) (fun _ _ _ h => h) (Or.inl ⟨by rfl, ?_⟩) ?_ ?_
    rotate_left
    ·intro w'
     go_simp
     with_reducible rfl
    rotate_left
    ·simp only [Act.put, List.setIfInBounds_toArray, List.set_cons_zero, List.set_cons_succ, i64_w, i32_w]
     rfl
    refine pure_ (i := 3) (N := some 26) (v := ?_) (a' := ?_) #[true, true, false, true, false, false, false, false, false, false] rfl rfl (any_of HT_.out (by kernel_rfl)) (fun _ _ _ h => h) (Or.inl ⟨by rfl, ?_⟩) ?_ ?_
    rotate_left
    ·intro w'
     go_simp
     with_reducible rfl
    rotate_left
    ·simp only [Act.put, List.setIfInBounds_toArray, List.set_cons_zero, List.set_cons_succ, i64_w, i32_w]
     rfl
    refine pure_ (i := 6) (N := some 29) (v := ?_) (a' := ?_) #[true, true, false, true, false, false, true, false, false, false] rfl rfl (any_of HT_.out (by kernel_rfl)) (fun _ _ _ h => h) (Or.inl ⟨by rfl, ?_⟩) ?_ ?_
    rotate_left
    ·intro w'
     go_simp
     with_reducible rfl
    rotate_left
    ·simp only [Act.put, List.setIfInBounds_toArray, List.set_cons_zero, List.set_cons_succ, i64_w, i32_w]
     rfl
    refine take_ (i := 4) (N := some 27) (v := ?_) (a' := ?_) #[true, true, false, true, true, false, true, false, false, false] rfl rfl (take_ofW HT_.out HW_.out (by kernel_rfl)) (fun _ _ _ h => h) (Or.inl ⟨by rfl, ?_⟩) hHeld ?_ ?_
    rotate_left
    ·rintro w' ⟨s0, s1, s2, s3, s4, s5⟩
     go_simp
     with_reducible rfl
    rotate_left
    ·simp only [Act.put, List.setIfInBounds_toArray, List.set_cons_zero, List.set_cons_succ, i64_w, i32_w]
     rfl
    refine take_ (i := 7) (N := some 30) (v := ?_) (a' := ?_) #[true, true, false, true, true, false, true, true, false, false] rfl rfl (take_ofW HT_.out HW_.out (by kernel_rfl)) (fun _ _ _ h => h) (Or.inl ⟨by rfl, ?_⟩) hHeld ?_ ?_
    rotate_left
    ·rintro w' ⟨s0, s1, s2, s3, s4, s5⟩
     go_simp
     with_reducible rfl
    rotate_left
    ·simp only [Act.put, List.setIfInBounds_toArray, List.set_cons_zero, List.set_cons_succ, i64_w, i32_w]
     rfl
    refine one_ (i := 2) (N := some 25) #[true, true, true, true, true, false, true, true, false, false] rfl rfl (one_of HT_.out (by kernel_rfl)) (by decide) (fun K hK => ?_)
    refine goes_ Try.func76 (by kernel_rfl) rfl #[.int .i64 t150, .int .i64 t150] (by rfl) rfl rfl (by (try simp only [List.map_toArray, List.map_cons, List.map_nil]); first | done | rfl | (simp only [List.length_drop, List.length_take]; rfl)) ?_
    with_reducible refine (spec_FpMul.calls t150 t150 t155 _ A25.out).mono ?_
    rintro e w' ⟨rfl, ⟨nd, rfl⟩⟩
    refine ⟨_, rfl, ?_⟩
    refine hK.out _ _ ⟨bc BK147 0, bc BK147 1, bc BK147 2, bc BK148 0, bc BK148 1, bc BK148 2⟩ (fun hHeld => ?_)
    clear hK K
    refine norm_ (a' := ?_) ?_ ?_
    rotate_left
    ·show Act.put _ (some 25) _ = _
     simp only [Act.put, List.setIfInBounds_toArray, List.set_cons_zero, List.set_cons_succ, i64_w, i32_w]
     rfl
    refine one_ (i := 5) (N := some 28) #[true, true, true, true, true, true, true, true, false, false] rfl rfl (one_of HT_.out (by kernel_rfl)) (by decide) (fun K hK => ?_)
    refine goes_ Try.func75 (by kernel_rfl) rfl #[.int .i64 t155, .int .i64 a0_0] (by rfl) rfl rfl (by (try simp only [List.map_toArray, List.map_cons, List.map_nil]); first | done | rfl | (simp only [List.length_drop, List.length_take]; rfl)) ?_
    with_reducible refine (spec_FpSub.calls t155 a0_0 t156 _ A26.out).mono ?_
    rintro e w' ⟨rfl, ⟨nd, rfl⟩⟩
    refine ⟨_, rfl, ?_⟩
    refine hK.out _ _ ⟨bc BK147 0, bc BK147 1, bc BK147 2, bc BK148 0, bc BK148 1, bc BK148 2⟩ (fun hHeld => ?_)
    clear hK K
    refine norm_ (a' := ?_) ?_ ?_
    rotate_left
    ·show Act.put _ (some 28) _ = _
     simp only [Act.put, List.setIfInBounds_toArray, List.set_cons_zero, List.set_cons_succ, i64_w, i32_w]
     rfl
    refine one_ (i := 8) (N := some 31) #[true, true, true, true, true, true, true, true, true, false] rfl rfl (one_of HT_.out (by kernel_rfl)) (by decide) (fun K hK => ?_)
    refine goes_ Try.func75 (by kernel_rfl) rfl #[.int .i64 t156, .int .i64 a1_0] (by rfl) rfl rfl (by (try simp only [List.map_toArray, List.map_cons, List.map_nil]); first | done | rfl | (simp only [List.length_drop, List.length_take]; rfl)) ?_
    with_reducible refine (spec_FpSub.calls t156 a1_0 t157 _ A27.out).mono ?_
    rintro e w' ⟨rfl, ⟨nd, rfl⟩⟩
    refine ⟨_, rfl, ?_⟩
    refine hK.out _ _ ⟨bc BK147 0, bc BK147 1, bc BK147 2, bc BK148 0, bc BK148 1, bc BK148 2⟩ (fun hHeld => ?_)
    clear hK K
    refine norm_ (a' := ?_) ?_ ?_
    rotate_left
    ·show Act.put _ (some 31) _ = _
     simp only [Act.put, List.setIfInBounds_toArray, List.set_cons_zero, List.set_cons_succ, i64_w, i32_w]
     rfl
    refine pure_ (i := 9) (N := some 7) (v := ?_) (a' := ?_) #[true, true, true, true, true, true, true, true, true, true] rfl rfl (any_of HT_.out (by kernel_rfl)) (fun _ _ _ h => h) (Or.inl ⟨by rfl, ?_⟩) ?_ ?_
    rotate_left
    ·intro w'
     go_simp
     with_reducible rfl
    rotate_left
    ·simp only [Act.put, List.setIfInBounds_toArray, List.set_cons_zero, List.set_cons_succ, i64_w, i32_w]
     rfl
    refine done_ (done_of HT_.out (by kernel_rfl)) ?_
    try go_wp2
    (try simp only [World.drewN_drewN]); (try (rw [drewN_self w40]; generalize hq_ : World.drewN w40 _ = w40; replace BK147 : Aside0 (w40.heap[gb147]? = some (.cells #[.int .i64 a0_0, .int .i64 a0_1, .bool false] 25 (0, 0))) := ⟨by rw [← hq_]; exact (bP BK147)⟩; replace BK148 : Aside0 (w40.heap[gb148]? = some (.cells #[.int .i64 a1_0, .int .i64 a1_1, .bool false] 25 (0, 0))) := ⟨by rw [← hq_]; exact (bP BK148)⟩; replace BK149 : Aside0 (w40.heap[gb149]? = some (.cells #[.int .i64 0, .int .i64 0, .bool false] 25 (0, 0))) := ⟨by rw [← hq_]; exact (bP BK149)⟩; replace HB : Aside0 (Below w.heap.size w w40) := ⟨by rw [← hq_]; exact (bZ HB)⟩; clear hq_))
    replace BK147 := Aside0.mk (blk_drew BK147.out)
    replace BK148 := Aside0.mk (blk_drew BK148.out)
    replace BK149 := Aside0.mk (blk_drew BK149.out)
    replace HB := Aside0.mk (below_drew1 HB.out)
    refine start_ (n := 12) (S := fun w' => w'.cell? ⟨gb147, 0, none⟩ = some (.int .i64 a0_0) ∧ w'.cell? ⟨gb147, 1, none⟩ = some (.int .i64 a0_1) ∧ w'.cell? ⟨gb147, 2, none⟩ = some (.bool false)) (ds := []) #[false, false, false, false, false, false, false, false, false, false, false, false] (by kernel_rfl) rfl rfl ⟨bc BK147 0, bc BK147 1, bc BK147 2⟩ (fun hHeld => ?_); refine with_tabW spec_l07Add.tab9 spec_l07Add.bits9 (fun HT_ HW_ => ?_)
    generalize w40.drew = w41 at BK147 BK148 BK149 HB hHeld ⊢
    refine pure_ (i := 0) (N := some 32) (v := ?_) (a' := ?_) #[true, false, false, false, false, false, false, false, false, false, false, false] rfl rfl (any_of HT_.out (by kernel_rfl)) (fun _ _ _ h => h) (Or.inl ⟨by rfl, ?_⟩) ?_ ?_
    rotate_left
    ·intro w'
     go_simp
     with_reducible rfl
    rotate_left
    ·simp only [Act.put, List.setIfInBounds_toArray, List.set_cons_zero, List.set_cons_succ, i64_w, i32_w]
     rfl
    refine pure_ (i := 1) (N := some 33) (v := ?_) (a' := ?_) #[true, true, false, false, false, false, false, false, false, false, false, false] rfl rfl (any_of HT_.out (by kernel_rfl)) (fun _ _ _ h => h) (Or.inl ⟨by rfl, ?_⟩) ?_ ?_
    rotate_left
    ·intro w'
     go_simp
     with_reducible rfl
    rotate_left
    ·simp only [Act.put, List.setIfInBounds_toArray, List.set_cons_zero, List.set_cons_succ, i64_w, i32_w]
     rfl
    refine pure_ (i := 2) (N := some 34) (v := ?_) (a' := ?_) #[true, true, true, false, false, false, false, false, false, false, false, false] rfl rfl (any_of HT_.out (by kernel_rfl)) (fun _ _ _ h => h) (Or.inl ⟨by rfl, ?_⟩) ?_ ?_
    rotate_left
    ·intro w'
     go_simp
     with_reducible rfl
    rotate_left
    ·simp only [Act.put, List.setIfInBounds_toArray, List.set_cons_zero, List.set_cons_succ, i64_w, i32_w]
     rfl
    refine pure_ (i := 4) (N := some 36) (v := ?_) (a' := ?_) #[true, true, true, false, true, false, false, false, false, false, false, false] rfl rfl (any_of HT_.out (by kernel_rfl)) (fun _ _ _ h => h) (Or.inl ⟨by rfl, ?_⟩) ?_ ?_
    rotate_left
    ·intro w'
     go_simp
     with_reducible rfl
    rotate_left
    ·simp only [Act.put, List.setIfInBounds_toArray, List.set_cons_zero, List.set_cons_succ, i64_w, i32_w]
     rfl
    refine pure_ (i := 7) (N := some 39) (v := ?_) (a' := ?_) #[true, true, true, false, true, false, false, true, false, false, false, false] rfl rfl (any_of HT_.out (by kernel_rfl)) (fun _ _ _ h => h) (Or.inl ⟨by rfl, ?_⟩) ?_ ?_
    rotate_left
    ·intro w'
     go_simp
     with_reducible rfl
    rotate_left
    ·simp only [Act.put, List.setIfInBounds_toArray, List.set_cons_zero, List.set_cons_succ, i64_w, i32_w]
     rfl
    refine take_ (i := 3) (N := some 35) (v := ?_) (a' := ?_) #[true, true, true, true, true, false, false, true, false, false, false, false] rfl rfl (take_ofW HT_.out HW_.out (by kernel_rfl)) (fun _ _ _ h => h) (Or.inl ⟨by rfl, ?_⟩) hHeld ?_ ?_
    rotate_left
    ·rintro w' ⟨s0, s1, s2⟩
     go_simp
     with_reducible rfl
    rotate_left
    ·simp only [Act.put, List.setIfInBounds_toArray, List.set_cons_zero, List.set_cons_succ, i64_w, i32_w]
     rfl
    refine take_ (i := 8) (N := some 40) (v := ?_) (a' := ?_) #[true, true, true, true, true, false, false, true, true, false, false, false] rfl rfl (take_ofW HT_.out HW_.out (by kernel_rfl)) (fun _ _ _ h => h) (Or.inl ⟨by rfl, ?_⟩) hHeld ?_ ?_
    rotate_left
    ·rintro w' ⟨s0, s1, s2⟩
     go_simp
     with_reducible rfl
    rotate_left
    ·simp only [Act.put, List.setIfInBounds_toArray, List.set_cons_zero, List.set_cons_succ, i64_w, i32_w]
     rfl
    refine one_ (i := 5) (N := some 37) #[true, true, true, true, true, true, false, true, true, false, false, false] rfl rfl (one_of HT_.out (by kernel_rfl)) (by decide) (fun K hK => ?_)
    refine goes_ Try.func75 (by kernel_rfl) rfl #[.int .i64 a0_0, .int .i64 t157] (by rfl) rfl rfl (by (try simp only [List.map_toArray, List.map_cons, List.map_nil]); first | done | rfl | (simp only [List.length_drop, List.length_take]; rfl)) ?_
    with_reducible refine (spec_FpSub.calls a0_0 t157 t158 _ A28.out).mono ?_
    rintro e w' ⟨rfl, ⟨nd, rfl⟩⟩
    refine ⟨_, rfl, ?_⟩
    refine hK.out _ _ ⟨bc BK147 0, bc BK147 1, bc BK147 2⟩ (fun hHeld => ?_)
    clear hK K
    refine norm_ (a' := ?_) ?_ ?_
    rotate_left
    ·show Act.put _ (some 37) _ = _
     simp only [Act.put, List.setIfInBounds_toArray, List.set_cons_zero, List.set_cons_succ, i64_w, i32_w]
     rfl
    refine one_ (i := 6) (N := some 38) #[true, true, true, true, true, true, true, true, true, false, false, false] rfl rfl (one_of HT_.out (by kernel_rfl)) (by decide) (fun K hK => ?_)
    refine goes_ Try.func76 (by kernel_rfl) rfl #[.int .i64 t150, .int .i64 t158] (by rfl) rfl rfl (by (try simp only [List.map_toArray, List.map_cons, List.map_nil]); first | done | rfl | (simp only [List.length_drop, List.length_take]; rfl)) ?_
    with_reducible refine (spec_FpMul.calls t150 t158 t159 _ A29.out).mono ?_
    rintro e w' ⟨rfl, ⟨nd, rfl⟩⟩
    refine ⟨_, rfl, ?_⟩
    refine hK.out _ _ ⟨bc BK147 0, bc BK147 1, bc BK147 2⟩ (fun hHeld => ?_)
    clear hK K
    refine norm_ (a' := ?_) ?_ ?_
    rotate_left
    ·show Act.put _ (some 38) _ = _
     simp only [Act.put, List.setIfInBounds_toArray, List.set_cons_zero, List.set_cons_succ, i64_w, i32_w]
     rfl
    refine one_ (i := 9) (N := some 41) #[true, true, true, true, true, true, true, true, true, true, false, false] rfl rfl (one_of HT_.out (by kernel_rfl)) (by decide) (fun K hK => ?_)
    refine goes_ Try.func75 (by kernel_rfl) rfl #[.int .i64 t159, .int .i64 a0_1] (by rfl) rfl rfl (by (try simp only [List.map_toArray, List.map_cons, List.map_nil]); first | done | rfl | (simp only [List.length_drop, List.length_take]; rfl)) ?_
    with_reducible refine (spec_FpSub.calls t159 a0_1 t160 _ A30.out).mono ?_
    rintro e w' ⟨rfl, ⟨nd, rfl⟩⟩
    refine ⟨_, rfl, ?_⟩
    refine hK.out _ _ ⟨bc BK147 0, bc BK147 1, bc BK147 2⟩ (fun hHeld => ?_)
    clear hK K
    refine norm_ (a' := ?_) ?_ ?_
    rotate_left
    ·show Act.put _ (some 41) _ = _
     simp only [Act.put, List.setIfInBounds_toArray, List.set_cons_zero, List.set_cons_succ, i64_w, i32_w]
     rfl
    refine pure_ (i := 10) (N := some 42) (v := ?_) (a' := ?_) #[true, true, true, true, true, true, true, true, true, true, true, false] rfl rfl (any_of HT_.out (by kernel_rfl)) (fun _ _ _ h => h) (Or.inl ⟨by rfl, ?_⟩) ?_ ?_
    rotate_left
    ·intro w'
     go_simp
     with_reducible rfl
    rotate_left
    ·simp only [Act.put, List.setIfInBounds_toArray, List.set_cons_zero, List.set_cons_succ, i64_w, i32_w]
     rfl
    refine one_ (i := 11) (N := none) #[true, true, true, true, true, true, true, true, true, true, true, true] rfl rfl (one_of HT_.out (by kernel_rfl)) (by decide) (fun K hK => ?_)
    have hs42 : w41.cell? ⟨gb149, 0, none⟩ = some (.int .i64 0) := bc BK149 0
    have hfs42 := blk_frozen BK149.out 0
    have hns42_0 := NB147_149.out
    have hns42_1 := NB148_149.out
    have hms42_0 := NB149_147.out
    have hms42_1 := NB149_148.out
    have hs43 : w41.cell? ⟨gb149, 1, none⟩ = some (.int .i64 0) := bc BK149 1
    have hfs43 := blk_frozen BK149.out 1
    have hns43_0 := NB147_149.out
    have hns43_1 := NB148_149.out
    have hms43_0 := NB149_147.out
    have hms43_1 := NB149_148.out
    have hs44 : w41.cell? ⟨gb149, 2, none⟩ = some (.bool false) := bc BK149 2
    have hfs44 := blk_frozen BK149.out 2
    have hns44_0 := NB147_149.out
    have hns44_1 := NB148_149.out
    have hms44_0 := NB149_147.out
    have hms44_1 := NB149_148.out
    refine skip_ (w1 := ?_) (by rfl) rfl ?_ ?_
    rotate_left
    ·go_simp
     rfl
    refine hK.out _ _ ⟨((cell_far (p := ⟨gb149, _, none⟩) NB147_149.out _).trans (((cell_far (p := ⟨gb149, _, none⟩) NB147_149.out _).trans (((cell_far (p := ⟨gb149, _, none⟩) NB147_149.out _).trans (hHeld.1)))))), ((cell_far (p := ⟨gb149, _, none⟩) NB147_149.out _).trans (((cell_far (p := ⟨gb149, _, none⟩) NB147_149.out _).trans (((cell_far (p := ⟨gb149, _, none⟩) NB147_149.out _).trans (hHeld.2.1)))))), ((cell_far (p := ⟨gb149, _, none⟩) NB147_149.out _).trans (((cell_far (p := ⟨gb149, _, none⟩) NB147_149.out _).trans (((cell_far (p := ⟨gb149, _, none⟩) NB147_149.out _).trans (hHeld.2.2))))))⟩ (fun hHeld => ?_)
    clear hK K
    refine done_ (done_of HT_.out (by kernel_rfl)) ?_
    try go_wp2
    refine bodyPost_ret (results_cell_row rfl _ _ gb149 25 #[.int .i64 t157, .int .i64 t160, .bool false] (0, 0) _ rfl (by (with_reducible repeat (first | refine blk_drewN ?_ _ | refine blk_drew ?_ | refine blk_alloc ?_ _)); refine blk_put (cs := #[.int .i64 t157, .int .i64 t160, .bool false]) ?_ 2 _ rfl; (with_reducible repeat (first | refine blk_drewN ?_ _ | refine blk_drew ?_ | refine blk_alloc ?_ _)); refine blk_put (cs := #[.int .i64 t157, .int .i64 0, .bool false]) ?_ 1 _ rfl; (with_reducible repeat (first | refine blk_drewN ?_ _ | refine blk_drew ?_ | refine blk_alloc ?_ _)); refine blk_put (cs := #[.int .i64 0, .int .i64 0, .bool false]) ?_ 0 _ rfl; (with_reducible repeat (first | refine blk_drewN ?_ _ | refine blk_drew ?_ | refine blk_alloc ?_ _)); exact BK149.out) Try.underlying25 rfl (by kernel_rfl)) rfl ?_
    exact ⟨by first | rfl | (simp [errW_none, errW_some] <;> rfl) | (simp [*, errW_none, errW_some] <;> rfl), bZ HB⟩
   ·replace c24 := Bool.eq_false_iff.mpr c24
    subst c24
    have H1 : ((spec_l07Zero.f).bind fun bt152 => (some (bt152.1, bt152.2.1, bt152.2.2))) = some (r1, r2, r3) := by rw [if_neg (show ¬ (false = true) by decide)] at H; exact H
    clear H
    have H := H1
    clear H1
    replace H := Option.bind_eq_some_iff.mp H
    obtain ⟨⟨t152, t153, t154⟩, A450, H⟩ := H
    replace H : (some (t152, t153, t154)) = some (r1, r2, r3) := H
    have A45 := Aside0.mk A450
    clear A450
    simp only [Option.some.injEq, Prod.mk.injEq] at H
    obtain ⟨rfl, rfl, rfl⟩ := H
    go_enter Try.func80, Try.ntmps80
    go_wp2_with (first | ((with_reducible refine gate_dst (N := 2) rfl ?_); refine box_event ?hg (N := 2) ?hd (cs := #[.int .i64 a0_0, .int .i64 a0_1, .bool false]) (t := 25) ?hr ?_; (case hd => rfl); (case hg => rfl); (case hr => first | (go_simp; done) | (go_simp; rfl)); intro gb147 hg w46 hbox hb; have BK147 := Aside0.mk (hbox); have GW147 := bG HB hg; have GE147 := bG HB hg; replace HB := bS HB hb; clear hb hbox hg) | ((with_reducible refine gate_dst (N := 3) rfl ?_); refine box_event ?hg (N := 3) ?hd (cs := #[.int .i64 a1_0, .int .i64 a1_1, .bool false]) (t := 25) ?hr ?_; (case hd => rfl); (case hg => rfl); (case hr => first | (go_simp; done) | (go_simp; rfl)); intro gb148 hg w47 hbox hb; have BK148 := Aside0.mk (hbox); have GW148 := bG HB hg; have GE148 := bG HB hg; replace HB := bS HB hb; have NB147_148 := bL BK147 hg; have NB148_147 := bR BK147 hg; replace BK147 := bB BK147 hb; clear hb hbox hg) | ((with_reducible refine gate_dst (N := 4) rfl ?_); refine box_event ?hg (N := 4) ?hd (cs := #[.int .i64 0, .int .i64 0, .bool false]) (t := 25) ?hr ?_; (case hd => rfl); (case hg => rfl); (case hr => first | (go_simp; done) | (go_simp; rfl)); intro gb149 hg w48 hbox hb; have BK149 := Aside0.mk (hbox); have GW149 := bG HB hg; have GE149 := bG HB hg; replace HB := bS HB hb; have NB147_149 := bL BK147 hg; have NB149_147 := bR BK147 hg; replace BK147 := bB BK147 hb; have NB148_149 := bL BK148 hg; have NB149_148 := bR BK148 hg; replace BK148 := bB BK148 hb; clear hb hbox hg; have hnb49 := NB147_148.out; have hnc49 := NB148_147.out; have hnb50 := NB147_149.out; have hnc50 := NB149_147.out; have hcz51_0 : w48.cell? ⟨gb147, 0, none⟩ = some (.int .i64 a0_0) := bc BK147 0; have hcz51_1 : w48.cell? ⟨gb147, 1, none⟩ = some (.int .i64 a0_1) := bc BK147 1; have hcz51_2 : w48.cell? ⟨gb147, 2, none⟩ = some (.bool false) := bc BK147 2; have hfz51_0 := blk_frozen BK147.out 0; have hfz51_1 := blk_frozen BK147.out 1; have hfz51_2 := blk_frozen BK147.out 2; have hnb52 := NB148_149.out; have hnc52 := NB149_148.out; have hcz53_0 : w48.cell? ⟨gb148, 0, none⟩ = some (.int .i64 a1_0) := bc BK148 0; have hcz53_1 : w48.cell? ⟨gb148, 1, none⟩ = some (.int .i64 a1_1) := bc BK148 1; have hcz53_2 : w48.cell? ⟨gb148, 2, none⟩ = some (.bool false) := bc BK148 2; have hfz53_0 := blk_frozen BK148.out 0; have hfz53_1 := blk_frozen BK148.out 1; have hfz53_2 := blk_frozen BK148.out 2) | ((with_reducible refine gate_callee (f := 74) rfl ?_); refine goesL_ (some 17) rfl rfl Try.func74 (by kernel_rfl) rfl #[.agg #[.int .i64 a0_0, .int .i64 a0_1, .bool false], .agg #[.int .i64 a1_0, .int .i64 a1_1, .bool false]] rfl (by (try simp only [List.map_toArray, List.map_cons, List.map_nil]); first | done | rfl | (simp only [List.length_drop, List.length_take]; rfl)) ?_; (with_reducible refine (spec_l07Slope.calls k a0_0 a0_1 false a1_0 a1_1 false t150 false _ A23.out).mono ?_); rintro e w54 ⟨rfl, hb⟩; refine ⟨_, rfl, ?_⟩; replace BK147 := bB BK147 hb; replace BK148 := bB BK148 hb; replace BK149 := bB BK149 hb; replace HB := bS HB hb; (try clear hb); (try clear hb2); (try clear hk); (try clear hi)) | ((with_reducible refine gate_callee (f := 78) rfl ?_); refine goesL_ (some 22) rfl rfl Try.func78 (by kernel_rfl) rfl #[] rfl (by (try simp only [List.map_toArray, List.map_cons, List.map_nil]); first | done | rfl | (simp only [List.length_drop, List.length_take]; rfl)) ?_; (with_reducible refine (spec_l07Zero.calls  t152 t153 t154 _ A45.out).mono ?_); rintro e w55 ⟨rfl, hb⟩; refine ⟨_, rfl, ?_⟩; replace BK147 := bB BK147 hb; replace BK148 := bB BK148 hb; replace BK149 := bB BK149 hb; replace HB := bS HB hb; (try clear hb); (try clear hb2); (try clear hk); (try clear hi); have hcz56_0 : w55.cell? ⟨gb149, 0, none⟩ = some (.int .i64 0) := bc BK149 0; have hcz56_1 : w55.cell? ⟨gb149, 1, none⟩ = some (.int .i64 0) := bc BK149 1; have hcz56_2 : w55.cell? ⟨gb149, 2, none⟩ = some (.bool false) := bc BK149 2; have hfz56_0 := blk_frozen BK149.out 0; have hfz56_1 := blk_frozen BK149.out 1; have hfz56_2 := blk_frozen BK149.out 2))
    refine bodyPost_ret (results_cell_row rfl _ _ gb149 25 #[.int .i64 t152, .int .i64 t153, .bool t154] (0, 0) _ rfl (by (with_reducible repeat (first | refine blk_drewN ?_ _ | refine blk_drew ?_ | refine blk_alloc ?_ _)); refine blk_put (cs := #[.int .i64 t152, .int .i64 t153, .bool false]) ?_ 2 _ rfl; (with_reducible repeat (first | refine blk_drewN ?_ _ | refine blk_drew ?_ | refine blk_alloc ?_ _)); refine blk_put (cs := #[.int .i64 t152, .int .i64 0, .bool false]) ?_ 1 _ rfl; (with_reducible repeat (first | refine blk_drewN ?_ _ | refine blk_drew ?_ | refine blk_alloc ?_ _)); refine blk_put (cs := #[.int .i64 0, .int .i64 0, .bool false]) ?_ 0 _ rfl; (with_reducible repeat (first | refine blk_drewN ?_ _ | refine blk_drew ?_ | refine blk_alloc ?_ _)); exact BK149.out) Try.underlying25 rfl (by kernel_rfl)) rfl ?_
    exact ⟨by first | rfl | (simp [errW_none, errW_some] <;> rfl) | (simp [*, errW_none, errW_some] <;> rfl), bZ HB⟩
/-! ### spec_PointAdd: function 53 -/
def spec_PointAdd.j0 : Nat → Bool → Int → Int → Bool → Int → Int → Bool → Option (Int × Int × Bool)
 | 0, _, _, _, _, _, _, _ => none
 | k + 1, x12, x432000, x432001, x432002, x433000, x433001, x433002 => if x12 = true then ((spec_l07Zero.f).bind fun bt436 => (some (bt436.1, bt436.2.1, bt436.2.2))) else ((spec_l07Add.f k x432000 x432001 x432002 x433000 x433001 x433002).bind fun bt439 => (some (bt439.1, bt439.2.1, bt439.2.2)))
def spec_PointAdd.f (k : Nat) (a0_0 : Int) (a0_1 : Int) (a0_2 : Bool) (a1_0 : Int) (a1_1 : Int) (a1_2 : Bool) : Option (Int × Int × Bool) := (spec_PointOk.f a0_0 a0_1 a0_2).bind fun t434 => (if t434 = true then ((spec_PointOk.f a1_0 a1_1 a1_2).bind fun t435 => (spec_PointAdd.j0 k (!t435) a0_0 a0_1 a0_2 a1_0 a1_1 a1_2)) else (spec_PointAdd.j0 k true a0_0 a0_1 a0_2 a1_0 a1_1 a1_2))
theorem spec_PointAdd.mono_l : ∀ k, (∀ y0 y1 y2 y3 y4 y5 y6, LeO (spec_PointAdd.j0 k y0 y1 y2 y3 y4 y5 y6) (spec_PointAdd.j0 (k + 1) y0 y1 y2 y3 y4 y5 y6))
 | 0 => fun _ _ _ _ _ _ _ r h => by simp [spec_PointAdd.j0] at h
 | k + 1 => by
  have ih0 := spec_PointAdd.mono_l k
  ·intro y0 y1 y2 y3 y4 y5 y6
   unfold spec_PointAdd.j0
   repeat' first
   | (with_reducible exact ih0 _ _ _ _ _ _ _)
   | (with_reducible exact spec_l07Add.mono _ _ _ _ _ _ _)
   | (with_reducible exact LeO.refl _)
   | (with_reducible exact LeO.none _)
   | (with_reducible refine LeO.ite ?_ ?_)
   | (with_reducible refine LeO.bind ?_ (fun _ => ?_))
   | exact ih0 _ _ _ _ _ _ _
   | exact spec_l07Add.mono _ _ _ _ _ _ _
   | exact LeO.none _
   | refine LeO.ite ?_ ?_
   | refine LeO.bind ?_ (fun _ => ?_)
theorem spec_PointAdd.mono : ∀ a0 a1 a2 a3 a4 a5 k, LeO (spec_PointAdd.f k a0 a1 a2 a3 a4 a5) (spec_PointAdd.f (k + 1) a0 a1 a2 a3 a4 a5) := by
 intro a0 a1 a2 a3 a4 a5 k
 have ih0 := spec_PointAdd.mono_l k
 unfold spec_PointAdd.f
 repeat' first
   | (with_reducible exact ih0 _ _ _ _ _ _ _)
   | (with_reducible exact spec_l07Add.mono _ _ _ _ _ _ _)
   | (with_reducible exact LeO.refl _)
   | (with_reducible exact LeO.none _)
   | (with_reducible refine LeO.ite ?_ ?_)
   | (with_reducible refine LeO.bind ?_ (fun _ => ?_))
   | exact ih0 _ _ _ _ _ _ _
   | exact spec_l07Add.mono _ _ _ _ _ _ _
   | exact LeO.none _
   | refine LeO.ite ?_ ?_
   | refine LeO.bind ?_ (fun _ => ?_)
set_option maxHeartbeats 8000000 in
set_option maxRecDepth 100000 in
theorem spec_PointAdd.calls (k : Nat) (a0_0 : Int) (a0_1 : Int) (a0_2 : Bool) (a1_0 : Int) (a1_1 : Int) (a1_2 : Bool) (r1 : Int) (r2 : Int) (r3 : Bool) (w : World) (h : spec_PointAdd.f k a0_0 a0_1 a0_2 a1_0 a1_1 a1_2 = some (r1, r2, r3)) :
  Calls Try.prog 53 #[.agg #[.int .i64 a0_0, .int .i64 a0_1, .bool a0_2], .agg #[.int .i64 a1_0, .int .i64 a1_1, .bool a1_2]] w fun e w' => e = .returned (.agg #[.int .i64 r1, .int .i64 r2, .bool r3]) ∧ Below w.heap.size w w' := by
 have hu25 := Try.underlying25
 have HB := Aside0.mk (Below.refl w.heap.size w)
 have H : ((spec_PointOk.f a0_0 a0_1 a0_2).bind fun t434 => (if t434 = true then ((spec_PointOk.f a1_0 a1_1 a1_2).bind fun t435 => (spec_PointAdd.j0 k (!t435) a0_0 a0_1 a0_2 a1_0 a1_1 a1_2)) else (spec_PointAdd.j0 k true a0_0 a0_1 a0_2 a1_0 a1_1 a1_2))) = some (r1, r2, r3) := h
 clear h
 have HC3 := Aside0.mk H
 clear H
 go_enter Try.func53, Try.ntmps53
 go_upto_region 1 with (first | ((with_reducible refine gate_dst (N := 2) rfl ?_); refine box_event ?hg (N := 2) ?hd (cs := #[.int .i64 a0_0, .int .i64 a0_1, .bool a0_2]) (t := 25) ?hr ?_; (case hd => rfl); (case hg => rfl); (case hr => first | (go_simp; done) | (go_simp; rfl)); intro gb431 hg w4 hbox hb; have BK431 := Aside0.mk (hbox); have GW431 := bG HB hg; have GE431 := bG HB hg; replace HB := bS HB hb; clear hb hbox hg) | ((with_reducible refine gate_dst (N := 3) rfl ?_); refine box_event ?hg (N := 3) ?hd (cs := #[.int .i64 a1_0, .int .i64 a1_1, .bool a1_2]) (t := 25) ?hr ?_; (case hd => rfl); (case hg => rfl); (case hr => first | (go_simp; done) | (go_simp; rfl)); intro gb432 hg w5 hbox hb; have BK432 := Aside0.mk (hbox); have GW432 := bG HB hg; have GE432 := bG HB hg; replace HB := bS HB hb; have NB431_432 := bL BK431 hg; have NB432_431 := bR BK431 hg; replace BK431 := bB BK431 hb; clear hb hbox hg) | ((with_reducible refine gate_dst (N := 4) rfl ?_); refine box_event ?hg (N := 4) ?hd (cs := #[.int .i64 0, .int .i64 0, .bool false]) (t := 25) ?hr ?_; (case hd => rfl); (case hg => rfl); (case hr => first | (go_simp; done) | (go_simp; rfl)); intro gb433 hg w6 hbox hb; have BK433 := Aside0.mk (hbox); have GW433 := bG HB hg; have GE433 := bG HB hg; replace HB := bS HB hb; have NB431_433 := bL BK431 hg; have NB433_431 := bR BK431 hg; replace BK431 := bB BK431 hb; have NB432_433 := bL BK432 hg; have NB433_432 := bR BK432 hg; replace BK432 := bB BK432 hb; clear hb hbox hg))
 (try simp only [Act.put, List.setIfInBounds_toArray, List.set_cons_zero, List.set_cons_succ])
 go_cut [12] (fun v12 wc => ∃ (kq : Nat) (x12_2 : Bool), v12 = .bool x12_2 ∧ Aside0 (spec_PointAdd.j0 kq x12_2 a0_0 a0_1 a0_2 a1_0 a1_1 a1_2 = some (r1, r2, r3)) ∧ Aside0 (kq ≤ k) ∧ Aside0 (wc.heap[gb431]? = some (.cells #[.int .i64 a0_0, .int .i64 a0_1, .bool a0_2] 25 (0, 0))) ∧ Aside0 (wc.heap[gb432]? = some (.cells #[.int .i64 a1_0, .int .i64 a1_1, .bool a1_2] 25 (0, 0))) ∧ Aside0 (wc.heap[gb433]? = some (.cells #[.int .i64 0, .int .i64 0, .bool false] 25 (0, 0))) ∧ Aside0 (Below w.heap.size w wc))
 case first =>
  have H := HC3.out
  clear HC3
  replace H := Option.bind_eq_some_iff.mp H
  obtain ⟨t434, A70, H⟩ := H
  replace H : (if t434 = true then ((spec_PointOk.f a1_0 a1_1 a1_2).bind fun t435 => (spec_PointAdd.j0 k (!t435) a0_0 a0_1 a0_2 a1_0 a1_1 a1_2)) else (spec_PointAdd.j0 k true a0_0 a0_1 a0_2 a1_0 a1_1 a1_2)) = some (r1, r2, r3) := H
  have A7 := Aside0.mk A70
  clear A70
  by_cases c8 : t434 = true
  ·subst c8
   have H1 : ((spec_PointOk.f a1_0 a1_1 a1_2).bind fun t435 => (spec_PointAdd.j0 k (!t435) a0_0 a0_1 a0_2 a1_0 a1_1 a1_2)) = some (r1, r2, r3) := by rw [if_pos rfl] at H; exact H
   clear H
   have H := H1
   clear H1
   replace H := Option.bind_eq_some_iff.mp H
   obtain ⟨t435, A90, H⟩ := H
   replace H : (spec_PointAdd.j0 k (!t435) a0_0 a0_1 a0_2 a1_0 a1_1 a1_2) = some (r1, r2, r3) := H
   have A9 := Aside0.mk A90
   clear A90
   have H' := Aside0.mk H
   clear H
   have hnb10 := NB431_432.out
   have hnc10 := NB432_431.out
   have hnb11 := NB431_433.out
   have hnc11 := NB433_431.out
   have hcz12_0 : w6.cell? ⟨gb431, 0, none⟩ = some (.int .i64 a0_0) := bc BK431 0
   have hcz12_1 : w6.cell? ⟨gb431, 1, none⟩ = some (.int .i64 a0_1) := bc BK431 1
   have hcz12_2 : w6.cell? ⟨gb431, 2, none⟩ = some (.bool a0_2) := bc BK431 2
   have hfz12_0 := blk_frozen BK431.out 0
   have hfz12_1 := blk_frozen BK431.out 1
   have hfz12_2 := blk_frozen BK431.out 2
   go_wp2_with (first | ((with_reducible refine gate_callee (f := 55) rfl ?_); refine goesL_ (some 6) rfl rfl Try.func55 (by kernel_rfl) rfl #[.agg #[.int .i64 a0_0, .int .i64 a0_1, .bool a0_2]] rfl (by (try simp only [List.map_toArray, List.map_cons, List.map_nil]); first | done | rfl | (simp only [List.length_drop, List.length_take]; rfl)) ?_; (with_reducible refine (spec_PointOk.calls a0_0 a0_1 a0_2 true _ A7.out).mono ?_); rintro e w13 ⟨rfl, hb⟩; refine ⟨_, rfl, ?_⟩; replace BK431 := bB BK431 hb; replace BK432 := bB BK432 hb; replace BK433 := bB BK433 hb; replace HB := bS HB hb; (try clear hb); (try clear hb2); (try clear hk); (try clear hi); have hnb14 := NB432_433.out; have hnc14 := NB433_432.out; have hcz15_0 : w13.cell? ⟨gb432, 0, none⟩ = some (.int .i64 a1_0) := bc BK432 0; have hcz15_1 : w13.cell? ⟨gb432, 1, none⟩ = some (.int .i64 a1_1) := bc BK432 1; have hcz15_2 : w13.cell? ⟨gb432, 2, none⟩ = some (.bool a1_2) := bc BK432 2; have hfz15_0 := blk_frozen BK432.out 0; have hfz15_1 := blk_frozen BK432.out 1; have hfz15_2 := blk_frozen BK432.out 2) | (go_at_call 55; (with_reducible refine (spec_PointOk.calls a1_0 a1_1 a1_2 t435 _ A9.out).mono ?_); rintro e w16 ⟨rfl, hb⟩; replace BK431 := bB BK431 hb; replace BK432 := bB BK432 hb; replace BK433 := bB BK433 hb; replace HB := bS HB hb; (try clear hb); (try clear hb2); (try clear hk); (try clear hi)))
   go_meet
   case rel => exact ⟨_, (!t435), (by first | rfl | (simp; done) | (simp [*]; done)), H', ⟨by first | omega | exact Nat.le_refl _⟩, ⟨bP BK431⟩, ⟨bP BK432⟩, ⟨bP BK433⟩, ⟨bZ HB⟩⟩
  ·replace c8 := Bool.eq_false_iff.mpr c8
   subst c8
   have H1 : (spec_PointAdd.j0 k true a0_0 a0_1 a0_2 a1_0 a1_1 a1_2) = some (r1, r2, r3) := by rw [if_neg (show ¬ (false = true) by decide)] at H; exact H
   clear H
   have H := H1
   clear H1
   have H' := Aside0.mk H
   clear H
   have hnb17 := NB431_432.out
   have hnc17 := NB432_431.out
   have hnb18 := NB431_433.out
   have hnc18 := NB433_431.out
   have hcz19_0 : w6.cell? ⟨gb431, 0, none⟩ = some (.int .i64 a0_0) := bc BK431 0
   have hcz19_1 : w6.cell? ⟨gb431, 1, none⟩ = some (.int .i64 a0_1) := bc BK431 1
   have hcz19_2 : w6.cell? ⟨gb431, 2, none⟩ = some (.bool a0_2) := bc BK431 2
   have hfz19_0 := blk_frozen BK431.out 0
   have hfz19_1 := blk_frozen BK431.out 1
   have hfz19_2 := blk_frozen BK431.out 2
   go_wp2_with (first | ((with_reducible refine gate_callee (f := 55) rfl ?_); refine goesL_ (some 6) rfl rfl Try.func55 (by kernel_rfl) rfl #[.agg #[.int .i64 a0_0, .int .i64 a0_1, .bool a0_2]] rfl (by (try simp only [List.map_toArray, List.map_cons, List.map_nil]); first | done | rfl | (simp only [List.length_drop, List.length_take]; rfl)) ?_; (with_reducible refine (spec_PointOk.calls a0_0 a0_1 a0_2 false _ A7.out).mono ?_); rintro e w20 ⟨rfl, hb⟩; refine ⟨_, rfl, ?_⟩; replace BK431 := bB BK431 hb; replace BK432 := bB BK432 hb; replace BK433 := bB BK433 hb; replace HB := bS HB hb; (try clear hb); (try clear hb2); (try clear hk); (try clear hi)))
   go_meet
   case rel => exact ⟨_, (true), (by first | rfl | (simp; done) | (simp [*]; done)), H', ⟨by first | omega | exact Nat.le_refl _⟩, ⟨bP BK431⟩, ⟨bP BK432⟩, ⟨bP BK433⟩, ⟨bZ HB⟩⟩
 case rest =>
  clear HC3
  try clear c1
  try clear p2
  try clear c5
  try clear c8
  try clear c10
  try clear c11
  try clear c14
  try clear c17
  try clear c18
  try clear hcz12_0
  try clear hcz12_1
  try clear hcz12_2
  try clear hcz15_0
  try clear hcz15_1
  try clear hcz15_2
  try clear hcz19_0
  try clear hcz19_1
  try clear hcz19_2
  try clear hfz12_0
  try clear hfz12_1
  try clear hfz12_2
  try clear hfz15_0
  try clear hfz15_1
  try clear hfz15_2
  try clear hfz19_0
  try clear hfz19_1
  try clear hfz19_2
  obtain ⟨kq, x12_2, rfl, HA, HJ2, BK431, BK432, BK433, HB⟩ := hcut
  cases kq with
  | zero => exact absurd HA.out (by simp [spec_PointAdd.j0])
  | succ kj2 =>
   have H := HA.out
   clear HA
   simp only [spec_PointAdd.j0] at H
   by_cases c21 : x12_2 = true
   ·subst c21
    have H1 : ((spec_l07Zero.f).bind fun bt436 => (some (bt436.1, bt436.2.1, bt436.2.2))) = some (r1, r2, r3) := by rw [if_pos rfl] at H; exact H
    clear H
    have H := H1
    clear H1
    replace H := Option.bind_eq_some_iff.mp H
    obtain ⟨⟨t436, t437, t438⟩, A220, H⟩ := H
    replace H : (some (t436, t437, t438)) = some (r1, r2, r3) := H
    have A22 := Aside0.mk A220
    clear A220
    simp only [Option.some.injEq, Prod.mk.injEq] at H
    obtain ⟨rfl, rfl, rfl⟩ := H
    go_wp2_with (first | ((with_reducible refine gate_callee (f := 78) rfl ?_); refine goesL_ (some 13) rfl rfl Try.func78 (by kernel_rfl) rfl #[] rfl (by (try simp only [List.map_toArray, List.map_cons, List.map_nil]); first | done | rfl | (simp only [List.length_drop, List.length_take]; rfl)) ?_; (with_reducible refine (spec_l07Zero.calls  t436 t437 t438 _ A22.out).mono ?_); rintro e w23 ⟨rfl, hb⟩; refine ⟨_, rfl, ?_⟩; replace BK431 := bB BK431 hb; replace BK432 := bB BK432 hb; replace BK433 := bB BK433 hb; replace HB := bS HB hb; (try clear hb); (try clear hb2); (try clear hk); (try clear hi); have hnb24 := NB433_431.out; have hnc24 := NB431_433.out; have hnb25 := NB433_432.out; have hnc25 := NB432_433.out; have hcz26_0 : w23.cell? ⟨gb433, 0, none⟩ = some (.int .i64 0) := bc BK433 0; have hcz26_1 : w23.cell? ⟨gb433, 1, none⟩ = some (.int .i64 0) := bc BK433 1; have hcz26_2 : w23.cell? ⟨gb433, 2, none⟩ = some (.bool false) := bc BK433 2; have hfz26_0 := blk_frozen BK433.out 0; have hfz26_1 := blk_frozen BK433.out 1; have hfz26_2 := blk_frozen BK433.out 2))
    refine bodyPost_ret (results_cell_row rfl _ _ gb433 25 #[.int .i64 t436, .int .i64 t437, .bool t438] (0, 0) _ rfl (by (with_reducible repeat (first | refine blk_drewN ?_ _ | refine blk_drew ?_ | refine blk_alloc ?_ _)); refine blk_put (cs := #[.int .i64 t436, .int .i64 t437, .bool false]) ?_ 2 _ rfl; (with_reducible repeat (first | refine blk_drewN ?_ _ | refine blk_drew ?_ | refine blk_alloc ?_ _)); refine blk_put (cs := #[.int .i64 t436, .int .i64 0, .bool false]) ?_ 1 _ rfl; (with_reducible repeat (first | refine blk_drewN ?_ _ | refine blk_drew ?_ | refine blk_alloc ?_ _)); refine blk_put (cs := #[.int .i64 0, .int .i64 0, .bool false]) ?_ 0 _ rfl; (with_reducible repeat (first | refine blk_drewN ?_ _ | refine blk_drew ?_ | refine blk_alloc ?_ _)); exact BK433.out) Try.underlying25 rfl (by kernel_rfl)) rfl ?_
    exact ⟨by first | rfl | (simp [errW_none, errW_some] <;> rfl) | (simp [*, errW_none, errW_some] <;> rfl), bZ HB⟩
   ·replace c21 := Bool.eq_false_iff.mpr c21
    subst c21
    have H1 : ((spec_l07Add.f kj2 a0_0 a0_1 a0_2 a1_0 a1_1 a1_2).bind fun bt439 => (some (bt439.1, bt439.2.1, bt439.2.2))) = some (r1, r2, r3) := by rw [if_neg (show ¬ (false = true) by decide)] at H; exact H
    clear H
    have H := H1
    clear H1
    replace H := Option.bind_eq_some_iff.mp H
    obtain ⟨⟨t439, t440, t441⟩, A270, H⟩ := H
    replace H : (some (t439, t440, t441)) = some (r1, r2, r3) := H
    have A27 := Aside0.mk A270
    clear A270
    simp only [Option.some.injEq, Prod.mk.injEq] at H
    obtain ⟨rfl, rfl, rfl⟩ := H
    have hnb28 := NB431_432.out
    have hnc28 := NB432_431.out
    have hnb29 := NB431_433.out
    have hnc29 := NB433_431.out
    have hcz30_0 : wc.cell? ⟨gb431, 0, none⟩ = some (.int .i64 a0_0) := bc BK431 0
    have hcz30_1 : wc.cell? ⟨gb431, 1, none⟩ = some (.int .i64 a0_1) := bc BK431 1
    have hcz30_2 : wc.cell? ⟨gb431, 2, none⟩ = some (.bool a0_2) := bc BK431 2
    have hfz30_0 := blk_frozen BK431.out 0
    have hfz30_1 := blk_frozen BK431.out 1
    have hfz30_2 := blk_frozen BK431.out 2
    have hnb31 := NB432_433.out
    have hnc31 := NB433_432.out
    have hcz32_0 : wc.cell? ⟨gb432, 0, none⟩ = some (.int .i64 a1_0) := bc BK432 0
    have hcz32_1 : wc.cell? ⟨gb432, 1, none⟩ = some (.int .i64 a1_1) := bc BK432 1
    have hcz32_2 : wc.cell? ⟨gb432, 2, none⟩ = some (.bool a1_2) := bc BK432 2
    have hfz32_0 := blk_frozen BK432.out 0
    have hfz32_1 := blk_frozen BK432.out 1
    have hfz32_2 := blk_frozen BK432.out 2
    go_wp2_with (first | ((with_reducible refine gate_callee (f := 80) rfl ?_); refine goesL_ (some 16) rfl rfl Try.func80 (by kernel_rfl) rfl #[.agg #[.int .i64 a0_0, .int .i64 a0_1, .bool a0_2], .agg #[.int .i64 a1_0, .int .i64 a1_1, .bool a1_2]] rfl (by (try simp only [List.map_toArray, List.map_cons, List.map_nil]); first | done | rfl | (simp only [List.length_drop, List.length_take]; rfl)) ?_; (with_reducible refine (spec_l07Add.calls kj2 a0_0 a0_1 a0_2 a1_0 a1_1 a1_2 t439 t440 t441 _ A27.out).mono ?_); rintro e w33 ⟨rfl, hb⟩; refine ⟨_, rfl, ?_⟩; replace BK431 := bB BK431 hb; replace BK432 := bB BK432 hb; replace BK433 := bB BK433 hb; replace HB := bS HB hb; (try clear hb); (try clear hb2); (try clear hk); (try clear hi); have hcz34_0 : w33.cell? ⟨gb433, 0, none⟩ = some (.int .i64 0) := bc BK433 0; have hcz34_1 : w33.cell? ⟨gb433, 1, none⟩ = some (.int .i64 0) := bc BK433 1; have hcz34_2 : w33.cell? ⟨gb433, 2, none⟩ = some (.bool false) := bc BK433 2; have hfz34_0 := blk_frozen BK433.out 0; have hfz34_1 := blk_frozen BK433.out 1; have hfz34_2 := blk_frozen BK433.out 2))
    refine bodyPost_ret (results_cell_row rfl _ _ gb433 25 #[.int .i64 t439, .int .i64 t440, .bool t441] (0, 0) _ rfl (by (with_reducible repeat (first | refine blk_drewN ?_ _ | refine blk_drew ?_ | refine blk_alloc ?_ _)); refine blk_put (cs := #[.int .i64 t439, .int .i64 t440, .bool false]) ?_ 2 _ rfl; (with_reducible repeat (first | refine blk_drewN ?_ _ | refine blk_drew ?_ | refine blk_alloc ?_ _)); refine blk_put (cs := #[.int .i64 t439, .int .i64 0, .bool false]) ?_ 1 _ rfl; (with_reducible repeat (first | refine blk_drewN ?_ _ | refine blk_drew ?_ | refine blk_alloc ?_ _)); refine blk_put (cs := #[.int .i64 0, .int .i64 0, .bool false]) ?_ 0 _ rfl; (with_reducible repeat (first | refine blk_drewN ?_ _ | refine blk_drew ?_ | refine blk_alloc ?_ _)); exact BK433.out) Try.underlying25 rfl (by kernel_rfl)) rfl ?_
    exact ⟨by first | rfl | (simp [errW_none, errW_some] <;> rfl) | (simp [*, errW_none, errW_some] <;> rfl), bZ HB⟩
/-! ### spec_Miller: function 39 -/
def spec_Miller.l0 : Nat → Int → Int → Int → Bool → Int → Int → Bool → Int → Int → Int → Int → Bool → Option (Int × Int)
 | 0, _, _, _, _, _, _, _, _, _, _, _, _ => none
 | k + 1, x7, x452000, x452001, x452002, x453000, x453001, x453002, x455000, x455001, x456000, x456001, x456002 => if x7 ≥ 0 then ((spec_TwoMul.f x455000 x455001 x455000 x455001).bind fun bt456 => ((spec_PairLine.f k x456000 x456001 x456002 x456000 x456001 x456002 x453000 x453001 x453002).bind fun bt458 => ((spec_TwoMul.f bt456.1 bt456.2 bt458.1 bt458.2).bind fun bt460 => ((spec_PointAdd.f k x456000 x456001 x456002 x456000 x456001 x456002).bind fun bt462 => (if 0 ≤ (IntKind.u64.wrap (x7)) then (if ((shr .i64 1009 (IntKind.u64.wrap (x7))) % 2) = 1 then ((spec_PairLine.f k bt462.1 bt462.2.1 bt462.2.2 x452000 x452001 x452002 x453000 x453001 x453002).bind fun bt465 => ((spec_TwoMul.f bt460.1 bt460.2 bt465.1 bt465.2).bind fun bt467 => ((spec_PointAdd.f k bt462.1 bt462.2.1 bt462.2.2 x452000 x452001 x452002).bind fun bt469 => (spec_Miller.l0 k (wrap64 (x7 - 1)) x452000 x452001 x452002 x453000 x453001 x453002 bt467.1 bt467.2 bt469.1 bt469.2.1 bt469.2.2)))) else (spec_Miller.l0 k (wrap64 (x7 - 1)) x452000 x452001 x452002 x453000 x453001 x453002 bt460.1 bt460.2 bt462.1 bt462.2.1 bt462.2.2)) else (none)))))) else (some (x455000, x455001))
def spec_Miller.f (k : Nat) (a0_0 : Int) (a0_1 : Int) (a0_2 : Bool) (a1_0 : Int) (a1_1 : Int) (a1_2 : Bool) : Option (Int × Int) := spec_Miller.l0 k 8 a0_0 a0_1 a0_2 a1_0 a1_1 a1_2 1 0 a0_0 a0_1 a0_2
theorem spec_Miller.mono_l : ∀ k, (∀ y0 y1 y2 y3 y4 y5 y6 y7 y8 y9 y10 y11, LeO (spec_Miller.l0 k y0 y1 y2 y3 y4 y5 y6 y7 y8 y9 y10 y11) (spec_Miller.l0 (k + 1) y0 y1 y2 y3 y4 y5 y6 y7 y8 y9 y10 y11))
 | 0 => fun _ _ _ _ _ _ _ _ _ _ _ _ r h => by simp [spec_Miller.l0] at h
 | k + 1 => by
  have ih0 := spec_Miller.mono_l k
  ·intro y0 y1 y2 y3 y4 y5 y6 y7 y8 y9 y10 y11
   unfold spec_Miller.l0
   repeat' first
   | (with_reducible exact ih0 _ _ _ _ _ _ _ _ _ _ _ _)
   | (with_reducible exact spec_PairLine.mono _ _ _ _ _ _ _ _ _ _)
   | (with_reducible exact spec_PointAdd.mono _ _ _ _ _ _ _)
   | (with_reducible exact LeO.refl _)
   | (with_reducible exact LeO.none _)
   | (with_reducible refine LeO.ite ?_ ?_)
   | (with_reducible refine LeO.bind ?_ (fun _ => ?_))
   | exact ih0 _ _ _ _ _ _ _ _ _ _ _ _
   | exact spec_PairLine.mono _ _ _ _ _ _ _ _ _ _
   | exact spec_PointAdd.mono _ _ _ _ _ _ _
   | exact LeO.none _
   | refine LeO.ite ?_ ?_
   | refine LeO.bind ?_ (fun _ => ?_)
theorem spec_Miller.mono : ∀ a0 a1 a2 a3 a4 a5 k, LeO (spec_Miller.f k a0 a1 a2 a3 a4 a5) (spec_Miller.f (k + 1) a0 a1 a2 a3 a4 a5) := by
 intro a0 a1 a2 a3 a4 a5 k
 have ih0 := spec_Miller.mono_l k
 unfold spec_Miller.f
 repeat' first
   | (with_reducible exact ih0 _ _ _ _ _ _ _ _ _ _ _ _)
   | (with_reducible exact spec_PairLine.mono _ _ _ _ _ _ _ _ _ _)
   | (with_reducible exact spec_PointAdd.mono _ _ _ _ _ _ _)
   | (with_reducible exact LeO.refl _)
   | (with_reducible exact LeO.none _)
   | (with_reducible refine LeO.ite ?_ ?_)
   | (with_reducible refine LeO.bind ?_ (fun _ => ?_))
   | exact ih0 _ _ _ _ _ _ _ _ _ _ _ _
   | exact spec_PairLine.mono _ _ _ _ _ _ _ _ _ _
   | exact spec_PointAdd.mono _ _ _ _ _ _ _
   | exact LeO.none _
   | refine LeO.ite ?_ ?_
   | refine LeO.bind ?_ (fun _ => ?_)
def spec_Miller.T6 : Bool × List (List Nat × List Nat) := (true, [([], []), ([], []), ([0, 1], [0, 1]), ([], []), ([], []), ([], []), ([3, 4, 5, 2], [3, 4, 5]), ([2, 6, 6], [2, 6]), ([7, 7, 0, 1, 2, 3, 4, 5, 6, 7], [7])])
def spec_Miller.B6 : List Nat := [0, 0, 3, 0, 0, 0, 63, 127, 255]
theorem spec_Miller.tab6 : rtab .any (opsOf Try.f39 6) = spec_Miller.T6 := by kernel_rfl
theorem spec_Miller.bits6 : waitsOk spec_Miller.T6.2 spec_Miller.B6 = true := by kernel_rfl
set_option maxHeartbeats 8000000 in
set_option maxRecDepth 100000 in
theorem spec_Miller.calls (k : Nat) (a0_0 : Int) (a0_1 : Int) (a0_2 : Bool) (a1_0 : Int) (a1_1 : Int) (a1_2 : Bool) (r1 : Int) (r2 : Int) (w : World) (h : spec_Miller.f k a0_0 a0_1 a0_2 a1_0 a1_1 a1_2 = some (r1, r2)) :
  Calls Try.prog 39 #[.agg #[.int .i64 a0_0, .int .i64 a0_1, .bool a0_2], .agg #[.int .i64 a1_0, .int .i64 a1_1, .bool a1_2]] w fun e w' => e = .returned (.agg #[.int .i64 r1, .int .i64 r2]) ∧ Below w.heap.size w w' := by
 have hu25 := Try.underlying25
 have hu31 := Try.underlying31
 have HB := Aside0.mk (Below.refl w.heap.size w)
 have H : (spec_Miller.l0 k 8 a0_0 a0_1 a0_2 a1_0 a1_1 a1_2 1 0 a0_0 a0_1 a0_2) = some (r1, r2) := h
 clear h
 have H' := Aside0.mk H
 clear H
 go_enter Try.func39, Try.ntmps39
 go_wp2_with (first | ((with_reducible refine gate_dst (N := 2) rfl ?_); refine box_event ?hg (N := 2) ?hd (cs := #[.int .i64 a0_0, .int .i64 a0_1, .bool a0_2]) (t := 25) ?hr ?_; (case hd => rfl); (case hg => rfl); (case hr => first | (go_simp; done) | (go_simp; rfl)); intro gb451 hg w3 hbox hb; have BK451 := Aside0.mk (hbox); have GW451 := bG HB hg; have GE451 := bG HB hg; replace HB := bS HB hb; clear hb hbox hg) | ((with_reducible refine gate_dst (N := 3) rfl ?_); refine box_event ?hg (N := 3) ?hd (cs := #[.int .i64 a1_0, .int .i64 a1_1, .bool a1_2]) (t := 25) ?hr ?_; (case hd => rfl); (case hg => rfl); (case hr => first | (go_simp; done) | (go_simp; rfl)); intro gb452 hg w4 hbox hb; have BK452 := Aside0.mk (hbox); have GW452 := bG HB hg; have GE452 := bG HB hg; replace HB := bS HB hb; have NB451_452 := bL BK451 hg; have NB452_451 := bR BK451 hg; replace BK451 := bB BK451 hb; clear hb hbox hg) | ((with_reducible refine gate_dst (N := 4) rfl ?_); refine box_event ?hg (N := 4) ?hd (cs := #[.int .i64 0, .int .i64 0]) (t := 31) ?hr ?_; (case hd => rfl); (case hg => rfl); (case hr => first | (go_simp; done) | (go_simp; rfl)); intro gb453 hg w5 hbox hb; have BK453 := Aside0.mk (hbox); have GW453 := bG HB hg; have GE453 := bG HB hg; replace HB := bS HB hb; have NB451_453 := bL BK451 hg; have NB453_451 := bR BK451 hg; replace BK451 := bB BK451 hb; have NB452_453 := bL BK452 hg; have NB453_452 := bR BK452 hg; replace BK452 := bB BK452 hb; clear hb hbox hg) | ((with_reducible refine gate_dst (N := 5) rfl ?_); refine box_event ?hg (N := 5) ?hd (cs := #[.int .i64 0, .int .i64 0]) (t := 31) ?hr ?_; (case hd => rfl); (case hg => rfl); (case hr => first | (go_simp; done) | (go_simp; rfl)); intro gb454 hg w6 hbox hb; have BK454 := Aside0.mk (hbox); have GW454 := bG HB hg; have GE454 := bG HB hg; replace HB := bS HB hb; have NB451_454 := bL BK451 hg; have NB454_451 := bR BK451 hg; replace BK451 := bB BK451 hb; have NB452_454 := bL BK452 hg; have NB454_452 := bR BK452 hg; replace BK452 := bB BK452 hb; have NB453_454 := bL BK453 hg; have NB454_453 := bR BK453 hg; replace BK453 := bB BK453 hb; clear hb hbox hg; have hnb7 := NB454_451.out; have hnc7 := NB451_454.out; have hnb8 := NB454_452.out; have hnc8 := NB452_454.out; have hnb9 := NB454_453.out; have hnc9 := NB453_454.out; have hcz10_0 : w6.cell? ⟨gb454, 0, none⟩ = some (.int .i64 0) := bc BK454 0; have hcz10_1 : w6.cell? ⟨gb454, 1, none⟩ = some (.int .i64 0) := bc BK454 1; have hfz10_0 := blk_frozen BK454.out 0; have hfz10_1 := blk_frozen BK454.out 1; have hnb11 := NB451_452.out; have hnc11 := NB452_451.out; have hnb12 := NB451_453.out; have hnc12 := NB453_451.out; have hcz13_0 : w6.cell? ⟨gb451, 0, none⟩ = some (.int .i64 a0_0) := bc BK451 0; have hcz13_1 : w6.cell? ⟨gb451, 1, none⟩ = some (.int .i64 a0_1) := bc BK451 1; have hcz13_2 : w6.cell? ⟨gb451, 2, none⟩ = some (.bool a0_2) := bc BK451 2; have hfz13_0 := blk_frozen BK451.out 0; have hfz13_1 := blk_frozen BK451.out 1; have hfz13_2 := blk_frozen BK451.out 2) | ((with_reducible refine gate_dst (N := 6) rfl ?_); refine box_event ?hg (N := 6) ?hd (cs := #[.int .i64 0, .int .i64 0, .bool false]) (t := 25) ?hr ?_; (case hd => rfl); (case hg => rfl); (case hr => first | (go_simp; done) | (go_simp; rfl)); intro gb455 hg w14 hbox hb; have BK455 := Aside0.mk (hbox); have GW455 := bG HB hg; have GE455 := bG HB hg; replace HB := bS HB hb; have NB451_455 := bL BK451 hg; have NB455_451 := bR BK451 hg; replace BK451 := bB BK451 hb; have NB452_455 := bL BK452 hg; have NB455_452 := bR BK452 hg; replace BK452 := bB BK452 hb; have NB453_455 := bL BK453 hg; have NB455_453 := bR BK453 hg; replace BK453 := bB BK453 hb; have NB454_455 := Aside0.mk ((by rw [hg]; exact Nat.ne_of_lt (blk_lt (g := gb454) (o := .cells #[.int .i64 1, .int .i64 0] 31 (0, 0)) (by (with_reducible repeat (first | refine blk_drewN ?_ _ | refine blk_drew ?_ | refine blk_alloc ?_ _)); refine blk_put (cs := #[.int .i64 1, .int .i64 0]) ?_ 1 _ rfl; (with_reducible repeat (first | refine blk_drewN ?_ _ | refine blk_drew ?_ | refine blk_alloc ?_ _)); refine blk_put (cs := #[.int .i64 0, .int .i64 0]) ?_ 0 _ rfl; (with_reducible repeat (first | refine blk_drewN ?_ _ | refine blk_drew ?_ | refine blk_alloc ?_ _)); exact BK454.out)) : gb454 ≠ gb455)); have NB455_454 := Aside0.mk ((by rw [hg]; exact Nat.ne_of_gt (blk_lt (g := gb454) (o := .cells #[.int .i64 1, .int .i64 0] 31 (0, 0)) (by (with_reducible repeat (first | refine blk_drewN ?_ _ | refine blk_drew ?_ | refine blk_alloc ?_ _)); refine blk_put (cs := #[.int .i64 1, .int .i64 0]) ?_ 1 _ rfl; (with_reducible repeat (first | refine blk_drewN ?_ _ | refine blk_drew ?_ | refine blk_alloc ?_ _)); refine blk_put (cs := #[.int .i64 0, .int .i64 0]) ?_ 0 _ rfl; (with_reducible repeat (first | refine blk_drewN ?_ _ | refine blk_drew ?_ | refine blk_alloc ?_ _)); exact BK454.out)) : gb455 ≠ gb454)); replace BK454 := Aside0.mk (blk_below (g := gb454) (o := .cells #[.int .i64 1, .int .i64 0] 31 (0, 0)) (by (with_reducible repeat (first | refine blk_drewN ?_ _ | refine blk_drew ?_ | refine blk_alloc ?_ _)); refine blk_put (cs := #[.int .i64 1, .int .i64 0]) ?_ 1 _ rfl; (with_reducible repeat (first | refine blk_drewN ?_ _ | refine blk_drew ?_ | refine blk_alloc ?_ _)); refine blk_put (cs := #[.int .i64 0, .int .i64 0]) ?_ 0 _ rfl; (with_reducible repeat (first | refine blk_drewN ?_ _ | refine blk_drew ?_ | refine blk_alloc ?_ _)); exact BK454.out) hb); clear hb hbox hg; have hnb15 := NB455_451.out; have hnc15 := NB451_455.out; have hnb16 := NB455_452.out; have hnc16 := NB452_455.out; have hnb17 := NB455_453.out; have hnc17 := NB453_455.out; have hnb18 := NB455_454.out; have hnc18 := NB454_455.out; have hcz19_0 : w14.cell? ⟨gb455, 0, none⟩ = some (.int .i64 0) := bc BK455 0; have hcz19_1 : w14.cell? ⟨gb455, 1, none⟩ = some (.int .i64 0) := bc BK455 1; have hcz19_2 : w14.cell? ⟨gb455, 2, none⟩ = some (.bool false) := bc BK455 2; have hfz19_0 := blk_frozen BK455.out 0; have hfz19_1 := blk_frozen BK455.out 1; have hfz19_2 := blk_frozen BK455.out 2))
 go_loopg [7] k (fun kq v7 w' => ∃ (x7_1 : Int) (x455000_1 : Int) (x455001_1 : Int) (x456000_1 : Int) (x456001_1 : Int) (x456002_1 : Bool), v7 = .int .i64 x7_1 ∧ Aside0 (spec_Miller.l0 kq x7_1 a0_0 a0_1 a0_2 a1_0 a1_1 a1_2 x455000_1 x455001_1 x456000_1 x456001_1 x456002_1 = some (r1, r2)) ∧ Aside0 (kq ≤ k) ∧ Aside0 (w'.heap[gb451]? = some (.cells #[.int .i64 a0_0, .int .i64 a0_1, .bool a0_2] 25 (0, 0))) ∧ Aside0 (w'.heap[gb452]? = some (.cells #[.int .i64 a1_0, .int .i64 a1_1, .bool a1_2] 25 (0, 0))) ∧ Aside0 (w'.heap[gb453]? = some (.cells #[.int .i64 0, .int .i64 0] 31 (0, 0))) ∧ Aside0 (w'.heap[gb454]? = some (.cells #[.int .i64 x455000_1, .int .i64 x455001_1] 31 (0, 0))) ∧ Aside0 (w'.heap[gb455]? = some (.cells #[.int .i64 x456000_1, .int .i64 x456001_1, .bool x456002_1] 25 (0, 0))) ∧ Aside0 (Below w.heap.size w w'))
 case atStart => exact ⟨(8), (1), (0), (a0_0), (a0_1), (a0_2), (by first | rfl | (simp; done) | (simp [*]; done)), H', ⟨Nat.le_refl _⟩, ⟨bP BK451⟩, ⟨bP BK452⟩, ⟨bP BK453⟩, ⟨bP BK454⟩, ⟨by (with_reducible repeat (first | refine blk_drewN ?_ _ | refine blk_drew ?_ | refine blk_alloc ?_ _)); refine blk_put (cs := #[.int .i64 a0_0, .int .i64 a0_1, .bool false]) ?_ 2 _ rfl; (with_reducible repeat (first | refine blk_drewN ?_ _ | refine blk_drew ?_ | refine blk_alloc ?_ _)); refine blk_put (cs := #[.int .i64 a0_0, .int .i64 0, .bool false]) ?_ 1 _ rfl; (with_reducible repeat (first | refine blk_drewN ?_ _ | refine blk_drew ?_ | refine blk_alloc ?_ _)); refine blk_put (cs := #[.int .i64 0, .int .i64 0, .bool false]) ?_ 0 _ rfl; (with_reducible repeat (first | refine blk_drewN ?_ _ | refine blk_drew ?_ | refine blk_alloc ?_ _)); exact BK455.out⟩, ⟨bZ HB⟩⟩
 case round =>
  clear H'
  try clear c1
  try clear p2
  try clear c3
  try clear c7
  try clear c8
  try clear c9
  try clear c11
  try clear c12
  try clear c15
  try clear c16
  try clear c17
  try clear c18
  try clear hcz10_0
  try clear hcz10_1
  try clear hcz13_0
  try clear hcz13_1
  try clear hcz13_2
  try clear hcz19_0
  try clear hcz19_1
  try clear hcz19_2
  try clear hfz10_0
  try clear hfz10_1
  try clear hfz13_0
  try clear hfz13_1
  try clear hfz13_2
  try clear hfz19_0
  try clear hfz19_1
  try clear hfz19_2
  obtain ⟨x7_1, x455000_1, x455001_1, x456000_1, x456001_1, x456002_1, rfl, HA, HK1, BK451, BK452, BK453, BK454, BK455, HB⟩ := hrel
  cases gk with
  | zero => exact absurd HA.out (by simp [spec_Miller.l0])
  | succ k1 =>
   have H := HA.out
   clear HA
   simp only [spec_Miller.l0] at H
   by_cases c20 : x7_1 ≥ 0
   ·rw [if_pos c20] at H
    have c20b0 : decide (0 ≤ x7_1) = true := decide_eq_true c20
    clear c20
    replace H := Option.bind_eq_some_iff.mp H
    obtain ⟨⟨t456, t457⟩, A210, H⟩ := H
    replace H : ((spec_PairLine.f k1 x456000_1 x456001_1 x456002_1 x456000_1 x456001_1 x456002_1 a1_0 a1_1 a1_2).bind fun bt458 => ((spec_TwoMul.f t456 t457 bt458.1 bt458.2).bind fun bt460 => ((spec_PointAdd.f k1 x456000_1 x456001_1 x456002_1 x456000_1 x456001_1 x456002_1).bind fun bt462 => (if 0 ≤ (IntKind.u64.wrap (x7_1)) then (if ((shr .i64 1009 (IntKind.u64.wrap (x7_1))) % 2) = 1 then ((spec_PairLine.f k1 bt462.1 bt462.2.1 bt462.2.2 a0_0 a0_1 a0_2 a1_0 a1_1 a1_2).bind fun bt465 => ((spec_TwoMul.f bt460.1 bt460.2 bt465.1 bt465.2).bind fun bt467 => ((spec_PointAdd.f k1 bt462.1 bt462.2.1 bt462.2.2 a0_0 a0_1 a0_2).bind fun bt469 => (spec_Miller.l0 k1 (wrap64 (x7_1 - 1)) a0_0 a0_1 a0_2 a1_0 a1_1 a1_2 bt467.1 bt467.2 bt469.1 bt469.2.1 bt469.2.2)))) else (spec_Miller.l0 k1 (wrap64 (x7_1 - 1)) a0_0 a0_1 a0_2 a1_0 a1_1 a1_2 bt460.1 bt460.2 bt462.1 bt462.2.1 bt462.2.2)) else (none))))) = some (r1, r2) := H
    have A21 := Aside0.mk A210
    clear A210
    replace H := Option.bind_eq_some_iff.mp H
    obtain ⟨⟨t458, t459⟩, A220, H⟩ := H
    replace H : ((spec_TwoMul.f t456 t457 t458 t459).bind fun bt460 => ((spec_PointAdd.f k1 x456000_1 x456001_1 x456002_1 x456000_1 x456001_1 x456002_1).bind fun bt462 => (if 0 ≤ (IntKind.u64.wrap (x7_1)) then (if ((shr .i64 1009 (IntKind.u64.wrap (x7_1))) % 2) = 1 then ((spec_PairLine.f k1 bt462.1 bt462.2.1 bt462.2.2 a0_0 a0_1 a0_2 a1_0 a1_1 a1_2).bind fun bt465 => ((spec_TwoMul.f bt460.1 bt460.2 bt465.1 bt465.2).bind fun bt467 => ((spec_PointAdd.f k1 bt462.1 bt462.2.1 bt462.2.2 a0_0 a0_1 a0_2).bind fun bt469 => (spec_Miller.l0 k1 (wrap64 (x7_1 - 1)) a0_0 a0_1 a0_2 a1_0 a1_1 a1_2 bt467.1 bt467.2 bt469.1 bt469.2.1 bt469.2.2)))) else (spec_Miller.l0 k1 (wrap64 (x7_1 - 1)) a0_0 a0_1 a0_2 a1_0 a1_1 a1_2 bt460.1 bt460.2 bt462.1 bt462.2.1 bt462.2.2)) else (none)))) = some (r1, r2) := H
    have A22 := Aside0.mk A220
    clear A220
    replace H := Option.bind_eq_some_iff.mp H
    obtain ⟨⟨t460, t461⟩, A230, H⟩ := H
    replace H : ((spec_PointAdd.f k1 x456000_1 x456001_1 x456002_1 x456000_1 x456001_1 x456002_1).bind fun bt462 => (if 0 ≤ (IntKind.u64.wrap (x7_1)) then (if ((shr .i64 1009 (IntKind.u64.wrap (x7_1))) % 2) = 1 then ((spec_PairLine.f k1 bt462.1 bt462.2.1 bt462.2.2 a0_0 a0_1 a0_2 a1_0 a1_1 a1_2).bind fun bt465 => ((spec_TwoMul.f t460 t461 bt465.1 bt465.2).bind fun bt467 => ((spec_PointAdd.f k1 bt462.1 bt462.2.1 bt462.2.2 a0_0 a0_1 a0_2).bind fun bt469 => (spec_Miller.l0 k1 (wrap64 (x7_1 - 1)) a0_0 a0_1 a0_2 a1_0 a1_1 a1_2 bt467.1 bt467.2 bt469.1 bt469.2.1 bt469.2.2)))) else (spec_Miller.l0 k1 (wrap64 (x7_1 - 1)) a0_0 a0_1 a0_2 a1_0 a1_1 a1_2 t460 t461 bt462.1 bt462.2.1 bt462.2.2)) else (none))) = some (r1, r2) := H
    have A23 := Aside0.mk A230
    clear A230
    replace H := Option.bind_eq_some_iff.mp H
    obtain ⟨⟨t462, t463, t464⟩, A240, H⟩ := H
    replace H : (if 0 ≤ (IntKind.u64.wrap (x7_1)) then (if ((shr .i64 1009 (IntKind.u64.wrap (x7_1))) % 2) = 1 then ((spec_PairLine.f k1 t462 t463 t464 a0_0 a0_1 a0_2 a1_0 a1_1 a1_2).bind fun bt465 => ((spec_TwoMul.f t460 t461 bt465.1 bt465.2).bind fun bt467 => ((spec_PointAdd.f k1 t462 t463 t464 a0_0 a0_1 a0_2).bind fun bt469 => (spec_Miller.l0 k1 (wrap64 (x7_1 - 1)) a0_0 a0_1 a0_2 a1_0 a1_1 a1_2 bt467.1 bt467.2 bt469.1 bt469.2.1 bt469.2.2)))) else (spec_Miller.l0 k1 (wrap64 (x7_1 - 1)) a0_0 a0_1 a0_2 a1_0 a1_1 a1_2 t460 t461 t462 t463 t464)) else (none)) = some (r1, r2) := H
    have A24 := Aside0.mk A240
    clear A240
    obtain ⟨ji25, hji25⟩ : ∃ j_ : Int, (IntKind.u64.wrap (x7_1)) = j_ := ⟨_, rfl⟩
    replace H : (if 0 ≤ (ji25) then (if ((shr .i64 1009 (ji25)) % 2) = 1 then ((spec_PairLine.f k1 t462 t463 t464 a0_0 a0_1 a0_2 a1_0 a1_1 a1_2).bind fun bt465 => ((spec_TwoMul.f t460 t461 bt465.1 bt465.2).bind fun bt467 => ((spec_PointAdd.f k1 t462 t463 t464 a0_0 a0_1 a0_2).bind fun bt469 => (spec_Miller.l0 k1 (wrap64 (x7_1 - 1)) a0_0 a0_1 a0_2 a1_0 a1_1 a1_2 bt467.1 bt467.2 bt469.1 bt469.2.1 bt469.2.2)))) else (spec_Miller.l0 k1 (wrap64 (x7_1 - 1)) a0_0 a0_1 a0_2 a1_0 a1_1 a1_2 t460 t461 t462 t463 t464)) else (none)) = some (r1, r2) := by first | (rw [hji25] at H; exact H) | (simp only [hji25] at H ⊢; exact H)
    (try rw [hji25] at A21)
    (try rw [hji25] at A22)
    (try rw [hji25] at A23)
    (try rw [hji25] at A24)
    by_cases c26 : 0 ≤ (ji25)
    ·rw [if_pos c26] at H
     have c26b0 := eq_true c26
     have c26b1 : decide (0 ≤ (ji25)) = true := decide_eq_true c26
     clear c26
     obtain ⟨ji27, hji27⟩ : ∃ j_ : Int, (shr .i64 1009 (ji25)) = j_ := ⟨_, rfl⟩
     replace H : (if ((ji27) % 2) = 1 then ((spec_PairLine.f k1 t462 t463 t464 a0_0 a0_1 a0_2 a1_0 a1_1 a1_2).bind fun bt465 => ((spec_TwoMul.f t460 t461 bt465.1 bt465.2).bind fun bt467 => ((spec_PointAdd.f k1 t462 t463 t464 a0_0 a0_1 a0_2).bind fun bt469 => (spec_Miller.l0 k1 (wrap64 (x7_1 - 1)) a0_0 a0_1 a0_2 a1_0 a1_1 a1_2 bt467.1 bt467.2 bt469.1 bt469.2.1 bt469.2.2)))) else (spec_Miller.l0 k1 (wrap64 (x7_1 - 1)) a0_0 a0_1 a0_2 a1_0 a1_1 a1_2 t460 t461 t462 t463 t464)) = some (r1, r2) := by first | (rw [hji27] at H; exact H) | (simp only [hji27] at H ⊢; exact H)
     (try rw [hji27] at A21)
     (try rw [hji27] at A22)
     (try rw [hji27] at A23)
     (try rw [hji27] at A24)
     have hji27_ : (1009 / 2 ^ min (ji25).toNat 64) = ji27 := hji27
     have hji27z : (ji25) ≤ 64 → (1009 / 2 ^ (ji25).toNat) = ji27 := shr_small hji27
     have hji27t : ∀ m_ : Int, Int.tmod ji27 m_ = ji27 % m_ := fun m_ => Int.tmod_eq_emod_of_nonneg (by rw [← hji27_]; exact Int.ediv_nonneg (by decide) (Int.le_of_lt (Int.pow_pos (by decide))))
     by_cases c28 : ((ji27) % 2) = 1
     ·rw [if_pos c28] at H
      have c28b0 : (((ji27) % 2) == 1) = true := beq_iff_eq.mpr c28
      have c28b1 : (((ji27) % 2) != 1) = false := bne_eq_false_iff_eq.mpr c28
      clear c28
      replace H := Option.bind_eq_some_iff.mp H
      obtain ⟨⟨t465, t466⟩, A290, H⟩ := H
      replace H : ((spec_TwoMul.f t460 t461 t465 t466).bind fun bt467 => ((spec_PointAdd.f k1 t462 t463 t464 a0_0 a0_1 a0_2).bind fun bt469 => (spec_Miller.l0 k1 (wrap64 (x7_1 - 1)) a0_0 a0_1 a0_2 a1_0 a1_1 a1_2 bt467.1 bt467.2 bt469.1 bt469.2.1 bt469.2.2))) = some (r1, r2) := H
      have A29 := Aside0.mk A290
      clear A290
      replace H := Option.bind_eq_some_iff.mp H
      obtain ⟨⟨t467, t468⟩, A300, H⟩ := H
      replace H : ((spec_PointAdd.f k1 t462 t463 t464 a0_0 a0_1 a0_2).bind fun bt469 => (spec_Miller.l0 k1 (wrap64 (x7_1 - 1)) a0_0 a0_1 a0_2 a1_0 a1_1 a1_2 t467 t468 bt469.1 bt469.2.1 bt469.2.2)) = some (r1, r2) := H
      have A30 := Aside0.mk A300
      clear A300
      replace H := Option.bind_eq_some_iff.mp H
      obtain ⟨⟨t469, t470, t471⟩, A310, H⟩ := H
      replace H : (spec_Miller.l0 k1 (wrap64 (x7_1 - 1)) a0_0 a0_1 a0_2 a1_0 a1_1 a1_2 t467 t468 t469 t470 t471) = some (r1, r2) := H
      have A31 := Aside0.mk A310
      clear A310
      have H' := Aside0.mk H
      clear H
      try go_wp2
      replace BK451 := Aside0.mk (blk_drew BK451.out)
      replace BK452 := Aside0.mk (blk_drew BK452.out)
      replace BK453 := Aside0.mk (blk_drew BK453.out)
      replace BK454 := Aside0.mk (blk_drew BK454.out)
      replace BK455 := Aside0.mk (blk_drew BK455.out)
      replace HB := Aside0.mk (below_drew1 HB.out)
      refine start_ (n := 9) (S := fun w' => w'.cell? ⟨gb454, 0, none⟩ = some (.int .i64 x455000_1) ∧ w'.cell? ⟨gb454, 1, none⟩ = some (.int .i64 x455001_1) ∧ w'.cell? ⟨gb455, 0, none⟩ = some (.int .i64 x456000_1) ∧ w'.cell? ⟨gb455, 1, none⟩ = some (.int .i64 x456001_1) ∧ w'.cell? ⟨gb455, 2, none⟩ = some (.bool x456002_1) ∧ w'.cell? ⟨gb452, 0, none⟩ = some (.int .i64 a1_0) ∧ w'.cell? ⟨gb452, 1, none⟩ = some (.int .i64 a1_1) ∧ w'.cell? ⟨gb452, 2, none⟩ = some (.bool a1_2)) (ds := [8]) #[false, false, false, false, false, false, false, false, false] (by kernel_rfl) rfl rfl ⟨bc BK454 0, bc BK454 1, bc BK455 0, bc BK455 1, bc BK455 2, bc BK452 0, bc BK452 1, bc BK452 2⟩ (fun hHeld => ?_); refine with_tabW spec_Miller.tab6 spec_Miller.bits6 (fun HT_ HW_ => ?_)
      generalize wr.drew = w32 at BK451 BK452 BK453 BK454 BK455 HB hHeld ⊢
      refine take_ (i := 0) (N := some 14) (v := ?_) (a' := ?_) #[true, false, false, false, false, false, false, false, false] rfl rfl (take_ofW HT_.out HW_.out (by kernel_rfl)) (fun _ _ _ h => h) (Or.inl ⟨by rfl, ?_⟩) hHeld ?_ ?_
      rotate_left
      ·rintro w' ⟨s0, s1, s2, s3, s4, s5, s6, s7⟩
       go_simp
       with_reducible rfl
      rotate_left
      ·simp only [Act.put, List.setIfInBounds_toArray, List.set_cons_zero, List.set_cons_succ, i64_w, i32_w]
       rfl
      refine take_ (i := 1) (N := some 15) (v := ?_) (a' := ?_) #[true, true, false, false, false, false, false, false, false] rfl rfl (take_ofW HT_.out HW_.out (by kernel_rfl)) (fun _ _ _ h => h) (Or.inl ⟨by rfl, ?_⟩) hHeld ?_ ?_
      rotate_left
      ·rintro w' ⟨s0, s1, s2, s3, s4, s5, s6, s7⟩
       go_simp
       with_reducible rfl
      rotate_left
      ·simp only [Act.put, List.setIfInBounds_toArray, List.set_cons_zero, List.set_cons_succ, i64_w, i32_w]
       rfl
      refine take_ (i := 3) (N := some 17) (v := ?_) (a' := ?_) #[true, true, false, true, false, false, false, false, false] rfl rfl (take_ofW HT_.out HW_.out (by kernel_rfl)) (fun _ _ _ h => h) (Or.inl ⟨by rfl, ?_⟩) hHeld ?_ ?_
      rotate_left
      ·rintro w' ⟨s0, s1, s2, s3, s4, s5, s6, s7⟩
       go_simp
       with_reducible rfl
      rotate_left
      ·simp only [Act.put, List.setIfInBounds_toArray, List.set_cons_zero, List.set_cons_succ, i64_w, i32_w]
       rfl
      refine take_ (i := 4) (N := some 18) (v := ?_) (a' := ?_) #[true, true, false, true, true, false, false, false, false] rfl rfl (take_ofW HT_.out HW_.out (by kernel_rfl)) (fun _ _ _ h => h) (Or.inl ⟨by rfl, ?_⟩) hHeld ?_ ?_
      rotate_left
      ·rintro w' ⟨s0, s1, s2, s3, s4, s5, s6, s7⟩
       go_simp
       with_reducible rfl
      rotate_left
      ·simp only [Act.put, List.setIfInBounds_toArray, List.set_cons_zero, List.set_cons_succ, i64_w, i32_w]
       rfl
      refine take_ (i := 5) (N := some 19) (v := ?_) (a' := ?_) #[true, true, false, true, true, true, false, false, false] rfl rfl (take_ofW HT_.out HW_.out (by kernel_rfl)) (fun _ _ _ h => h) (Or.inl ⟨by rfl, ?_⟩) hHeld ?_ ?_
      rotate_left
      ·rintro w' ⟨s0, s1, s2, s3, s4, s5, s6, s7⟩
       go_simp
       with_reducible rfl
      rotate_left
      ·simp only [Act.put, List.setIfInBounds_toArray, List.set_cons_zero, List.set_cons_succ, i64_w, i32_w]
       rfl
      refine one_ (i := 2) (N := some 16) #[true, true, true, true, true, true, false, false, false] rfl rfl (one_of HT_.out (by kernel_rfl)) (by decide) (fun K hK => ?_)
      refine goes_ Try.func71 (by kernel_rfl) rfl #[.agg #[.int .i64 x455000_1, .int .i64 x455001_1], .agg #[.int .i64 x455000_1, .int .i64 x455001_1]] (by rfl) rfl rfl (by (try simp only [List.map_toArray, List.map_cons, List.map_nil]); first | done | rfl | (simp only [List.length_drop, List.length_take]; rfl)) ?_
      with_reducible refine (spec_TwoMul.calls x455000_1 x455001_1 x455000_1 x455001_1 t456 t457 _ A21.out).mono ?_
      rintro e w33 ⟨rfl, hb⟩
      refine ⟨_, rfl, ?_⟩
      replace BK451 := bB BK451 hb
      replace BK452 := bB BK452 hb
      replace BK453 := bB BK453 hb
      replace BK454 := bB BK454 hb
      replace BK455 := bB BK455 hb
      replace HB := bS HB hb
      (try clear hb)
      (try clear hb2)
      (try clear hk)
      (try clear hi)
      refine hK.out _ _ ⟨bc BK454 0, bc BK454 1, bc BK455 0, bc BK455 1, bc BK455 2, bc BK452 0, bc BK452 1, bc BK452 2⟩ (fun hHeld => ?_)
      clear hK K
      refine norm_ (a' := ?_) ?_ ?_
      rotate_left
      ·show Act.put _ (some 16) _ = _
       simp only [Act.put, List.setIfInBounds_toArray, List.set_cons_zero, List.set_cons_succ, i64_w, i32_w]
       rfl
      refine one_ (i := 6) (N := some 20) #[true, true, true, true, true, true, true, false, false] rfl rfl (one_of HT_.out (by kernel_rfl)) (by decide) (fun K hK => ?_)
      refine goes_ Try.func23 (by kernel_rfl) rfl #[.agg #[.int .i64 x456000_1, .int .i64 x456001_1, .bool x456002_1], .agg #[.int .i64 x456000_1, .int .i64 x456001_1, .bool x456002_1], .agg #[.int .i64 a1_0, .int .i64 a1_1, .bool a1_2]] (by rfl) rfl rfl (by (try simp only [List.map_toArray, List.map_cons, List.map_nil]); first | done | rfl | (simp only [List.length_drop, List.length_take]; rfl)) ?_
      with_reducible refine (spec_PairLine.calls k1 x456000_1 x456001_1 x456002_1 x456000_1 x456001_1 x456002_1 a1_0 a1_1 a1_2 t458 t459 _ A22.out).mono ?_
      rintro e w34 ⟨rfl, hb⟩
      refine ⟨_, rfl, ?_⟩
      replace BK451 := bB BK451 hb
      replace BK452 := bB BK452 hb
      replace BK453 := bB BK453 hb
      replace BK454 := bB BK454 hb
      replace BK455 := bB BK455 hb
      replace HB := bS HB hb
      (try clear hb)
      (try clear hb2)
      (try clear hk)
      (try clear hi)
      refine hK.out _ _ ⟨bc BK454 0, bc BK454 1, bc BK455 0, bc BK455 1, bc BK455 2, bc BK452 0, bc BK452 1, bc BK452 2⟩ (fun hHeld => ?_)
      clear hK K
      refine norm_ (a' := ?_) ?_ ?_
      rotate_left
      ·show Act.put _ (some 20) _ = _
       simp only [Act.put, List.setIfInBounds_toArray, List.set_cons_zero, List.set_cons_succ, i64_w, i32_w]
       rfl
      refine one_ (i := 7) (N := some 21) #[true, true, true, true, true, true, true, true, false] rfl rfl (one_of HT_.out (by kernel_rfl)) (by decide) (fun K hK => ?_)
      refine goes_ Try.func71 (by kernel_rfl) rfl #[.agg #[.int .i64 t456, .int .i64 t457], .agg #[.int .i64 t458, .int .i64 t459]] (by rfl) rfl rfl (by (try simp only [List.map_toArray, List.map_cons, List.map_nil]); first | done | rfl | (simp only [List.length_drop, List.length_take]; rfl)) ?_
      with_reducible refine (spec_TwoMul.calls t456 t457 t458 t459 t460 t461 _ A23.out).mono ?_
      rintro e w35 ⟨rfl, hb⟩
      refine ⟨_, rfl, ?_⟩
      replace BK451 := bB BK451 hb
      replace BK452 := bB BK452 hb
      replace BK453 := bB BK453 hb
      replace BK454 := bB BK454 hb
      replace BK455 := bB BK455 hb
      replace HB := bS HB hb
      (try clear hb)
      (try clear hb2)
      (try clear hk)
      (try clear hi)
      refine hK.out _ _ ⟨bc BK454 0, bc BK454 1, bc BK455 0, bc BK455 1, bc BK455 2, bc BK452 0, bc BK452 1, bc BK452 2⟩ (fun hHeld => ?_)
      clear hK K
      refine norm_ (a' := ?_) ?_ ?_
      rotate_left
      ·show Act.put _ (some 21) _ = _
       simp only [Act.put, List.setIfInBounds_toArray, List.set_cons_zero, List.set_cons_succ, i64_w, i32_w]
       rfl
      refine last_ (i := 8) (N := none) #[true, true, true, true, true, true, true, true, true] rfl rfl (one_of HT_.out (by kernel_rfl)) (by decide) (fun K hK => ?_)
      have hs36 : w35.cell? ⟨gb454, 0, none⟩ = some (.int .i64 x455000_1) := bc BK454 0
      have hfs36 := blk_frozen BK454.out 0
      have hns36_0 := NB451_454.out
      have hns36_1 := NB452_454.out
      have hns36_2 := NB453_454.out
      have hns36_4 := NB455_454.out
      have hms36_0 := NB454_451.out
      have hms36_1 := NB454_452.out
      have hms36_2 := NB454_453.out
      have hms36_4 := NB454_455.out
      have hs37 : w35.cell? ⟨gb454, 1, none⟩ = some (.int .i64 x455001_1) := bc BK454 1
      have hfs37 := blk_frozen BK454.out 1
      have hns37_0 := NB451_454.out
      have hns37_1 := NB452_454.out
      have hns37_2 := NB453_454.out
      have hns37_4 := NB455_454.out
      have hms37_0 := NB454_451.out
      have hms37_1 := NB454_452.out
      have hms37_2 := NB454_453.out
      have hms37_4 := NB454_455.out
      refine skip_ (w1 := ?_) (by rfl) rfl ?_ ?_
      rotate_left
      ·go_simp
       rfl
      refine hK.out _ _ ?_
      clear hK K
      refine done_ (done_of HT_.out (by kernel_rfl)) ?_
      have hnb38 := NB455_451.out
      have hnc38 := NB451_455.out
      have hnb39 := NB455_452.out
      have hnc39 := NB452_455.out
      have hnb40 := NB455_453.out
      have hnc40 := NB453_455.out
      have hnb41 := NB455_454.out
      have hnc41 := NB454_455.out
      have hcz42_0 : w35.cell? ⟨gb455, 0, none⟩ = some (.int .i64 x456000_1) := bc BK455 0
      have hcz42_1 : w35.cell? ⟨gb455, 1, none⟩ = some (.int .i64 x456001_1) := bc BK455 1
      have hcz42_2 : w35.cell? ⟨gb455, 2, none⟩ = some (.bool x456002_1) := bc BK455 2
      have hfz42_0 := blk_frozen BK455.out 0
      have hfz42_1 := blk_frozen BK455.out 1
      have hfz42_2 := blk_frozen BK455.out 2
      try go_wp2_with (first | ((with_reducible refine gate_callee (f := 53) rfl ?_); refine goesL_ (some 24) rfl rfl Try.func53 (by kernel_rfl) rfl #[.agg #[.int .i64 x456000_1, .int .i64 x456001_1, .bool x456002_1], .agg #[.int .i64 x456000_1, .int .i64 x456001_1, .bool x456002_1]] rfl (by (try simp only [List.map_toArray, List.map_cons, List.map_nil]); first | done | rfl | (simp only [List.length_drop, List.length_take]; rfl)) ?_; (with_reducible refine (spec_PointAdd.calls k1 x456000_1 x456001_1 x456002_1 x456000_1 x456001_1 x456002_1 t462 t463 t464 _ A24.out).mono ?_); rintro e w43 ⟨rfl, hb⟩; refine ⟨_, rfl, ?_⟩; replace BK451 := bB BK451 hb; replace BK452 := bB BK452 hb; replace BK453 := bB BK453 hb; replace BK454 := Aside0.mk (blk_below (g := gb454) (o := .cells #[.int .i64 t460, .int .i64 t461] 31 (0, 0)) (by (with_reducible repeat (first | refine blk_drewN ?_ _ | refine blk_drew ?_ | refine blk_alloc ?_ _)); refine blk_put (cs := #[.int .i64 t460, .int .i64 x455001_1]) ?_ 1 _ rfl; (with_reducible repeat (first | refine blk_drewN ?_ _ | refine blk_drew ?_ | refine blk_alloc ?_ _)); refine blk_put (cs := #[.int .i64 x455000_1, .int .i64 x455001_1]) ?_ 0 _ rfl; (with_reducible repeat (first | refine blk_drewN ?_ _ | refine blk_drew ?_ | refine blk_alloc ?_ _)); exact BK454.out) hb); replace BK455 := bB BK455 hb; replace HB := bS HB hb; (try clear hb); (try clear hb2); (try clear hk); (try clear hi); have hcz44_0 : w43.cell? ⟨gb455, 0, none⟩ = some (.int .i64 x456000_1) := bc BK455 0; have hcz44_1 : w43.cell? ⟨gb455, 1, none⟩ = some (.int .i64 x456001_1) := bc BK455 1; have hcz44_2 : w43.cell? ⟨gb455, 2, none⟩ = some (.bool x456002_1) := bc BK455 2; have hfz44_0 := blk_frozen BK455.out 0; have hfz44_1 := blk_frozen BK455.out 1; have hfz44_2 := blk_frozen BK455.out 2))
      have n0_ : Aside0 ((((w43.setCell ⟨gb455, 0, none⟩ (.int .i64 t462)).setCell ⟨gb455, 1, none⟩ (.int .i64 t463)).setCell ⟨gb455, 2, none⟩ (.bool t464)).heap[gb451]? = some (.cells #[.int .i64 a0_0, .int .i64 a0_1, .bool a0_2] 25 (0, 0))) := ⟨bP BK451⟩
      have n1_ : Aside0 ((((w43.setCell ⟨gb455, 0, none⟩ (.int .i64 t462)).setCell ⟨gb455, 1, none⟩ (.int .i64 t463)).setCell ⟨gb455, 2, none⟩ (.bool t464)).heap[gb452]? = some (.cells #[.int .i64 a1_0, .int .i64 a1_1, .bool a1_2] 25 (0, 0))) := ⟨bP BK452⟩
      have n2_ : Aside0 ((((w43.setCell ⟨gb455, 0, none⟩ (.int .i64 t462)).setCell ⟨gb455, 1, none⟩ (.int .i64 t463)).setCell ⟨gb455, 2, none⟩ (.bool t464)).heap[gb453]? = some (.cells #[.int .i64 0, .int .i64 0] 31 (0, 0))) := ⟨bP BK453⟩
      have n3_ : Aside0 ((((w43.setCell ⟨gb455, 0, none⟩ (.int .i64 t462)).setCell ⟨gb455, 1, none⟩ (.int .i64 t463)).setCell ⟨gb455, 2, none⟩ (.bool t464)).heap[gb454]? = some (.cells #[.int .i64 t460, .int .i64 t461] 31 (0, 0))) := ⟨bP BK454⟩
      have n4_ : Aside0 ((((w43.setCell ⟨gb455, 0, none⟩ (.int .i64 t462)).setCell ⟨gb455, 1, none⟩ (.int .i64 t463)).setCell ⟨gb455, 2, none⟩ (.bool t464)).heap[gb455]? = some (.cells #[.int .i64 t462, .int .i64 t463, .bool t464] 25 (0, 0))) := ⟨by (with_reducible repeat (first | refine blk_drewN ?_ _ | refine blk_drew ?_ | refine blk_alloc ?_ _)); refine blk_put (cs := #[.int .i64 t462, .int .i64 t463, .bool x456002_1]) ?_ 2 _ rfl; (with_reducible repeat (first | refine blk_drewN ?_ _ | refine blk_drew ?_ | refine blk_alloc ?_ _)); refine blk_put (cs := #[.int .i64 t462, .int .i64 x456001_1, .bool x456002_1]) ?_ 1 _ rfl; (with_reducible repeat (first | refine blk_drewN ?_ _ | refine blk_drew ?_ | refine blk_alloc ?_ _)); refine blk_put (cs := #[.int .i64 x456000_1, .int .i64 x456001_1, .bool x456002_1]) ?_ 0 _ rfl; (with_reducible repeat (first | refine blk_drewN ?_ _ | refine blk_drew ?_ | refine blk_alloc ?_ _)); exact BK455.out⟩
      have n5_ : Aside0 (Below w.heap.size w (((w43.setCell ⟨gb455, 0, none⟩ (.int .i64 t462)).setCell ⟨gb455, 1, none⟩ (.int .i64 t463)).setCell ⟨gb455, 2, none⟩ (.bool t464))) := ⟨bZ HB⟩
      (try clear BK451)
      (try clear BK452)
      (try clear BK453)
      (try clear BK454)
      (try clear BK455)
      (try clear HB)
      generalize (((w43.setCell ⟨gb455, 0, none⟩ (.int .i64 t462)).setCell ⟨gb455, 1, none⟩ (.int .i64 t463)).setCell ⟨gb455, 2, none⟩ (.bool t464)) = w45 at n0_ n1_ n2_ n3_ n4_ n5_ ⊢
      have BK451 := n0_
      have BK452 := n1_
      have BK453 := n2_
      have BK454 := n3_
      have BK455 := n4_
      have HB := n5_
      clear n0_ n1_ n2_ n3_ n4_ n5_
      replace BK451 := Aside0.mk (blk_drew BK451.out)
      replace BK452 := Aside0.mk (blk_drew BK452.out)
      replace BK453 := Aside0.mk (blk_drew BK453.out)
      replace BK454 := Aside0.mk (blk_drew BK454.out)
      replace BK455 := Aside0.mk (blk_drew BK455.out)
      replace HB := Aside0.mk (below_drew1 HB.out)
      refine start_ (n := 7) (S := fun w' => w'.cell? ⟨gb454, 0, none⟩ = some (.int .i64 t460) ∧ w'.cell? ⟨gb454, 1, none⟩ = some (.int .i64 t461) ∧ w'.cell? ⟨gb455, 0, none⟩ = some (.int .i64 t462) ∧ w'.cell? ⟨gb455, 1, none⟩ = some (.int .i64 t463) ∧ w'.cell? ⟨gb455, 2, none⟩ = some (.bool t464) ∧ w'.cell? ⟨gb451, 0, none⟩ = some (.int .i64 a0_0) ∧ w'.cell? ⟨gb451, 1, none⟩ = some (.int .i64 a0_1) ∧ w'.cell? ⟨gb451, 2, none⟩ = some (.bool a0_2) ∧ w'.cell? ⟨gb452, 0, none⟩ = some (.int .i64 a1_0) ∧ w'.cell? ⟨gb452, 1, none⟩ = some (.int .i64 a1_1) ∧ w'.cell? ⟨gb452, 2, none⟩ = some (.bool a1_2)) (ds := [6]) #[false, false, false, false, false, false, false] (by kernel_rfl) rfl rfl ⟨bc BK454 0, bc BK454 1, bc BK455 0, bc BK455 1, bc BK455 2, bc BK451 0, bc BK451 1, bc BK451 2, bc BK452 0, bc BK452 1, bc BK452 2⟩ (fun hHeld => ?_)
      generalize w45.drew = w46 at BK451 BK452 BK453 BK454 BK455 HB hHeld ⊢
      refine take_ (i := 0) (N := some 30) (v := ?_) (a' := ?_) #[true, false, false, false, false, false, false] rfl rfl (by kernel_rfl) (fun _ _ _ h => h) (Or.inl ⟨by rfl, ?_⟩) hHeld ?_ ?_
      rotate_left
      ·rintro w' ⟨s0, s1, s2, s3, s4, s5, s6, s7, s8, s9, s10⟩
       go_simp
       with_reducible rfl
      rotate_left
      ·simp only [Act.put, List.setIfInBounds_toArray, List.set_cons_zero, List.set_cons_succ, i64_w, i32_w]
       rfl
      refine take_ (i := 1) (N := some 31) (v := ?_) (a' := ?_) #[true, true, false, false, false, false, false] rfl rfl (by kernel_rfl) (fun _ _ _ h => h) (Or.inl ⟨by rfl, ?_⟩) hHeld ?_ ?_
      rotate_left
      ·rintro w' ⟨s0, s1, s2, s3, s4, s5, s6, s7, s8, s9, s10⟩
       go_simp
       with_reducible rfl
      rotate_left
      ·simp only [Act.put, List.setIfInBounds_toArray, List.set_cons_zero, List.set_cons_succ, i64_w, i32_w]
       rfl
      refine take_ (i := 2) (N := some 32) (v := ?_) (a' := ?_) #[true, true, true, false, false, false, false] rfl rfl (by kernel_rfl) (fun _ _ _ h => h) (Or.inl ⟨by rfl, ?_⟩) hHeld ?_ ?_
      rotate_left
      ·rintro w' ⟨s0, s1, s2, s3, s4, s5, s6, s7, s8, s9, s10⟩
       go_simp
       with_reducible rfl
      rotate_left
      ·simp only [Act.put, List.setIfInBounds_toArray, List.set_cons_zero, List.set_cons_succ, i64_w, i32_w]
       rfl
      refine take_ (i := 3) (N := some 33) (v := ?_) (a' := ?_) #[true, true, true, true, false, false, false] rfl rfl (by kernel_rfl) (fun _ _ _ h => h) (Or.inl ⟨by rfl, ?_⟩) hHeld ?_ ?_
      rotate_left
      ·rintro w' ⟨s0, s1, s2, s3, s4, s5, s6, s7, s8, s9, s10⟩
       go_simp
       with_reducible rfl
      rotate_left
      ·simp only [Act.put, List.setIfInBounds_toArray, List.set_cons_zero, List.set_cons_succ, i64_w, i32_w]
       rfl
      refine one_ (i := 4) (N := some 34) #[true, true, true, true, true, false, false] rfl rfl (by kernel_rfl) (by decide) (fun K hK => ?_)
      refine goes_ Try.func23 (by kernel_rfl) rfl #[.agg #[.int .i64 t462, .int .i64 t463, .bool t464], .agg #[.int .i64 a0_0, .int .i64 a0_1, .bool a0_2], .agg #[.int .i64 a1_0, .int .i64 a1_1, .bool a1_2]] (by rfl) rfl rfl (by (try simp only [List.map_toArray, List.map_cons, List.map_nil]); first | done | rfl | (simp only [List.length_drop, List.length_take]; rfl)) ?_
      with_reducible refine (spec_PairLine.calls k1 t462 t463 t464 a0_0 a0_1 a0_2 a1_0 a1_1 a1_2 t465 t466 _ A29.out).mono ?_
      rintro e w47 ⟨rfl, hb⟩
      refine ⟨_, rfl, ?_⟩
      replace BK451 := bB BK451 hb
      replace BK452 := bB BK452 hb
      replace BK453 := bB BK453 hb
      replace BK454 := bB BK454 hb
      replace BK455 := bB BK455 hb
      replace HB := bS HB hb
      (try clear hb)
      (try clear hb2)
      (try clear hk)
      (try clear hi)
      refine hK.out _ _ ⟨bc BK454 0, bc BK454 1, bc BK455 0, bc BK455 1, bc BK455 2, bc BK451 0, bc BK451 1, bc BK451 2, bc BK452 0, bc BK452 1, bc BK452 2⟩ (fun hHeld => ?_)
      clear hK K
      refine norm_ (a' := ?_) ?_ ?_
      rotate_left
      ·show Act.put _ (some 34) _ = _
       simp only [Act.put, List.setIfInBounds_toArray, List.set_cons_zero, List.set_cons_succ, i64_w, i32_w]
       rfl
      refine one_ (i := 5) (N := some 35) #[true, true, true, true, true, true, false] rfl rfl (by kernel_rfl) (by decide) (fun K hK => ?_)
      refine goes_ Try.func71 (by kernel_rfl) rfl #[.agg #[.int .i64 t460, .int .i64 t461], .agg #[.int .i64 t465, .int .i64 t466]] (by rfl) rfl rfl (by (try simp only [List.map_toArray, List.map_cons, List.map_nil]); first | done | rfl | (simp only [List.length_drop, List.length_take]; rfl)) ?_
      with_reducible refine (spec_TwoMul.calls t460 t461 t465 t466 t467 t468 _ A30.out).mono ?_
      rintro e w48 ⟨rfl, hb⟩
      refine ⟨_, rfl, ?_⟩
      replace BK451 := bB BK451 hb
      replace BK452 := bB BK452 hb
      replace BK453 := bB BK453 hb
      replace BK454 := bB BK454 hb
      replace BK455 := bB BK455 hb
      replace HB := bS HB hb
      (try clear hb)
      (try clear hb2)
      (try clear hk)
      (try clear hi)
      refine hK.out _ _ ⟨bc BK454 0, bc BK454 1, bc BK455 0, bc BK455 1, bc BK455 2, bc BK451 0, bc BK451 1, bc BK451 2, bc BK452 0, bc BK452 1, bc BK452 2⟩ (fun hHeld => ?_)
      clear hK K
      refine norm_ (a' := ?_) ?_ ?_
      rotate_left
      ·show Act.put _ (some 35) _ = _
       simp only [Act.put, List.setIfInBounds_toArray, List.set_cons_zero, List.set_cons_succ, i64_w, i32_w]
       rfl
      refine last_ (i := 6) (N := none) #[true, true, true, true, true, true, true] rfl rfl (by kernel_rfl) (by decide) (fun K hK => ?_)
      have hs49 : w48.cell? ⟨gb454, 0, none⟩ = some (.int .i64 t460) := bc BK454 0
      have hfs49 := blk_frozen BK454.out 0
      have hns49_0 := NB451_454.out
      have hns49_1 := NB452_454.out
      have hns49_2 := NB453_454.out
      have hns49_4 := NB455_454.out
      have hms49_0 := NB454_451.out
      have hms49_1 := NB454_452.out
      have hms49_2 := NB454_453.out
      have hms49_4 := NB454_455.out
      have hs50 : w48.cell? ⟨gb454, 1, none⟩ = some (.int .i64 t461) := bc BK454 1
      have hfs50 := blk_frozen BK454.out 1
      have hns50_0 := NB451_454.out
      have hns50_1 := NB452_454.out
      have hns50_2 := NB453_454.out
      have hns50_4 := NB455_454.out
      have hms50_0 := NB454_451.out
      have hms50_1 := NB454_452.out
      have hms50_2 := NB454_453.out
      have hms50_4 := NB454_455.out
      refine skip_ (w1 := ?_) (by rfl) rfl ?_ ?_
      rotate_left
      ·go_simp
       rfl
      refine hK.out _ _ ?_
      clear hK K
      refine done_ (by kernel_rfl) ?_
      have hcz51_0 : w48.cell? ⟨gb455, 0, none⟩ = some (.int .i64 t462) := bc BK455 0
      have hcz51_1 : w48.cell? ⟨gb455, 1, none⟩ = some (.int .i64 t463) := bc BK455 1
      have hcz51_2 : w48.cell? ⟨gb455, 2, none⟩ = some (.bool t464) := bc BK455 2
      have hfz51_0 := blk_frozen BK455.out 0
      have hfz51_1 := blk_frozen BK455.out 1
      have hfz51_2 := blk_frozen BK455.out 2
      have hnb52 := NB451_452.out
      have hnc52 := NB452_451.out
      have hnb53 := NB451_453.out
      have hnc53 := NB453_451.out
      have hnb54 := NB451_454.out
      have hnc54 := NB454_451.out
      have hcz55_0 : w48.cell? ⟨gb451, 0, none⟩ = some (.int .i64 a0_0) := bc BK451 0
      have hcz55_1 : w48.cell? ⟨gb451, 1, none⟩ = some (.int .i64 a0_1) := bc BK451 1
      have hcz55_2 : w48.cell? ⟨gb451, 2, none⟩ = some (.bool a0_2) := bc BK451 2
      have hfz55_0 := blk_frozen BK451.out 0
      have hfz55_1 := blk_frozen BK451.out 1
      have hfz55_2 := blk_frozen BK451.out 2
      try go_wp2_with (first | ((with_reducible refine gate_callee (f := 53) rfl ?_); refine goesL_ (some 38) rfl rfl Try.func53 (by kernel_rfl) rfl #[.agg #[.int .i64 t462, .int .i64 t463, .bool t464], .agg #[.int .i64 a0_0, .int .i64 a0_1, .bool a0_2]] rfl (by (try simp only [List.map_toArray, List.map_cons, List.map_nil]); first | done | rfl | (simp only [List.length_drop, List.length_take]; rfl)) ?_; (with_reducible refine (spec_PointAdd.calls k1 t462 t463 t464 a0_0 a0_1 a0_2 t469 t470 t471 _ A31.out).mono ?_); rintro e w56 ⟨rfl, hb⟩; refine ⟨_, rfl, ?_⟩; replace BK451 := bB BK451 hb; replace BK452 := bB BK452 hb; replace BK453 := bB BK453 hb; replace BK454 := Aside0.mk (blk_below (g := gb454) (o := .cells #[.int .i64 t467, .int .i64 t468] 31 (0, 0)) (by (with_reducible repeat (first | refine blk_drewN ?_ _ | refine blk_drew ?_ | refine blk_alloc ?_ _)); refine blk_put (cs := #[.int .i64 t467, .int .i64 t461]) ?_ 1 _ rfl; (with_reducible repeat (first | refine blk_drewN ?_ _ | refine blk_drew ?_ | refine blk_alloc ?_ _)); refine blk_put (cs := #[.int .i64 t460, .int .i64 t461]) ?_ 0 _ rfl; (with_reducible repeat (first | refine blk_drewN ?_ _ | refine blk_drew ?_ | refine blk_alloc ?_ _)); exact BK454.out) hb); replace BK455 := bB BK455 hb; replace HB := bS HB hb; (try clear hb); (try clear hb2); (try clear hk); (try clear hi); have hcz57_0 : w56.cell? ⟨gb455, 0, none⟩ = some (.int .i64 t462) := bc BK455 0; have hcz57_1 : w56.cell? ⟨gb455, 1, none⟩ = some (.int .i64 t463) := bc BK455 1; have hcz57_2 : w56.cell? ⟨gb455, 2, none⟩ = some (.bool t464) := bc BK455 2; have hfz57_0 := blk_frozen BK455.out 0; have hfz57_1 := blk_frozen BK455.out 1; have hfz57_2 := blk_frozen BK455.out 2))
      go_roundg k1
      case measure => have := HK1.out; omega
      case rel => exact ⟨(wrap64 (x7_1 - 1)), (t467), (t468), (t469), (t470), (t471), (by first | rfl | (simp; done) | (simp [*]; done)), H', ⟨by have := HK1.out; omega⟩, ⟨bP BK451⟩, ⟨bP BK452⟩, ⟨bP BK453⟩, ⟨bP BK454⟩, ⟨by (with_reducible repeat (first | refine blk_drewN ?_ _ | refine blk_drew ?_ | refine blk_alloc ?_ _)); refine blk_put (cs := #[.int .i64 t469, .int .i64 t470, .bool t464]) ?_ 2 _ rfl; (with_reducible repeat (first | refine blk_drewN ?_ _ | refine blk_drew ?_ | refine blk_alloc ?_ _)); refine blk_put (cs := #[.int .i64 t469, .int .i64 t463, .bool t464]) ?_ 1 _ rfl; (with_reducible repeat (first | refine blk_drewN ?_ _ | refine blk_drew ?_ | refine blk_alloc ?_ _)); refine blk_put (cs := #[.int .i64 t462, .int .i64 t463, .bool t464]) ?_ 0 _ rfl; (with_reducible repeat (first | refine blk_drewN ?_ _ | refine blk_drew ?_ | refine blk_alloc ?_ _)); exact BK455.out⟩, ⟨bZ HB⟩⟩
     ·rw [if_neg c28] at H
      have c28b0 : (((ji27) % 2) == 1) = false := beq_eq_false_iff_ne.mpr c28
      have c28b1 : (((ji27) % 2) != 1) = true := bne_iff_ne.mpr c28
      have H' := Aside0.mk H
      clear H
      try go_wp2
      replace BK451 := Aside0.mk (blk_drew BK451.out)
      replace BK452 := Aside0.mk (blk_drew BK452.out)
      replace BK453 := Aside0.mk (blk_drew BK453.out)
      replace BK454 := Aside0.mk (blk_drew BK454.out)
      replace BK455 := Aside0.mk (blk_drew BK455.out)
      replace HB := Aside0.mk (below_drew1 HB.out)
      refine start_ (n := 9) (S := fun w' => w'.cell? ⟨gb454, 0, none⟩ = some (.int .i64 x455000_1) ∧ w'.cell? ⟨gb454, 1, none⟩ = some (.int .i64 x455001_1) ∧ w'.cell? ⟨gb455, 0, none⟩ = some (.int .i64 x456000_1) ∧ w'.cell? ⟨gb455, 1, none⟩ = some (.int .i64 x456001_1) ∧ w'.cell? ⟨gb455, 2, none⟩ = some (.bool x456002_1) ∧ w'.cell? ⟨gb452, 0, none⟩ = some (.int .i64 a1_0) ∧ w'.cell? ⟨gb452, 1, none⟩ = some (.int .i64 a1_1) ∧ w'.cell? ⟨gb452, 2, none⟩ = some (.bool a1_2)) (ds := [8]) #[false, false, false, false, false, false, false, false, false] (by kernel_rfl) rfl rfl ⟨bc BK454 0, bc BK454 1, bc BK455 0, bc BK455 1, bc BK455 2, bc BK452 0, bc BK452 1, bc BK452 2⟩ (fun hHeld => ?_); refine with_tabW spec_Miller.tab6 spec_Miller.bits6 (fun HT_ HW_ => ?_)
      generalize wr.drew = w58 at BK451 BK452 BK453 BK454 BK455 HB hHeld ⊢
      refine take_ (i := 0) (N := some 14) (v := ?_) (a' := ?_) #[true, false, false, false, false, false, false, false, false] rfl rfl (take_ofW HT_.out HW_.out (by kernel_rfl)) (fun _ _ _ h => h) (Or.inl ⟨by rfl, ?_⟩) hHeld ?_ ?_
      rotate_left
      ·rintro w' ⟨s0, s1, s2, s3, s4, s5, s6, s7⟩
       go_simp
       with_reducible rfl
      rotate_left
      ·simp only [Act.put, List.setIfInBounds_toArray, List.set_cons_zero, List.set_cons_succ, i64_w, i32_w]
       rfl
      refine take_ (i := 1) (N := some 15) (v := ?_) (a' := ?_) #[true, true, false, false, false, false, false, false, false] rfl rfl (take_ofW HT_.out HW_.out (by kernel_rfl)) (fun _ _ _ h => h) (Or.inl ⟨by rfl, ?_⟩) hHeld ?_ ?_
      rotate_left
      ·rintro w' ⟨s0, s1, s2, s3, s4, s5, s6, s7⟩
       go_simp
       with_reducible rfl
      rotate_left
      ·simp only [Act.put, List.setIfInBounds_toArray, List.set_cons_zero, List.set_cons_succ, i64_w, i32_w]
       rfl
      refine take_ (i := 3) (N := some 17) (v := ?_) (a' := ?_) #[true, true, false, true, false, false, false, false, false] rfl rfl (take_ofW HT_.out HW_.out (by kernel_rfl)) (fun _ _ _ h => h) (Or.inl ⟨by rfl, ?_⟩) hHeld ?_ ?_
      rotate_left
      ·rintro w' ⟨s0, s1, s2, s3, s4, s5, s6, s7⟩
       go_simp
       with_reducible rfl
      rotate_left
      ·simp only [Act.put, List.setIfInBounds_toArray, List.set_cons_zero, List.set_cons_succ, i64_w, i32_w]
       rfl
      refine take_ (i := 4) (N := some 18) (v := ?_) (a' := ?_) #[true, true, false, true, true, false, false, false, false] rfl rfl (take_ofW HT_.out HW_.out (by kernel_rfl)) (fun _ _ _ h => h) (Or.inl ⟨by rfl, ?_⟩) hHeld ?_ ?_
      rotate_left
      ·rintro w' ⟨s0, s1, s2, s3, s4, s5, s6, s7⟩
       go_simp
       with_reducible rfl
      rotate_left
      ·simp only [Act.put, List.setIfInBounds_toArray, List.set_cons_zero, List.set_cons_succ, i64_w, i32_w]
       rfl
      refine take_ (i := 5) (N := some 19) (v := ?_) (a' := ?_) #[true, true, false, true, true, true, false, false, false] rfl rfl (take_ofW HT_.out HW_.out (by kernel_rfl)) (fun _ _ _ h => h) (Or.inl ⟨by rfl, ?_⟩) hHeld ?_ ?_
      rotate_left
      ·rintro w' ⟨s0, s1, s2, s3, s4, s5, s6, s7⟩
       go_simp
       with_reducible rfl
      rotate_left
      ·simp only [Act.put, List.setIfInBounds_toArray, List.set_cons_zero, List.set_cons_succ, i64_w, i32_w]
       rfl
      refine one_ (i := 2) (N := some 16) #[true, true, true, true, true, true, false, false, false] rfl rfl (one_of HT_.out (by kernel_rfl)) (by decide) (fun K hK => ?_)
      refine goes_ Try.func71 (by kernel_rfl) rfl #[.agg #[.int .i64 x455000_1, .int .i64 x455001_1], .agg #[.int .i64 x455000_1, .int .i64 x455001_1]] (by rfl) rfl rfl (by (try simp only [List.map_toArray, List.map_cons, List.map_nil]); first | done | rfl | (simp only [List.length_drop, List.length_take]; rfl)) ?_
      with_reducible refine (spec_TwoMul.calls x455000_1 x455001_1 x455000_1 x455001_1 t456 t457 _ A21.out).mono ?_
      rintro e w59 ⟨rfl, hb⟩
      refine ⟨_, rfl, ?_⟩
      replace BK451 := bB BK451 hb
      replace BK452 := bB BK452 hb
      replace BK453 := bB BK453 hb
      replace BK454 := bB BK454 hb
      replace BK455 := bB BK455 hb
      replace HB := bS HB hb
      (try clear hb)
      (try clear hb2)
      (try clear hk)
      (try clear hi)
      refine hK.out _ _ ⟨bc BK454 0, bc BK454 1, bc BK455 0, bc BK455 1, bc BK455 2, bc BK452 0, bc BK452 1, bc BK452 2⟩ (fun hHeld => ?_)
      clear hK K
      refine norm_ (a' := ?_) ?_ ?_
      rotate_left
      ·show Act.put _ (some 16) _ = _
       simp only [Act.put, List.setIfInBounds_toArray, List.set_cons_zero, List.set_cons_succ, i64_w, i32_w]
       rfl
      refine one_ (i := 6) (N := some 20) #[true, true, true, true, true, true, true, false, false] rfl rfl (one_of HT_.out (by kernel_rfl)) (by decide) (fun K hK => ?_)
      refine goes_ Try.func23 (by kernel_rfl) rfl #[.agg #[.int .i64 x456000_1, .int .i64 x456001_1, .bool x456002_1], .agg #[.int .i64 x456000_1, .int .i64 x456001_1, .bool x456002_1], .agg #[.int .i64 a1_0, .int .i64 a1_1, .bool a1_2]] (by rfl) rfl rfl (by (try simp only [List.map_toArray, List.map_cons, List.map_nil]); first | done | rfl | (simp only [List.length_drop, List.length_take]; rfl)) ?_
      with_reducible refine (spec_PairLine.calls k1 x456000_1 x456001_1 x456002_1 x456000_1 x456001_1 x456002_1 a1_0 a1_1 a1_2 t458 t459 _ A22.out).mono ?_
      rintro e w60 ⟨rfl, hb⟩
      refine ⟨_, rfl, ?_⟩
      replace BK451 := bB BK451 hb
      replace BK452 := bB BK452 hb
      replace BK453 := bB BK453 hb
      replace BK454 := bB BK454 hb
      replace BK455 := bB BK455 hb
      replace HB := bS HB hb
      (try clear hb)
      (try clear hb2)
      (try clear hk)
      (try clear hi)
      refine hK.out _ _ ⟨bc BK454 0, bc BK454 1, bc BK455 0, bc BK455 1, bc BK455 2, bc BK452 0, bc BK452 1, bc BK452 2⟩ (fun hHeld => ?_)
      clear hK K
      refine norm_ (a' := ?_) ?_ ?_
      rotate_left
      ·show Act.put _ (some 20) _ = _
       simp only [Act.put, List.setIfInBounds_toArray, List.set_cons_zero, List.set_cons_succ, i64_w, i32_w]
       rfl
      refine one_ (i := 7) (N := some 21) #[true, true, true, true, true, true, true, true, false] rfl rfl (one_of HT_.out (by kernel_rfl)) (by decide) (fun K hK => ?_)
      refine goes_ Try.func71 (by kernel_rfl) rfl #[.agg #[.int .i64 t456, .int .i64 t457], .agg #[.int .i64 t458, .int .i64 t459]] (by rfl) rfl rfl (by (try simp only [List.map_toArray, List.map_cons, List.map_nil]); first | done | rfl | (simp only [List.length_drop, List.length_take]; rfl)) ?_
      with_reducible refine (spec_TwoMul.calls t456 t457 t458 t459 t460 t461 _ A23.out).mono ?_
      rintro e w61 ⟨rfl, hb⟩
      refine ⟨_, rfl, ?_⟩
      replace BK451 := bB BK451 hb
      replace BK452 := bB BK452 hb
      replace BK453 := bB BK453 hb
      replace BK454 := bB BK454 hb
      replace BK455 := bB BK455 hb
      replace HB := bS HB hb
      (try clear hb)
      (try clear hb2)
      (try clear hk)
      (try clear hi)
      refine hK.out _ _ ⟨bc BK454 0, bc BK454 1, bc BK455 0, bc BK455 1, bc BK455 2, bc BK452 0, bc BK452 1, bc BK452 2⟩ (fun hHeld => ?_)
      clear hK K
      refine norm_ (a' := ?_) ?_ ?_
      rotate_left
      ·show Act.put _ (some 21) _ = _
       simp only [Act.put, List.setIfInBounds_toArray, List.set_cons_zero, List.set_cons_succ, i64_w, i32_w]
       rfl
      refine last_ (i := 8) (N := none) #[true, true, true, true, true, true, true, true, true] rfl rfl (one_of HT_.out (by kernel_rfl)) (by decide) (fun K hK => ?_)
      have hs62 : w61.cell? ⟨gb454, 0, none⟩ = some (.int .i64 x455000_1) := bc BK454 0
      have hfs62 := blk_frozen BK454.out 0
      have hns62_0 := NB451_454.out
      have hns62_1 := NB452_454.out
      have hns62_2 := NB453_454.out
      have hns62_4 := NB455_454.out
      have hms62_0 := NB454_451.out
      have hms62_1 := NB454_452.out
      have hms62_2 := NB454_453.out
      have hms62_4 := NB454_455.out
      have hs63 : w61.cell? ⟨gb454, 1, none⟩ = some (.int .i64 x455001_1) := bc BK454 1
      have hfs63 := blk_frozen BK454.out 1
      have hns63_0 := NB451_454.out
      have hns63_1 := NB452_454.out
      have hns63_2 := NB453_454.out
      have hns63_4 := NB455_454.out
      have hms63_0 := NB454_451.out
      have hms63_1 := NB454_452.out
      have hms63_2 := NB454_453.out
      have hms63_4 := NB454_455.out
      refine skip_ (w1 := ?_) (by rfl) rfl ?_ ?_
      rotate_left
      ·go_simp
       rfl
      refine hK.out _ _ ?_
      clear hK K
      refine done_ (done_of HT_.out (by kernel_rfl)) ?_
      have hnb64 := NB455_451.out
      have hnc64 := NB451_455.out
      have hnb65 := NB455_452.out
      have hnc65 := NB452_455.out
      have hnb66 := NB455_453.out
      have hnc66 := NB453_455.out
      have hnb67 := NB455_454.out
      have hnc67 := NB454_455.out
      have hcz68_0 : w61.cell? ⟨gb455, 0, none⟩ = some (.int .i64 x456000_1) := bc BK455 0
      have hcz68_1 : w61.cell? ⟨gb455, 1, none⟩ = some (.int .i64 x456001_1) := bc BK455 1
      have hcz68_2 : w61.cell? ⟨gb455, 2, none⟩ = some (.bool x456002_1) := bc BK455 2
      have hfz68_0 := blk_frozen BK455.out 0
      have hfz68_1 := blk_frozen BK455.out 1
      have hfz68_2 := blk_frozen BK455.out 2
      try go_wp2_with (first | ((with_reducible refine gate_callee (f := 53) rfl ?_); refine goesL_ (some 24) rfl rfl Try.func53 (by kernel_rfl) rfl #[.agg #[.int .i64 x456000_1, .int .i64 x456001_1, .bool x456002_1], .agg #[.int .i64 x456000_1, .int .i64 x456001_1, .bool x456002_1]] rfl (by (try simp only [List.map_toArray, List.map_cons, List.map_nil]); first | done | rfl | (simp only [List.length_drop, List.length_take]; rfl)) ?_; (with_reducible refine (spec_PointAdd.calls k1 x456000_1 x456001_1 x456002_1 x456000_1 x456001_1 x456002_1 t462 t463 t464 _ A24.out).mono ?_); rintro e w69 ⟨rfl, hb⟩; refine ⟨_, rfl, ?_⟩; replace BK451 := bB BK451 hb; replace BK452 := bB BK452 hb; replace BK453 := bB BK453 hb; replace BK454 := Aside0.mk (blk_below (g := gb454) (o := .cells #[.int .i64 t460, .int .i64 t461] 31 (0, 0)) (by (with_reducible repeat (first | refine blk_drewN ?_ _ | refine blk_drew ?_ | refine blk_alloc ?_ _)); refine blk_put (cs := #[.int .i64 t460, .int .i64 x455001_1]) ?_ 1 _ rfl; (with_reducible repeat (first | refine blk_drewN ?_ _ | refine blk_drew ?_ | refine blk_alloc ?_ _)); refine blk_put (cs := #[.int .i64 x455000_1, .int .i64 x455001_1]) ?_ 0 _ rfl; (with_reducible repeat (first | refine blk_drewN ?_ _ | refine blk_drew ?_ | refine blk_alloc ?_ _)); exact BK454.out) hb); replace BK455 := bB BK455 hb; replace HB := bS HB hb; (try clear hb); (try clear hb2); (try clear hk); (try clear hi); have hcz70_0 : w69.cell? ⟨gb455, 0, none⟩ = some (.int .i64 x456000_1) := bc BK455 0; have hcz70_1 : w69.cell? ⟨gb455, 1, none⟩ = some (.int .i64 x456001_1) := bc BK455 1; have hcz70_2 : w69.cell? ⟨gb455, 2, none⟩ = some (.bool x456002_1) := bc BK455 2; have hfz70_0 := blk_frozen BK455.out 0; have hfz70_1 := blk_frozen BK455.out 1; have hfz70_2 := blk_frozen BK455.out 2))
      go_roundg k1
      case measure => have := HK1.out; omega
      case rel => exact ⟨(wrap64 (x7_1 - 1)), (t460), (t461), (t462), (t463), (t464), (by first | rfl | (simp; done) | (simp [*]; done)), H', ⟨by have := HK1.out; omega⟩, ⟨bP BK451⟩, ⟨bP BK452⟩, ⟨bP BK453⟩, ⟨bP BK454⟩, ⟨by (with_reducible repeat (first | refine blk_drewN ?_ _ | refine blk_drew ?_ | refine blk_alloc ?_ _)); refine blk_put (cs := #[.int .i64 t462, .int .i64 t463, .bool x456002_1]) ?_ 2 _ rfl; (with_reducible repeat (first | refine blk_drewN ?_ _ | refine blk_drew ?_ | refine blk_alloc ?_ _)); refine blk_put (cs := #[.int .i64 t462, .int .i64 x456001_1, .bool x456002_1]) ?_ 1 _ rfl; (with_reducible repeat (first | refine blk_drewN ?_ _ | refine blk_drew ?_ | refine blk_alloc ?_ _)); refine blk_put (cs := #[.int .i64 x456000_1, .int .i64 x456001_1, .bool x456002_1]) ?_ 0 _ rfl; (with_reducible repeat (first | refine blk_drewN ?_ _ | refine blk_drew ?_ | refine blk_alloc ?_ _)); exact BK455.out⟩, ⟨bZ HB⟩⟩
    ·rw [if_neg c26] at H
     exact absurd H (by simp)
   ·rw [if_neg c20] at H
    have c20b0 : decide (0 ≤ x7_1) = false := decide_eq_false c20
    clear c20
    simp only [Option.some.injEq, Prod.mk.injEq] at H
    obtain ⟨rfl, rfl⟩ := H
    have hnb71 := NB454_451.out
    have hnc71 := NB451_454.out
    have hnb72 := NB454_452.out
    have hnc72 := NB452_454.out
    have hnb73 := NB454_453.out
    have hnc73 := NB453_454.out
    have hnb74 := NB454_455.out
    have hnc74 := NB455_454.out
    have hcz75_0 : wr.cell? ⟨gb454, 0, none⟩ = some (.int .i64 x455000_1) := bc BK454 0
    have hcz75_1 : wr.cell? ⟨gb454, 1, none⟩ = some (.int .i64 x455001_1) := bc BK454 1
    have hfz75_0 := blk_frozen BK454.out 0
    have hfz75_1 := blk_frozen BK454.out 1
    have hnb76 := NB453_451.out
    have hnc76 := NB451_453.out
    have hnb77 := NB453_452.out
    have hnc77 := NB452_453.out
    have hnb78 := NB453_455.out
    have hnc78 := NB455_453.out
    have hcz79_0 : wr.cell? ⟨gb453, 0, none⟩ = some (.int .i64 0) := bc BK453 0
    have hcz79_1 : wr.cell? ⟨gb453, 1, none⟩ = some (.int .i64 0) := bc BK453 1
    have hfz79_0 := blk_frozen BK453.out 0
    have hfz79_1 := blk_frozen BK453.out 1
    go_wp2
    refine bodyPost_ret (results_cell_row rfl _ _ gb453 31 #[.int .i64 x455000_1, .int .i64 x455001_1] (0, 0) _ rfl (by (with_reducible repeat (first | refine blk_drewN ?_ _ | refine blk_drew ?_ | refine blk_alloc ?_ _)); refine blk_put (cs := #[.int .i64 x455000_1, .int .i64 0]) ?_ 1 _ rfl; (with_reducible repeat (first | refine blk_drewN ?_ _ | refine blk_drew ?_ | refine blk_alloc ?_ _)); refine blk_put (cs := #[.int .i64 0, .int .i64 0]) ?_ 0 _ rfl; (with_reducible repeat (first | refine blk_drewN ?_ _ | refine blk_drew ?_ | refine blk_alloc ?_ _)); exact BK453.out) Try.underlying31 rfl (by kernel_rfl)) rfl ?_
    exact ⟨by first | rfl | (simp [errW_none, errW_some] <;> rfl) | (simp [*, errW_none, errW_some] <;> rfl), bZ HB⟩
/-! ### spec_PointNeg: function 79 -/
def spec_PointNeg.f (a0_0 : Int) (a0_1 : Int) (a0_2 : Bool) : Option (Int × Int × Bool) := if a0_2 = true then ((spec_l07Zero.f).bind fun bt125 => (some (bt125.1, bt125.2.1, bt125.2.2))) else ((spec_FpSub.f 0 a0_1).bind fun t128 => (some (a0_0, t128, false)))
set_option maxHeartbeats 8000000 in
set_option maxRecDepth 100000 in
theorem spec_PointNeg.calls (a0_0 : Int) (a0_1 : Int) (a0_2 : Bool) (r1 : Int) (r2 : Int) (r3 : Bool) (w : World) (h : spec_PointNeg.f a0_0 a0_1 a0_2 = some (r1, r2, r3)) :
  Calls Try.prog 79 #[.agg #[.int .i64 a0_0, .int .i64 a0_1, .bool a0_2]] w fun e w' => e = .returned (.agg #[.int .i64 r1, .int .i64 r2, .bool r3]) ∧ Below w.heap.size w w' := by
 have hu25 := Try.underlying25
 have HB := Aside0.mk (Below.refl w.heap.size w)
 have H : (if a0_2 = true then ((spec_l07Zero.f).bind fun bt125 => (some (bt125.1, bt125.2.1, bt125.2.2))) else ((spec_FpSub.f 0 a0_1).bind fun t128 => (some (a0_0, t128, false)))) = some (r1, r2, r3) := h
 clear h
 by_cases c2 : a0_2 = true
 ·subst c2
  have H1 : ((spec_l07Zero.f).bind fun bt125 => (some (bt125.1, bt125.2.1, bt125.2.2))) = some (r1, r2, r3) := by rw [if_pos rfl] at H; exact H
  clear H
  have H := H1
  clear H1
  replace H := Option.bind_eq_some_iff.mp H
  obtain ⟨⟨t125, t126, t127⟩, A30, H⟩ := H
  replace H : (some (t125, t126, t127)) = some (r1, r2, r3) := H
  have A3 := Aside0.mk A30
  clear A30
  simp only [Option.some.injEq, Prod.mk.injEq] at H
  obtain ⟨rfl, rfl, rfl⟩ := H
  go_enter Try.func79, Try.ntmps79
  go_wp2_with (first | ((with_reducible refine gate_dst (N := 1) rfl ?_); refine box_event ?hg (N := 1) ?hd (cs := #[.int .i64 a0_0, .int .i64 a0_1, .bool true]) (t := 25) ?hr ?_; (case hd => rfl); (case hg => rfl); (case hr => first | (go_simp; done) | (go_simp; rfl)); intro gb123 hg w4 hbox hb; have BK123 := Aside0.mk (hbox); have GW123 := bG HB hg; have GE123 := bG HB hg; replace HB := bS HB hb; clear hb hbox hg) | ((with_reducible refine gate_dst (N := 2) rfl ?_); refine box_event ?hg (N := 2) ?hd (cs := #[.int .i64 0, .int .i64 0, .bool false]) (t := 25) ?hr ?_; (case hd => rfl); (case hg => rfl); (case hr => first | (go_simp; done) | (go_simp; rfl)); intro gb124 hg w5 hbox hb; have BK124 := Aside0.mk (hbox); have GW124 := bG HB hg; have GE124 := bG HB hg; replace HB := bS HB hb; have NB123_124 := bL BK123 hg; have NB124_123 := bR BK123 hg; replace BK123 := bB BK123 hb; clear hb hbox hg; have hnb6 := NB123_124.out; have hnc6 := NB124_123.out; have hcz7_0 : w5.cell? ⟨gb123, 0, none⟩ = some (.int .i64 a0_0) := bc BK123 0; have hcz7_1 : w5.cell? ⟨gb123, 1, none⟩ = some (.int .i64 a0_1) := bc BK123 1; have hcz7_2 : w5.cell? ⟨gb123, 2, none⟩ = some (.bool true) := bc BK123 2; have hfz7_0 := blk_frozen BK123.out 0; have hfz7_1 := blk_frozen BK123.out 1; have hfz7_2 := blk_frozen BK123.out 2) | ((with_reducible refine gate_callee (f := 78) rfl ?_); refine goesL_ (some 5) rfl rfl Try.func78 (by kernel_rfl) rfl #[] rfl (by (try simp only [List.map_toArray, List.map_cons, List.map_nil]); first | done | rfl | (simp only [List.length_drop, List.length_take]; rfl)) ?_; (with_reducible refine (spec_l07Zero.calls  t125 t126 t127 _ A3.out).mono ?_); rintro e w8 ⟨rfl, hb⟩; refine ⟨_, rfl, ?_⟩; replace BK123 := bB BK123 hb; replace BK124 := bB BK124 hb; replace HB := bS HB hb; (try clear hb); (try clear hb2); (try clear hk); (try clear hi); have hcz9_0 : w8.cell? ⟨gb124, 0, none⟩ = some (.int .i64 0) := bc BK124 0; have hcz9_1 : w8.cell? ⟨gb124, 1, none⟩ = some (.int .i64 0) := bc BK124 1; have hcz9_2 : w8.cell? ⟨gb124, 2, none⟩ = some (.bool false) := bc BK124 2; have hfz9_0 := blk_frozen BK124.out 0; have hfz9_1 := blk_frozen BK124.out 1; have hfz9_2 := blk_frozen BK124.out 2))
  refine bodyPost_ret (results_cell_row rfl _ _ gb124 25 #[.int .i64 t125, .int .i64 t126, .bool t127] (0, 0) _ rfl (by (with_reducible repeat (first | refine blk_drewN ?_ _ | refine blk_drew ?_ | refine blk_alloc ?_ _)); refine blk_put (cs := #[.int .i64 t125, .int .i64 t126, .bool false]) ?_ 2 _ rfl; (with_reducible repeat (first | refine blk_drewN ?_ _ | refine blk_drew ?_ | refine blk_alloc ?_ _)); refine blk_put (cs := #[.int .i64 t125, .int .i64 0, .bool false]) ?_ 1 _ rfl; (with_reducible repeat (first | refine blk_drewN ?_ _ | refine blk_drew ?_ | refine blk_alloc ?_ _)); refine blk_put (cs := #[.int .i64 0, .int .i64 0, .bool false]) ?_ 0 _ rfl; (with_reducible repeat (first | refine blk_drewN ?_ _ | refine blk_drew ?_ | refine blk_alloc ?_ _)); exact BK124.out) Try.underlying25 rfl (by kernel_rfl)) rfl ?_
  exact ⟨by first | rfl | (simp [errW_none, errW_some] <;> rfl) | (simp [*, errW_none, errW_some] <;> rfl), bZ HB⟩
 ·replace c2 := Bool.eq_false_iff.mpr c2
  subst c2
  have H1 : ((spec_FpSub.f 0 a0_1).bind fun t128 => (some (a0_0, t128, false))) = some (r1, r2, r3) := by rw [if_neg (show ¬ (false = true) by decide)] at H; exact H
  clear H
  have H := H1
  clear H1
  replace H := Option.bind_eq_some_iff.mp H
  obtain ⟨t128, A100, H⟩ := H
  replace H : (some (a0_0, t128, false)) = some (r1, r2, r3) := H
  have A10 := Aside0.mk A100
  clear A100
  simp only [Option.some.injEq, Prod.mk.injEq] at H
  obtain ⟨rfl, rfl, rfl⟩ := H
  go_enter Try.func79, Try.ntmps79
  try go_wp2_with (first | ((with_reducible refine gate_dst (N := 1) rfl ?_); refine box_event ?hg (N := 1) ?hd (cs := #[.int .i64 a0_0, .int .i64 a0_1, .bool false]) (t := 25) ?hr ?_; (case hd => rfl); (case hg => rfl); (case hr => first | (go_simp; done) | (go_simp; rfl)); intro gb123 hg w11 hbox hb; have BK123 := Aside0.mk (hbox); have GW123 := bG HB hg; have GE123 := bG HB hg; replace HB := bS HB hb; clear hb hbox hg) | ((with_reducible refine gate_dst (N := 2) rfl ?_); refine box_event ?hg (N := 2) ?hd (cs := #[.int .i64 0, .int .i64 0, .bool false]) (t := 25) ?hr ?_; (case hd => rfl); (case hg => rfl); (case hr => first | (go_simp; done) | (go_simp; rfl)); intro gb124 hg w12 hbox hb; have BK124 := Aside0.mk (hbox); have GW124 := bG HB hg; have GE124 := bG HB hg; replace HB := bS HB hb; have NB123_124 := bL BK123 hg; have NB124_123 := bR BK123 hg; replace BK123 := bB BK123 hb; clear hb hbox hg; have hnb13 := NB123_124.out; have hnc13 := NB124_123.out; have hcz14_0 : w12.cell? ⟨gb123, 0, none⟩ = some (.int .i64 a0_0) := bc BK123 0; have hcz14_1 : w12.cell? ⟨gb123, 1, none⟩ = some (.int .i64 a0_1) := bc BK123 1; have hcz14_2 : w12.cell? ⟨gb123, 2, none⟩ = some (.bool false) := bc BK123 2; have hfz14_0 := blk_frozen BK123.out 0; have hfz14_1 := blk_frozen BK123.out 1; have hfz14_2 := blk_frozen BK123.out 2))
  replace BK123 := Aside0.mk (blk_drew BK123.out)
  replace BK124 := Aside0.mk (blk_drew BK124.out)
  replace HB := Aside0.mk (below_drew1 HB.out)
  refine start_ (n := 7) (S := fun w' => w'.cell? ⟨gb123, 0, none⟩ = some (.int .i64 a0_0) ∧ w'.cell? ⟨gb123, 1, none⟩ = some (.int .i64 a0_1) ∧ w'.cell? ⟨gb123, 2, none⟩ = some (.bool false)) (ds := []) #[false, false, false, false, false, false, false] (by kernel_rfl) rfl rfl ⟨bc BK123 0, bc BK123 1, bc BK123 2⟩ (fun hHeld => ?_)
  generalize w12.drew = w15 at BK123 BK124 HB hHeld ⊢
  refine pure_ (i := 0) (N := some 6) (v := ?_) (a' := ?_) #[true, false, false, false, false, false, false] rfl rfl (by kernel_rfl) (fun _ _ _ h => h) (Or.inl ⟨by rfl, ?_⟩) ?_ ?_
  rotate_left
  ·intro w'
   go_simp
   with_reducible rfl
  rotate_left
  ·simp only [Act.put, List.setIfInBounds_toArray, List.set_cons_zero, List.set_cons_succ, i64_w, i32_w]
   rfl
  refine pure_ (i := 2) (N := some 8) (v := ?_) (a' := ?_) #[true, false, true, false, false, false, false] rfl rfl (by kernel_rfl) (fun _ _ _ h => h) (Or.inl ⟨by rfl, ?_⟩) ?_ ?_
  rotate_left
  ·intro w'
   go_simp
   with_reducible rfl
  rotate_left
  ·simp only [Act.put, List.setIfInBounds_toArray, List.set_cons_zero, List.set_cons_succ, i64_w, i32_w]
   rfl
  refine take_ (i := 1) (N := some 7) (v := ?_) (a' := ?_) #[true, true, true, false, false, false, false] rfl rfl (by kernel_rfl) (fun _ _ _ h => h) (Or.inl ⟨by rfl, ?_⟩) hHeld ?_ ?_
  rotate_left
  ·rintro w' ⟨s0, s1, s2⟩
   go_simp
   with_reducible rfl
  rotate_left
  ·simp only [Act.put, List.setIfInBounds_toArray, List.set_cons_zero, List.set_cons_succ, i64_w, i32_w]
   rfl
  refine take_ (i := 3) (N := some 9) (v := ?_) (a' := ?_) #[true, true, true, true, false, false, false] rfl rfl (by kernel_rfl) (fun _ _ _ h => h) (Or.inl ⟨by rfl, ?_⟩) hHeld ?_ ?_
  rotate_left
  ·rintro w' ⟨s0, s1, s2⟩
   go_simp
   with_reducible rfl
  rotate_left
  ·simp only [Act.put, List.setIfInBounds_toArray, List.set_cons_zero, List.set_cons_succ, i64_w, i32_w]
   rfl
  refine one_ (i := 4) (N := some 10) #[true, true, true, true, true, false, false] rfl rfl (by kernel_rfl) (by decide) (fun K hK => ?_)
  refine goes_ Try.func75 (by kernel_rfl) rfl #[.int .i64 0, .int .i64 a0_1] (by rfl) rfl rfl (by (try simp only [List.map_toArray, List.map_cons, List.map_nil]); first | done | rfl | (simp only [List.length_drop, List.length_take]; rfl)) ?_
  with_reducible refine (spec_FpSub.calls 0 a0_1 t128 _ A10.out).mono ?_
  rintro e w' ⟨rfl, ⟨nd, rfl⟩⟩
  refine ⟨_, rfl, ?_⟩
  refine hK.out _ _ ⟨bc BK123 0, bc BK123 1, bc BK123 2⟩ (fun hHeld => ?_)
  clear hK K
  refine norm_ (a' := ?_) ?_ ?_
  rotate_left
  ·show Act.put _ (some 10) _ = _
   simp only [Act.put, List.setIfInBounds_toArray, List.set_cons_zero, List.set_cons_succ, i64_w, i32_w]
   rfl
  refine pure_ (i := 5) (N := some 11) (v := ?_) (a' := ?_) #[true, true, true, true, true, true, false] rfl rfl (by kernel_rfl) (fun _ _ _ h => h) (Or.inl ⟨by rfl, ?_⟩) ?_ ?_
  rotate_left
  ·intro w'
   go_simp
   with_reducible rfl
  rotate_left
  ·simp only [Act.put, List.setIfInBounds_toArray, List.set_cons_zero, List.set_cons_succ, i64_w, i32_w]
   rfl
  refine one_ (i := 6) (N := none) #[true, true, true, true, true, true, true] rfl rfl (by kernel_rfl) (by decide) (fun K hK => ?_)
  have hs16 : w15.cell? ⟨gb124, 0, none⟩ = some (.int .i64 0) := bc BK124 0
  have hfs16 := blk_frozen BK124.out 0
  have hns16_0 := NB123_124.out
  have hms16_0 := NB124_123.out
  have hs17 : w15.cell? ⟨gb124, 1, none⟩ = some (.int .i64 0) := bc BK124 1
  have hfs17 := blk_frozen BK124.out 1
  have hns17_0 := NB123_124.out
  have hms17_0 := NB124_123.out
  have hs18 : w15.cell? ⟨gb124, 2, none⟩ = some (.bool false) := bc BK124 2
  have hfs18 := blk_frozen BK124.out 2
  have hns18_0 := NB123_124.out
  have hms18_0 := NB124_123.out
  refine skip_ (w1 := ?_) (by rfl) rfl ?_ ?_
  rotate_left
  ·go_simp
   rfl
  refine hK.out _ _ ⟨((cell_far (p := ⟨gb124, _, none⟩) NB123_124.out _).trans (((cell_far (p := ⟨gb124, _, none⟩) NB123_124.out _).trans (((cell_far (p := ⟨gb124, _, none⟩) NB123_124.out _).trans (hHeld.1)))))), ((cell_far (p := ⟨gb124, _, none⟩) NB123_124.out _).trans (((cell_far (p := ⟨gb124, _, none⟩) NB123_124.out _).trans (((cell_far (p := ⟨gb124, _, none⟩) NB123_124.out _).trans (hHeld.2.1)))))), ((cell_far (p := ⟨gb124, _, none⟩) NB123_124.out _).trans (((cell_far (p := ⟨gb124, _, none⟩) NB123_124.out _).trans (((cell_far (p := ⟨gb124, _, none⟩) NB123_124.out _).trans (hHeld.2.2))))))⟩ (fun hHeld => ?_)
  clear hK K
  refine done_ (by kernel_rfl) ?_
  try go_wp2
  refine bodyPost_ret (results_cell_row rfl _ _ gb124 25 #[.int .i64 a0_0, .int .i64 t128, .bool false] (0, 0) _ rfl (by (with_reducible repeat (first | refine blk_drewN ?_ _ | refine blk_drew ?_ | refine blk_alloc ?_ _)); refine blk_put (cs := #[.int .i64 a0_0, .int .i64 t128, .bool false]) ?_ 2 _ rfl; (with_reducible repeat (first | refine blk_drewN ?_ _ | refine blk_drew ?_ | refine blk_alloc ?_ _)); refine blk_put (cs := #[.int .i64 a0_0, .int .i64 0, .bool false]) ?_ 1 _ rfl; (with_reducible repeat (first | refine blk_drewN ?_ _ | refine blk_drew ?_ | refine blk_alloc ?_ _)); refine blk_put (cs := #[.int .i64 0, .int .i64 0, .bool false]) ?_ 0 _ rfl; (with_reducible repeat (first | refine blk_drewN ?_ _ | refine blk_drew ?_ | refine blk_alloc ?_ _)); exact BK124.out) Try.underlying25 rfl (by kernel_rfl)) rfl ?_
  exact ⟨by first | rfl | (simp [errW_none, errW_some] <;> rfl) | (simp [*, errW_none, errW_some] <;> rfl), bZ HB⟩
end Go.Proofs.Ytmbjefdkjdemhaa.Pf
end
section
namespace Go.Proofs.Ytmbjefdkjdemhaa.Pf
open Go.RowKit Go.Proofs.YtmbjefdkjdemhaaW.PrintWords Go.Proofs.YtmbjefdkjdemhaaW.PrintLast Go.Proofs.YtmbjefdkjdemhaaW.PrintMore
attribute [local go_sem] max2_int min2_int max_two min_two max_three min_three max_four min_four   -- for this text's walks alone
set_option linter.unusedVariables false
set_option linter.unusedSimpArgs false

/-! ### spec_PointTimes: function 27 -/
mutual
def spec_PointTimes.j0 : Nat → Int → Int → Int → Bool → Option (Int × Int × Bool)
 | 0, _, _, _, _ => none
 | k + 1, x5, x168000, x168001, x168002 => (spec_l07Zero.f).bind fun bt171 => (spec_PointTimes.l0 k x5 x168000 x168001 x168002 bt171.1 bt171.2.1 bt171.2.2)
def spec_PointTimes.l0 : Nat → Int → Int → Int → Bool → Int → Int → Bool → Option (Int × Int × Bool)
 | 0, _, _, _, _, _, _, _ => none
 | k + 1, x5, x168000, x168001, x168002, x175000, x175001, x175002 => if x5 > 0 then (if (Int.tmod x5 2) = 1 then ((spec_l07Add.f k x175000 x175001 x175002 x168000 x168001 x168002).bind fun bt175 => ((spec_l07Add.f k x168000 x168001 x168002 x168000 x168001 x168002).bind fun bt178 => (spec_PointTimes.l0 k (wrap64 (Int.tdiv x5 2)) bt178.1 bt178.2.1 bt178.2.2 bt175.1 bt175.2.1 bt175.2.2))) else ((spec_l07Add.f k x168000 x168001 x168002 x168000 x168001 x168002).bind fun bt181 => (spec_PointTimes.l0 k (wrap64 (Int.tdiv x5 2)) bt181.1 bt181.2.1 bt181.2.2 x175000 x175001 x175002))) else (some (x175000, x175001, x175002))
end
def spec_PointTimes.f (k : Nat) (a0 : Int) (a1_0 : Int) (a1_1 : Int) (a1_2 : Bool) : Option (Int × Int × Bool) := (spec_PointOk.f a1_0 a1_1 a1_2).bind fun t163 => (if t163 = true then (if (Int.tmod a0 12108) < 0 then ((spec_PointNeg.f a1_0 a1_1 a1_2).bind fun bt168 => (spec_PointTimes.j0 k (wrap64 (-(Int.tmod a0 12108))) bt168.1 bt168.2.1 bt168.2.2)) else (spec_PointTimes.j0 k (Int.tmod a0 12108) a1_0 a1_1 a1_2)) else ((spec_l07Zero.f).bind fun bt164 => (some (bt164.1, bt164.2.1, bt164.2.2))))
theorem spec_PointTimes.mono_l : ∀ k, (∀ y0 y1 y2 y3, LeO (spec_PointTimes.j0 k y0 y1 y2 y3) (spec_PointTimes.j0 (k + 1) y0 y1 y2 y3)) ∧ (∀ y0 y1 y2 y3 y4 y5 y6, LeO (spec_PointTimes.l0 k y0 y1 y2 y3 y4 y5 y6) (spec_PointTimes.l0 (k + 1) y0 y1 y2 y3 y4 y5 y6))
 | 0 => ⟨fun _ _ _ _ r h => by simp [spec_PointTimes.j0] at h, fun _ _ _ _ _ _ _ r h => by simp [spec_PointTimes.l0] at h⟩
 | k + 1 => by
  obtain ⟨ih0, ih1⟩ := spec_PointTimes.mono_l k
  refine ⟨?_, ?_⟩
  ·intro y0 y1 y2 y3
   unfold spec_PointTimes.j0
   repeat' first
   | (with_reducible exact ih0 _ _ _ _)
   | (with_reducible exact ih1 _ _ _ _ _ _ _)
   | (with_reducible exact spec_l07Add.mono _ _ _ _ _ _ _)
   | (with_reducible exact LeO.refl _)
   | (with_reducible exact LeO.none _)
   | (with_reducible refine LeO.ite ?_ ?_)
   | (with_reducible refine LeO.bind ?_ (fun _ => ?_))
   | exact ih0 _ _ _ _
   | exact ih1 _ _ _ _ _ _ _
   | exact spec_l07Add.mono _ _ _ _ _ _ _
   | exact LeO.none _
   | refine LeO.ite ?_ ?_
   | refine LeO.bind ?_ (fun _ => ?_)
  ·intro y0 y1 y2 y3 y4 y5 y6
   unfold spec_PointTimes.l0
   repeat' first
   | (with_reducible exact ih0 _ _ _ _)
   | (with_reducible exact ih1 _ _ _ _ _ _ _)
   | (with_reducible exact spec_l07Add.mono _ _ _ _ _ _ _)
   | (with_reducible exact LeO.refl _)
   | (with_reducible exact LeO.none _)
   | (with_reducible refine LeO.ite ?_ ?_)
   | (with_reducible refine LeO.bind ?_ (fun _ => ?_))
   | exact ih0 _ _ _ _
   | exact ih1 _ _ _ _ _ _ _
   | exact spec_l07Add.mono _ _ _ _ _ _ _
   | exact LeO.none _
   | refine LeO.ite ?_ ?_
   | refine LeO.bind ?_ (fun _ => ?_)
theorem spec_PointTimes.mono : ∀ a0 a1 a2 a3 k, LeO (spec_PointTimes.f k a0 a1 a2 a3) (spec_PointTimes.f (k + 1) a0 a1 a2 a3) := by
 intro a0 a1 a2 a3 k
 obtain ⟨ih0, ih1⟩ := spec_PointTimes.mono_l k
 unfold spec_PointTimes.f
 repeat' first
   | (with_reducible exact ih0 _ _ _ _)
   | (with_reducible exact ih1 _ _ _ _ _ _ _)
   | (with_reducible exact spec_l07Add.mono _ _ _ _ _ _ _)
   | (with_reducible exact LeO.refl _)
   | (with_reducible exact LeO.none _)
   | (with_reducible refine LeO.ite ?_ ?_)
   | (with_reducible refine LeO.bind ?_ (fun _ => ?_))
   | exact ih0 _ _ _ _
   | exact ih1 _ _ _ _ _ _ _
   | exact spec_l07Add.mono _ _ _ _ _ _ _
   | exact LeO.none _
   | refine LeO.ite ?_ ?_
   | refine LeO.bind ?_ (fun _ => ?_)
set_option maxHeartbeats 8000000 in
set_option maxRecDepth 100000 in
theorem spec_PointTimes.calls (k : Nat) (a0 : Int) (a1_0 : Int) (a1_1 : Int) (a1_2 : Bool) (r1 : Int) (r2 : Int) (r3 : Bool) (w : World) (h : spec_PointTimes.f k a0 a1_0 a1_1 a1_2 = some (r1, r2, r3)) :
  Calls Try.prog 27 #[.int .i64 a0, .agg #[.int .i64 a1_0, .int .i64 a1_1, .bool a1_2]] w fun e w' => e = .returned (.agg #[.int .i64 r1, .int .i64 r2, .bool r3]) ∧ Below w.heap.size w w' := by
 have hu25 := Try.underlying25
 have HB := Aside0.mk (Below.refl w.heap.size w)
 have H : ((spec_PointOk.f a1_0 a1_1 a1_2).bind fun t163 => (if t163 = true then (if (Int.tmod a0 12108) < 0 then ((spec_PointNeg.f a1_0 a1_1 a1_2).bind fun bt168 => (spec_PointTimes.j0 k (wrap64 (-(Int.tmod a0 12108))) bt168.1 bt168.2.1 bt168.2.2)) else (spec_PointTimes.j0 k (Int.tmod a0 12108) a1_0 a1_1 a1_2)) else ((spec_l07Zero.f).bind fun bt164 => (some (bt164.1, bt164.2.1, bt164.2.2))))) = some (r1, r2, r3) := h
 clear h
 replace H := Option.bind_eq_some_iff.mp H
 obtain ⟨t163, A30, H⟩ := H
 replace H : (if t163 = true then (if (Int.tmod a0 12108) < 0 then ((spec_PointNeg.f a1_0 a1_1 a1_2).bind fun bt168 => (spec_PointTimes.j0 k (wrap64 (-(Int.tmod a0 12108))) bt168.1 bt168.2.1 bt168.2.2)) else (spec_PointTimes.j0 k (Int.tmod a0 12108) a1_0 a1_1 a1_2)) else ((spec_l07Zero.f).bind fun bt164 => (some (bt164.1, bt164.2.1, bt164.2.2)))) = some (r1, r2, r3) := H
 have A3 := Aside0.mk A30
 clear A30
 by_cases c4 : t163 = true
 ·subst c4
  have H1 : (if (Int.tmod a0 12108) < 0 then ((spec_PointNeg.f a1_0 a1_1 a1_2).bind fun bt168 => (spec_PointTimes.j0 k (wrap64 (-(Int.tmod a0 12108))) bt168.1 bt168.2.1 bt168.2.2)) else (spec_PointTimes.j0 k (Int.tmod a0 12108) a1_0 a1_1 a1_2)) = some (r1, r2, r3) := by rw [if_pos rfl] at H; exact H
  clear H
  have H := H1
  clear H1
  have HC5 := Aside0.mk H
  clear H
  go_enter Try.func27, Try.ntmps27
  go_upto_if 16 with (first | ((with_reducible refine gate_dst (N := 3) rfl ?_); refine box_event ?hg (N := 3) ?hd (cs := #[.int .i64 a1_0, .int .i64 a1_1, .bool a1_2]) (t := 25) ?hr ?_; (case hd => rfl); (case hg => rfl); (case hr => first | (go_simp; done) | (go_simp; rfl)); intro gb161 hg w6 hbox hb; have BK161 := Aside0.mk (hbox); have GW161 := bG HB hg; have GE161 := bG HB hg; replace HB := bS HB hb; clear hb hbox hg) | ((with_reducible refine gate_dst (N := 4) rfl ?_); refine box_event ?hg (N := 4) ?hd (cs := #[.int .i64 0, .int .i64 0, .bool false]) (t := 25) ?hr ?_; (case hd => rfl); (case hg => rfl); (case hr => first | (go_simp; done) | (go_simp; rfl)); intro gb162 hg w7 hbox hb; have BK162 := Aside0.mk (hbox); have GW162 := bG HB hg; have GE162 := bG HB hg; replace HB := bS HB hb; have NB161_162 := bL BK161 hg; have NB162_161 := bR BK161 hg; replace BK161 := bB BK161 hb; clear hb hbox hg; have hnb8 := NB161_162.out; have hnc8 := NB162_161.out; have hcz9_0 : w7.cell? ⟨gb161, 0, none⟩ = some (.int .i64 a1_0) := bc BK161 0; have hcz9_1 : w7.cell? ⟨gb161, 1, none⟩ = some (.int .i64 a1_1) := bc BK161 1; have hcz9_2 : w7.cell? ⟨gb161, 2, none⟩ = some (.bool a1_2) := bc BK161 2; have hfz9_0 := blk_frozen BK161.out 0; have hfz9_1 := blk_frozen BK161.out 1; have hfz9_2 := blk_frozen BK161.out 2) | ((with_reducible refine gate_callee (f := 55) rfl ?_); refine goesL_ (some 9) rfl rfl Try.func55 (by kernel_rfl) rfl #[.agg #[.int .i64 a1_0, .int .i64 a1_1, .bool a1_2]] rfl (by (try simp only [List.map_toArray, List.map_cons, List.map_nil]); first | done | rfl | (simp only [List.length_drop, List.length_take]; rfl)) ?_; (with_reducible refine (spec_PointOk.calls a1_0 a1_1 a1_2 true _ A3.out).mono ?_); rintro e w10 ⟨rfl, hb⟩; refine ⟨_, rfl, ?_⟩; replace BK161 := bB BK161 hb; replace BK162 := bB BK162 hb; replace HB := bS HB hb; (try clear hb); (try clear hb2); (try clear hk); (try clear hi); have hcz11_0 : w10.cell? ⟨gb161, 0, none⟩ = some (.int .i64 a1_0) := bc BK161 0; have hcz11_1 : w10.cell? ⟨gb161, 1, none⟩ = some (.int .i64 a1_1) := bc BK161 1; have hcz11_2 : w10.cell? ⟨gb161, 2, none⟩ = some (.bool a1_2) := bc BK161 2; have hfz11_0 := blk_frozen BK161.out 0; have hfz11_1 := blk_frozen BK161.out 1; have hfz11_2 := blk_frozen BK161.out 2) | ((with_reducible refine gate_dst (N := 6) rfl ?_); refine box_event ?hg (N := 6) ?hd (cs := #[.int .i64 0, .int .i64 0, .bool false]) (t := 25) ?hr ?_; (case hd => rfl); (case hg => rfl); (case hr => first | (go_simp; done) | (go_simp; rfl)); intro gb167 hg w12 hbox hb; have BK167 := Aside0.mk (hbox); have GW167 := bG HB hg; have GE167 := bG HB hg; replace HB := bS HB hb; have NB161_167 := bL BK161 hg; have NB167_161 := bR BK161 hg; replace BK161 := bB BK161 hb; have NB162_167 := bL BK162 hg; have NB167_162 := bR BK162 hg; replace BK162 := bB BK162 hb; clear hb hbox hg; have hnb13 := NB167_161.out; have hnc13 := NB161_167.out; have hnb14 := NB167_162.out; have hnc14 := NB162_167.out; have hcz15_0 : w12.cell? ⟨gb167, 0, none⟩ = some (.int .i64 0) := bc BK167 0; have hcz15_1 : w12.cell? ⟨gb167, 1, none⟩ = some (.int .i64 0) := bc BK167 1; have hcz15_2 : w12.cell? ⟨gb167, 2, none⟩ = some (.bool false) := bc BK167 2; have hfz15_0 := blk_frozen BK167.out 0; have hfz15_1 := blk_frozen BK167.out 1; have hfz15_2 := blk_frozen BK167.out 2))
  (try simp only [Act.put, List.setIfInBounds_toArray, List.set_cons_zero, List.set_cons_succ])
  go_cut [5] (fun v5 wc => ∃ (kq : Nat) (x5_4 : Int) (x168000_4 : Int) (x168001_4 : Int) (x168002_4 : Bool), v5 = .int .i64 x5_4 ∧ Aside0 (spec_PointTimes.j0 kq x5_4 x168000_4 x168001_4 x168002_4 = some (r1, r2, r3)) ∧ Aside0 (kq ≤ k) ∧ Aside0 (wc.heap[gb161]? = some (.cells #[.int .i64 a1_0, .int .i64 a1_1, .bool a1_2] 25 (0, 0))) ∧ Aside0 (wc.heap[gb162]? = some (.cells #[.int .i64 0, .int .i64 0, .bool false] 25 (0, 0))) ∧ Aside0 (wc.heap[gb167]? = some (.cells #[.int .i64 x168000_4, .int .i64 x168001_4, .bool x168002_4] 25 (0, 0))) ∧ Aside0 (Below w.heap.size w wc))
  case first =>
   have H := HC5.out
   clear HC5
   by_cases c16 : (Int.tmod a0 12108) < 0
   ·rw [if_pos c16] at H
    have c16b0 : decide ((Int.tmod a0 12108) < 0) = true := decide_eq_true c16
    clear c16
    (first | rw [c16b0] | (simp only [i64_w, i32_w]; rw [c16b0]) | rw [c16b1] | skip)
    replace H := Option.bind_eq_some_iff.mp H
    obtain ⟨⟨t168, t169, t170⟩, A170, H⟩ := H
    replace H : (spec_PointTimes.j0 k (wrap64 (-(Int.tmod a0 12108))) t168 t169 t170) = some (r1, r2, r3) := H
    have A17 := Aside0.mk A170
    clear A170
    have H' := Aside0.mk H
    clear H
    have hnb18 := NB161_162.out
    have hnc18 := NB162_161.out
    have hnb19 := NB161_167.out
    have hnc19 := NB167_161.out
    have hcz20_0 : w12.cell? ⟨gb161, 0, none⟩ = some (.int .i64 a1_0) := bc BK161 0
    have hcz20_1 : w12.cell? ⟨gb161, 1, none⟩ = some (.int .i64 a1_1) := bc BK161 1
    have hcz20_2 : w12.cell? ⟨gb161, 2, none⟩ = some (.bool a1_2) := bc BK161 2
    have hfz20_0 := blk_frozen BK161.out 0
    have hfz20_1 := blk_frozen BK161.out 1
    have hfz20_2 := blk_frozen BK161.out 2
    go_wp2_with (first | ((with_reducible refine gate_callee (f := 79) rfl ?_); refine goesL_ (some 20) rfl rfl Try.func79 (by kernel_rfl) rfl #[.agg #[.int .i64 a1_0, .int .i64 a1_1, .bool a1_2]] rfl (by (try simp only [List.map_toArray, List.map_cons, List.map_nil]); first | done | rfl | (simp only [List.length_drop, List.length_take]; rfl)) ?_; (with_reducible refine (spec_PointNeg.calls a1_0 a1_1 a1_2 t168 t169 t170 _ A17.out).mono ?_); rintro e w21 ⟨rfl, hb⟩; refine ⟨_, rfl, ?_⟩; replace BK161 := bB BK161 hb; replace BK162 := bB BK162 hb; replace BK167 := Aside0.mk (blk_below (g := gb167) (o := .cells #[.int .i64 a1_0, .int .i64 a1_1, .bool a1_2] 25 (0, 0)) (by (with_reducible repeat (first | refine blk_drewN ?_ _ | refine blk_drew ?_ | refine blk_alloc ?_ _)); refine blk_put (cs := #[.int .i64 a1_0, .int .i64 a1_1, .bool false]) ?_ 2 _ rfl; (with_reducible repeat (first | refine blk_drewN ?_ _ | refine blk_drew ?_ | refine blk_alloc ?_ _)); refine blk_put (cs := #[.int .i64 a1_0, .int .i64 0, .bool false]) ?_ 1 _ rfl; (with_reducible repeat (first | refine blk_drewN ?_ _ | refine blk_drew ?_ | refine blk_alloc ?_ _)); refine blk_put (cs := #[.int .i64 0, .int .i64 0, .bool false]) ?_ 0 _ rfl; (with_reducible repeat (first | refine blk_drewN ?_ _ | refine blk_drew ?_ | refine blk_alloc ?_ _)); exact BK167.out) hb); replace HB := bS HB hb; (try clear hb); (try clear hb2); (try clear hk); (try clear hi); have hnb22 := NB167_162.out; have hnc22 := NB162_167.out; have hcz23_0 : w21.cell? ⟨gb167, 0, none⟩ = some (.int .i64 a1_0) := bc BK167 0; have hcz23_1 : w21.cell? ⟨gb167, 1, none⟩ = some (.int .i64 a1_1) := bc BK167 1; have hcz23_2 : w21.cell? ⟨gb167, 2, none⟩ = some (.bool a1_2) := bc BK167 2; have hfz23_0 := blk_frozen BK167.out 0; have hfz23_1 := blk_frozen BK167.out 1; have hfz23_2 := blk_frozen BK167.out 2))
    go_meet
    case rel => exact ⟨_, (wrap64 (-(Int.tmod a0 12108))), (t168), (t169), (t170), (by first | rfl | (simp; done) | (simp [*]; done)), H', ⟨by first | omega | exact Nat.le_refl _⟩, ⟨bP BK161⟩, ⟨bP BK162⟩, ⟨by (with_reducible repeat (first | refine blk_drewN ?_ _ | refine blk_drew ?_ | refine blk_alloc ?_ _)); refine blk_put (cs := #[.int .i64 t168, .int .i64 t169, .bool a1_2]) ?_ 2 _ rfl; (with_reducible repeat (first | refine blk_drewN ?_ _ | refine blk_drew ?_ | refine blk_alloc ?_ _)); refine blk_put (cs := #[.int .i64 t168, .int .i64 a1_1, .bool a1_2]) ?_ 1 _ rfl; (with_reducible repeat (first | refine blk_drewN ?_ _ | refine blk_drew ?_ | refine blk_alloc ?_ _)); refine blk_put (cs := #[.int .i64 a1_0, .int .i64 a1_1, .bool a1_2]) ?_ 0 _ rfl; (with_reducible repeat (first | refine blk_drewN ?_ _ | refine blk_drew ?_ | refine blk_alloc ?_ _)); exact BK167.out⟩, ⟨bZ HB⟩⟩
   ·rw [if_neg c16] at H
    have c16b0 : decide ((Int.tmod a0 12108) < 0) = false := decide_eq_false c16
    clear c16
    (first | rw [c16b0] | (simp only [i64_w, i32_w]; rw [c16b0]) | rw [c16b1] | skip)
    have H' := Aside0.mk H
    clear H
    go_wp2
    go_meet
    case rel => exact ⟨_, (Int.tmod a0 12108), (a1_0), (a1_1), (a1_2), (by first | rfl | (simp; done) | (simp [*]; done)), H', ⟨by first | omega | exact Nat.le_refl _⟩, ⟨bP BK161⟩, ⟨bP BK162⟩, ⟨by (with_reducible repeat (first | refine blk_drewN ?_ _ | refine blk_drew ?_ | refine blk_alloc ?_ _)); refine blk_put (cs := #[.int .i64 a1_0, .int .i64 a1_1, .bool false]) ?_ 2 _ rfl; (with_reducible repeat (first | refine blk_drewN ?_ _ | refine blk_drew ?_ | refine blk_alloc ?_ _)); refine blk_put (cs := #[.int .i64 a1_0, .int .i64 0, .bool false]) ?_ 1 _ rfl; (with_reducible repeat (first | refine blk_drewN ?_ _ | refine blk_drew ?_ | refine blk_alloc ?_ _)); refine blk_put (cs := #[.int .i64 0, .int .i64 0, .bool false]) ?_ 0 _ rfl; (with_reducible repeat (first | refine blk_drewN ?_ _ | refine blk_drew ?_ | refine blk_alloc ?_ _)); exact BK167.out⟩, ⟨bZ HB⟩⟩
  case rest =>
   clear HC5
   try clear c1
   try clear c2
   try clear p2
   try clear c4
   try clear c5
   try clear p6
   try clear c7
   try clear c8
   try clear c13
   try clear c14
   try clear c16
   try clear c16b0
   try clear c18
   try clear c19
   try clear c22
   try clear hcz11_0
   try clear hcz11_1
   try clear hcz11_2
   try clear hcz15_0
   try clear hcz15_1
   try clear hcz15_2
   try clear hcz20_0
   try clear hcz20_1
   try clear hcz20_2
   try clear hcz23_0
   try clear hcz23_1
   try clear hcz23_2
   try clear hcz9_0
   try clear hcz9_1
   try clear hcz9_2
   try clear hfz11_0
   try clear hfz11_1
   try clear hfz11_2
   try clear hfz15_0
   try clear hfz15_1
   try clear hfz15_2
   try clear hfz20_0
   try clear hfz20_1
   try clear hfz20_2
   try clear hfz23_0
   try clear hfz23_1
   try clear hfz23_2
   try clear hfz9_0
   try clear hfz9_1
   try clear hfz9_2
   obtain ⟨kq, x5_4, x168000_4, x168001_4, x168002_4, rfl, HA, HJ4, BK161, BK162, BK167, HB⟩ := hcut
   cases kq with
   | zero => exact absurd HA.out (by simp [spec_PointTimes.j0])
   | succ kj4 =>
    have H := HA.out
    clear HA
    simp only [spec_PointTimes.j0] at H
    replace H := Option.bind_eq_some_iff.mp H
    obtain ⟨⟨t171, t172, t173⟩, A240, H⟩ := H
    replace H : (spec_PointTimes.l0 kj4 x5_4 x168000_4 x168001_4 x168002_4 t171 t172 t173) = some (r1, r2, r3) := H
    have A24 := Aside0.mk A240
    clear A240
    have H' := Aside0.mk H
    clear H
    go_wp2_with (first | ((with_reducible refine gate_callee (f := 78) rfl ?_); refine goesL_ (some 21) rfl rfl Try.func78 (by kernel_rfl) rfl #[] rfl (by (try simp only [List.map_toArray, List.map_cons, List.map_nil]); first | done | rfl | (simp only [List.length_drop, List.length_take]; rfl)) ?_; (with_reducible refine (spec_l07Zero.calls  t171 t172 t173 _ A24.out).mono ?_); rintro e w25 ⟨rfl, hb⟩; refine ⟨_, rfl, ?_⟩; replace BK161 := bB BK161 hb; replace BK162 := bB BK162 hb; replace BK167 := bB BK167 hb; replace HB := bS HB hb; (try clear hb); (try clear hb2); (try clear hk); (try clear hi)) | ((with_reducible refine gate_dst (N := 7) rfl ?_); refine box_event ?hg (N := 7) ?hd (cs := #[.int .i64 0, .int .i64 0, .bool false]) (t := 25) ?hr ?_; (case hd => rfl); (case hg => rfl); (case hr => first | (go_simp; done) | (go_simp; rfl)); intro gb174 hg w26 hbox hb; have BK174 := Aside0.mk (hbox); have GW174 := bG HB hg; have GE174 := bG HB hg; replace HB := bS HB hb; have NB161_174 := bL BK161 hg; have NB174_161 := bR BK161 hg; replace BK161 := bB BK161 hb; have NB162_174 := bL BK162 hg; have NB174_162 := bR BK162 hg; replace BK162 := bB BK162 hb; have NB167_174 := bL BK167 hg; have NB174_167 := bR BK167 hg; replace BK167 := bB BK167 hb; clear hb hbox hg; have hnb27 := NB174_161.out; have hnc27 := NB161_174.out; have hnb28 := NB174_162.out; have hnc28 := NB162_174.out; have hnb29 := NB174_167.out; have hnc29 := NB167_174.out; have hcz30_0 : w26.cell? ⟨gb174, 0, none⟩ = some (.int .i64 0) := bc BK174 0; have hcz30_1 : w26.cell? ⟨gb174, 1, none⟩ = some (.int .i64 0) := bc BK174 1; have hcz30_2 : w26.cell? ⟨gb174, 2, none⟩ = some (.bool false) := bc BK174 2; have hfz30_0 := blk_frozen BK174.out 0; have hfz30_1 := blk_frozen BK174.out 1; have hfz30_2 := blk_frozen BK174.out 2))
    go_loopg [5] kj4 (fun kq v5 w' => ∃ (x5_2 : Int) (x168000_2 : Int) (x168001_2 : Int) (x168002_2 : Bool) (x175000_2 : Int) (x175001_2 : Int) (x175002_2 : Bool), v5 = .int .i64 x5_2 ∧ Aside0 (spec_PointTimes.l0 kq x5_2 x168000_2 x168001_2 x168002_2 x175000_2 x175001_2 x175002_2 = some (r1, r2, r3)) ∧ Aside0 (kq ≤ kj4) ∧ Aside0 (w'.heap[gb161]? = some (.cells #[.int .i64 a1_0, .int .i64 a1_1, .bool a1_2] 25 (0, 0))) ∧ Aside0 (w'.heap[gb162]? = some (.cells #[.int .i64 0, .int .i64 0, .bool false] 25 (0, 0))) ∧ Aside0 (w'.heap[gb167]? = some (.cells #[.int .i64 x168000_2, .int .i64 x168001_2, .bool x168002_2] 25 (0, 0))) ∧ Aside0 (w'.heap[gb174]? = some (.cells #[.int .i64 x175000_2, .int .i64 x175001_2, .bool x175002_2] 25 (0, 0))) ∧ Aside0 (Below w.heap.size w w'))
    case atStart => exact ⟨(x5_4), (x168000_4), (x168001_4), (x168002_4), (t171), (t172), (t173), (by first | rfl | (simp; done) | (simp [*]; done)), H', ⟨Nat.le_refl _⟩, ⟨bP BK161⟩, ⟨bP BK162⟩, ⟨bP BK167⟩, ⟨by (with_reducible repeat (first | refine blk_drewN ?_ _ | refine blk_drew ?_ | refine blk_alloc ?_ _)); refine blk_put (cs := #[.int .i64 t171, .int .i64 t172, .bool false]) ?_ 2 _ rfl; (with_reducible repeat (first | refine blk_drewN ?_ _ | refine blk_drew ?_ | refine blk_alloc ?_ _)); refine blk_put (cs := #[.int .i64 t171, .int .i64 0, .bool false]) ?_ 1 _ rfl; (with_reducible repeat (first | refine blk_drewN ?_ _ | refine blk_drew ?_ | refine blk_alloc ?_ _)); refine blk_put (cs := #[.int .i64 0, .int .i64 0, .bool false]) ?_ 0 _ rfl; (with_reducible repeat (first | refine blk_drewN ?_ _ | refine blk_drew ?_ | refine blk_alloc ?_ _)); exact BK174.out⟩, ⟨bZ HB⟩⟩
    case round =>
     clear H'
     try clear c1
     try clear c2
     try clear p2
     try clear c4
     try clear c5
     try clear p6
     try clear c7
     try clear c8
     try clear c13
     try clear c14
     try clear c16
     try clear c16b0
     try clear c18
     try clear c19
     try clear c22
     try clear c27
     try clear c28
     try clear c29
     try clear hcz11_0
     try clear hcz11_1
     try clear hcz11_2
     try clear hcz15_0
     try clear hcz15_1
     try clear hcz15_2
     try clear hcz20_0
     try clear hcz20_1
     try clear hcz20_2
     try clear hcz23_0
     try clear hcz23_1
     try clear hcz23_2
     try clear hcz30_0
     try clear hcz30_1
     try clear hcz30_2
     try clear hcz9_0
     try clear hcz9_1
     try clear hcz9_2
     try clear hfz11_0
     try clear hfz11_1
     try clear hfz11_2
     try clear hfz15_0
     try clear hfz15_1
     try clear hfz15_2
     try clear hfz20_0
     try clear hfz20_1
     try clear hfz20_2
     try clear hfz23_0
     try clear hfz23_1
     try clear hfz23_2
     try clear hfz30_0
     try clear hfz30_1
     try clear hfz30_2
     try clear hfz9_0
     try clear hfz9_1
     try clear hfz9_2
     try clear p2
     try clear p6
     obtain ⟨x5_2, x168000_2, x168001_2, x168002_2, x175000_2, x175001_2, x175002_2, rfl, HA, HK2, BK161, BK162, BK167, BK174, HB⟩ := hrel
     cases gk with
     | zero => exact absurd HA.out (by simp [spec_PointTimes.l0])
     | succ k2 =>
      have H := HA.out
      clear HA
      simp only [spec_PointTimes.l0] at H
      by_cases c31 : x5_2 > 0
      ·rw [if_pos c31] at H
       have c31b0 : decide (0 < x5_2) = true := decide_eq_true c31
       clear c31
       by_cases c32 : (Int.tmod x5_2 2) = 1
       ·rw [if_pos c32] at H
        have c32b0 : ((Int.tmod x5_2 2) == 1) = true := beq_iff_eq.mpr c32
        have c32b1 : ((Int.tmod x5_2 2) != 1) = false := bne_eq_false_iff_eq.mpr c32
        clear c32
        replace H := Option.bind_eq_some_iff.mp H
        obtain ⟨⟨t175, t176, t177⟩, A330, H⟩ := H
        replace H : ((spec_l07Add.f k2 x168000_2 x168001_2 x168002_2 x168000_2 x168001_2 x168002_2).bind fun bt178 => (spec_PointTimes.l0 k2 (wrap64 (Int.tdiv x5_2 2)) bt178.1 bt178.2.1 bt178.2.2 t175 t176 t177)) = some (r1, r2, r3) := H
        have A33 := Aside0.mk A330
        clear A330
        replace H := Option.bind_eq_some_iff.mp H
        obtain ⟨⟨t178, t179, t180⟩, A340, H⟩ := H
        replace H : (spec_PointTimes.l0 k2 (wrap64 (Int.tdiv x5_2 2)) t178 t179 t180 t175 t176 t177) = some (r1, r2, r3) := H
        have A34 := Aside0.mk A340
        clear A340
        have H' := Aside0.mk H
        clear H
        have hnb35 := NB174_161.out
        have hnc35 := NB161_174.out
        have hnb36 := NB174_162.out
        have hnc36 := NB162_174.out
        have hnb37 := NB174_167.out
        have hnc37 := NB167_174.out
        have hcz38_0 : wr.cell? ⟨gb174, 0, none⟩ = some (.int .i64 x175000_2) := bc BK174 0
        have hcz38_1 : wr.cell? ⟨gb174, 1, none⟩ = some (.int .i64 x175001_2) := bc BK174 1
        have hcz38_2 : wr.cell? ⟨gb174, 2, none⟩ = some (.bool x175002_2) := bc BK174 2
        have hfz38_0 := blk_frozen BK174.out 0
        have hfz38_1 := blk_frozen BK174.out 1
        have hfz38_2 := blk_frozen BK174.out 2
        have hnb39 := NB167_161.out
        have hnc39 := NB161_167.out
        have hnb40 := NB167_162.out
        have hnc40 := NB162_167.out
        have hcz41_0 : wr.cell? ⟨gb167, 0, none⟩ = some (.int .i64 x168000_2) := bc BK167 0
        have hcz41_1 : wr.cell? ⟨gb167, 1, none⟩ = some (.int .i64 x168001_2) := bc BK167 1
        have hcz41_2 : wr.cell? ⟨gb167, 2, none⟩ = some (.bool x168002_2) := bc BK167 2
        have hfz41_0 := blk_frozen BK167.out 0
        have hfz41_1 := blk_frozen BK167.out 1
        have hfz41_2 := blk_frozen BK167.out 2
        go_wp2_with (first | ((with_reducible refine gate_callee (f := 80) rfl ?_); refine goesL_ (some 29) rfl rfl Try.func80 (by kernel_rfl) rfl #[.agg #[.int .i64 x175000_2, .int .i64 x175001_2, .bool x175002_2], .agg #[.int .i64 x168000_2, .int .i64 x168001_2, .bool x168002_2]] rfl (by (try simp only [List.map_toArray, List.map_cons, List.map_nil]); first | done | rfl | (simp only [List.length_drop, List.length_take]; rfl)) ?_; (with_reducible refine (spec_l07Add.calls k2 x175000_2 x175001_2 x175002_2 x168000_2 x168001_2 x168002_2 t175 t176 t177 _ A33.out).mono ?_); rintro e w42 ⟨rfl, hb⟩; refine ⟨_, rfl, ?_⟩; replace BK161 := bB BK161 hb; replace BK162 := bB BK162 hb; replace BK167 := bB BK167 hb; replace BK174 := bB BK174 hb; replace HB := bS HB hb; (try clear hb); (try clear hb2); (try clear hk); (try clear hi); have hcz43_0 : w42.cell? ⟨gb174, 0, none⟩ = some (.int .i64 x175000_2) := bc BK174 0; have hcz43_1 : w42.cell? ⟨gb174, 1, none⟩ = some (.int .i64 x175001_2) := bc BK174 1; have hcz43_2 : w42.cell? ⟨gb174, 2, none⟩ = some (.bool x175002_2) := bc BK174 2; have hfz43_0 := blk_frozen BK174.out 0; have hfz43_1 := blk_frozen BK174.out 1; have hfz43_2 := blk_frozen BK174.out 2; have hcz44_0 : w42.cell? ⟨gb167, 0, none⟩ = some (.int .i64 x168000_2) := bc BK167 0; have hcz44_1 : w42.cell? ⟨gb167, 1, none⟩ = some (.int .i64 x168001_2) := bc BK167 1; have hcz44_2 : w42.cell? ⟨gb167, 2, none⟩ = some (.bool x168002_2) := bc BK167 2; have hfz44_0 := blk_frozen BK167.out 0; have hfz44_1 := blk_frozen BK167.out 1; have hfz44_2 := blk_frozen BK167.out 2) | ((with_reducible refine gate_callee (f := 80) rfl ?_); refine goesL_ (some 32) rfl rfl Try.func80 (by kernel_rfl) rfl #[.agg #[.int .i64 x168000_2, .int .i64 x168001_2, .bool x168002_2], .agg #[.int .i64 x168000_2, .int .i64 x168001_2, .bool x168002_2]] rfl (by (try simp only [List.map_toArray, List.map_cons, List.map_nil]); first | done | rfl | (simp only [List.length_drop, List.length_take]; rfl)) ?_; (with_reducible refine (spec_l07Add.calls k2 x168000_2 x168001_2 x168002_2 x168000_2 x168001_2 x168002_2 t178 t179 t180 _ A34.out).mono ?_); rintro e w45 ⟨rfl, hb⟩; refine ⟨_, rfl, ?_⟩; replace BK161 := bB BK161 hb; replace BK162 := bB BK162 hb; replace BK167 := bB BK167 hb; replace BK174 := Aside0.mk (blk_below (g := gb174) (o := .cells #[.int .i64 t175, .int .i64 t176, .bool t177] 25 (0, 0)) (by (with_reducible repeat (first | refine blk_drewN ?_ _ | refine blk_drew ?_ | refine blk_alloc ?_ _)); refine blk_put (cs := #[.int .i64 t175, .int .i64 t176, .bool x175002_2]) ?_ 2 _ rfl; (with_reducible repeat (first | refine blk_drewN ?_ _ | refine blk_drew ?_ | refine blk_alloc ?_ _)); refine blk_put (cs := #[.int .i64 t175, .int .i64 x175001_2, .bool x175002_2]) ?_ 1 _ rfl; (with_reducible repeat (first | refine blk_drewN ?_ _ | refine blk_drew ?_ | refine blk_alloc ?_ _)); refine blk_put (cs := #[.int .i64 x175000_2, .int .i64 x175001_2, .bool x175002_2]) ?_ 0 _ rfl; (with_reducible repeat (first | refine blk_drewN ?_ _ | refine blk_drew ?_ | refine blk_alloc ?_ _)); exact BK174.out) hb); replace HB := bS HB hb; (try clear hb); (try clear hb2); (try clear hk); (try clear hi); have hcz46_0 : w45.cell? ⟨gb167, 0, none⟩ = some (.int .i64 x168000_2) := bc BK167 0; have hcz46_1 : w45.cell? ⟨gb167, 1, none⟩ = some (.int .i64 x168001_2) := bc BK167 1; have hcz46_2 : w45.cell? ⟨gb167, 2, none⟩ = some (.bool x168002_2) := bc BK167 2; have hfz46_0 := blk_frozen BK167.out 0; have hfz46_1 := blk_frozen BK167.out 1; have hfz46_2 := blk_frozen BK167.out 2))
        go_roundg k2
        case measure => have := HJ4.out; have := HK2.out; omega
        case rel => exact ⟨(wrap64 (Int.tdiv x5_2 2)), (t178), (t179), (t180), (t175), (t176), (t177), (by first | rfl | (simp; done) | (simp [*]; done)), H', ⟨by have := HJ4.out; have := HK2.out; omega⟩, ⟨bP BK161⟩, ⟨bP BK162⟩, ⟨by (with_reducible repeat (first | refine blk_drewN ?_ _ | refine blk_drew ?_ | refine blk_alloc ?_ _)); refine blk_put (cs := #[.int .i64 t178, .int .i64 t179, .bool x168002_2]) ?_ 2 _ rfl; (with_reducible repeat (first | refine blk_drewN ?_ _ | refine blk_drew ?_ | refine blk_alloc ?_ _)); refine blk_put (cs := #[.int .i64 t178, .int .i64 x168001_2, .bool x168002_2]) ?_ 1 _ rfl; (with_reducible repeat (first | refine blk_drewN ?_ _ | refine blk_drew ?_ | refine blk_alloc ?_ _)); refine blk_put (cs := #[.int .i64 x168000_2, .int .i64 x168001_2, .bool x168002_2]) ?_ 0 _ rfl; (with_reducible repeat (first | refine blk_drewN ?_ _ | refine blk_drew ?_ | refine blk_alloc ?_ _)); exact BK167.out⟩, ⟨bP BK174⟩, ⟨bZ HB⟩⟩
       ·rw [if_neg c32] at H
        have c32b0 : ((Int.tmod x5_2 2) == 1) = false := beq_eq_false_iff_ne.mpr c32
        have c32b1 : ((Int.tmod x5_2 2) != 1) = true := bne_iff_ne.mpr c32
        replace H := Option.bind_eq_some_iff.mp H
        obtain ⟨⟨t181, t182, t183⟩, A470, H⟩ := H
        replace H : (spec_PointTimes.l0 k2 (wrap64 (Int.tdiv x5_2 2)) t181 t182 t183 x175000_2 x175001_2 x175002_2) = some (r1, r2, r3) := H
        have A47 := Aside0.mk A470
        clear A470
        have H' := Aside0.mk H
        clear H
        have hnb48 := NB167_161.out
        have hnc48 := NB161_167.out
        have hnb49 := NB167_162.out
        have hnc49 := NB162_167.out
        have hnb50 := NB167_174.out
        have hnc50 := NB174_167.out
        have hcz51_0 : wr.cell? ⟨gb167, 0, none⟩ = some (.int .i64 x168000_2) := bc BK167 0
        have hcz51_1 : wr.cell? ⟨gb167, 1, none⟩ = some (.int .i64 x168001_2) := bc BK167 1
        have hcz51_2 : wr.cell? ⟨gb167, 2, none⟩ = some (.bool x168002_2) := bc BK167 2
        have hfz51_0 := blk_frozen BK167.out 0
        have hfz51_1 := blk_frozen BK167.out 1
        have hfz51_2 := blk_frozen BK167.out 2
        go_wp2_with (first | ((with_reducible refine gate_callee (f := 80) rfl ?_); refine goesL_ (some 32) rfl rfl Try.func80 (by kernel_rfl) rfl #[.agg #[.int .i64 x168000_2, .int .i64 x168001_2, .bool x168002_2], .agg #[.int .i64 x168000_2, .int .i64 x168001_2, .bool x168002_2]] rfl (by (try simp only [List.map_toArray, List.map_cons, List.map_nil]); first | done | rfl | (simp only [List.length_drop, List.length_take]; rfl)) ?_; (with_reducible refine (spec_l07Add.calls k2 x168000_2 x168001_2 x168002_2 x168000_2 x168001_2 x168002_2 t181 t182 t183 _ A47.out).mono ?_); rintro e w52 ⟨rfl, hb⟩; refine ⟨_, rfl, ?_⟩; replace BK161 := bB BK161 hb; replace BK162 := bB BK162 hb; replace BK167 := bB BK167 hb; replace BK174 := bB BK174 hb; replace HB := bS HB hb; (try clear hb); (try clear hb2); (try clear hk); (try clear hi); have hcz53_0 : w52.cell? ⟨gb167, 0, none⟩ = some (.int .i64 x168000_2) := bc BK167 0; have hcz53_1 : w52.cell? ⟨gb167, 1, none⟩ = some (.int .i64 x168001_2) := bc BK167 1; have hcz53_2 : w52.cell? ⟨gb167, 2, none⟩ = some (.bool x168002_2) := bc BK167 2; have hfz53_0 := blk_frozen BK167.out 0; have hfz53_1 := blk_frozen BK167.out 1; have hfz53_2 := blk_frozen BK167.out 2))
        go_roundg k2
        case measure => have := HJ4.out; have := HK2.out; omega
        case rel => exact ⟨(wrap64 (Int.tdiv x5_2 2)), (t181), (t182), (t183), (x175000_2), (x175001_2), (x175002_2), (by first | rfl | (simp; done) | (simp [*]; done)), H', ⟨by have := HJ4.out; have := HK2.out; omega⟩, ⟨bP BK161⟩, ⟨bP BK162⟩, ⟨by (with_reducible repeat (first | refine blk_drewN ?_ _ | refine blk_drew ?_ | refine blk_alloc ?_ _)); refine blk_put (cs := #[.int .i64 t181, .int .i64 t182, .bool x168002_2]) ?_ 2 _ rfl; (with_reducible repeat (first | refine blk_drewN ?_ _ | refine blk_drew ?_ | refine blk_alloc ?_ _)); refine blk_put (cs := #[.int .i64 t181, .int .i64 x168001_2, .bool x168002_2]) ?_ 1 _ rfl; (with_reducible repeat (first | refine blk_drewN ?_ _ | refine blk_drew ?_ | refine blk_alloc ?_ _)); refine blk_put (cs := #[.int .i64 x168000_2, .int .i64 x168001_2, .bool x168002_2]) ?_ 0 _ rfl; (with_reducible repeat (first | refine blk_drewN ?_ _ | refine blk_drew ?_ | refine blk_alloc ?_ _)); exact BK167.out⟩, ⟨bP BK174⟩, ⟨bZ HB⟩⟩
      ·rw [if_neg c31] at H
       have c31b0 : decide (0 < x5_2) = false := decide_eq_false c31
       clear c31
       simp only [Option.some.injEq, Prod.mk.injEq] at H
       obtain ⟨rfl, rfl, rfl⟩ := H
       have hnb54 := NB174_161.out
       have hnc54 := NB161_174.out
       have hnb55 := NB174_162.out
       have hnc55 := NB162_174.out
       have hnb56 := NB174_167.out
       have hnc56 := NB167_174.out
       have hcz57_0 : wr.cell? ⟨gb174, 0, none⟩ = some (.int .i64 x175000_2) := bc BK174 0
       have hcz57_1 : wr.cell? ⟨gb174, 1, none⟩ = some (.int .i64 x175001_2) := bc BK174 1
       have hcz57_2 : wr.cell? ⟨gb174, 2, none⟩ = some (.bool x175002_2) := bc BK174 2
       have hfz57_0 := blk_frozen BK174.out 0
       have hfz57_1 := blk_frozen BK174.out 1
       have hfz57_2 := blk_frozen BK174.out 2
       have hnb58 := NB162_161.out
       have hnc58 := NB161_162.out
       have hnb59 := NB162_167.out
       have hnc59 := NB167_162.out
       have hcz60_0 : wr.cell? ⟨gb162, 0, none⟩ = some (.int .i64 0) := bc BK162 0
       have hcz60_1 : wr.cell? ⟨gb162, 1, none⟩ = some (.int .i64 0) := bc BK162 1
       have hcz60_2 : wr.cell? ⟨gb162, 2, none⟩ = some (.bool false) := bc BK162 2
       have hfz60_0 := blk_frozen BK162.out 0
       have hfz60_1 := blk_frozen BK162.out 1
       have hfz60_2 := blk_frozen BK162.out 2
       go_wp2
       refine bodyPost_ret (results_cell_row rfl _ _ gb162 25 #[.int .i64 x175000_2, .int .i64 x175001_2, .bool x175002_2] (0, 0) _ rfl (by (with_reducible repeat (first | refine blk_drewN ?_ _ | refine blk_drew ?_ | refine blk_alloc ?_ _)); refine blk_put (cs := #[.int .i64 x175000_2, .int .i64 x175001_2, .bool false]) ?_ 2 _ rfl; (with_reducible repeat (first | refine blk_drewN ?_ _ | refine blk_drew ?_ | refine blk_alloc ?_ _)); refine blk_put (cs := #[.int .i64 x175000_2, .int .i64 0, .bool false]) ?_ 1 _ rfl; (with_reducible repeat (first | refine blk_drewN ?_ _ | refine blk_drew ?_ | refine blk_alloc ?_ _)); refine blk_put (cs := #[.int .i64 0, .int .i64 0, .bool false]) ?_ 0 _ rfl; (with_reducible repeat (first | refine blk_drewN ?_ _ | refine blk_drew ?_ | refine blk_alloc ?_ _)); exact BK162.out) Try.underlying25 rfl (by kernel_rfl)) rfl ?_
       exact ⟨by first | rfl | (simp [errW_none, errW_some] <;> rfl) | (simp [*, errW_none, errW_some] <;> rfl), bZ HB⟩
 ·replace c4 := Bool.eq_false_iff.mpr c4
  subst c4
  have H1 : ((spec_l07Zero.f).bind fun bt164 => (some (bt164.1, bt164.2.1, bt164.2.2))) = some (r1, r2, r3) := by rw [if_neg (show ¬ (false = true) by decide)] at H; exact H
  clear H
  have H := H1
  clear H1
  replace H := Option.bind_eq_some_iff.mp H
  obtain ⟨⟨t164, t165, t166⟩, A610, H⟩ := H
  replace H : (some (t164, t165, t166)) = some (r1, r2, r3) := H
  have A61 := Aside0.mk A610
  clear A610
  simp only [Option.some.injEq, Prod.mk.injEq] at H
  obtain ⟨rfl, rfl, rfl⟩ := H
  go_enter Try.func27, Try.ntmps27
  go_wp2_with (first | ((with_reducible refine gate_dst (N := 3) rfl ?_); refine box_event ?hg (N := 3) ?hd (cs := #[.int .i64 a1_0, .int .i64 a1_1, .bool a1_2]) (t := 25) ?hr ?_; (case hd => rfl); (case hg => rfl); (case hr => first | (go_simp; done) | (go_simp; rfl)); intro gb161 hg w62 hbox hb; have BK161 := Aside0.mk (hbox); have GW161 := bG HB hg; have GE161 := bG HB hg; replace HB := bS HB hb; clear hb hbox hg) | ((with_reducible refine gate_dst (N := 4) rfl ?_); refine box_event ?hg (N := 4) ?hd (cs := #[.int .i64 0, .int .i64 0, .bool false]) (t := 25) ?hr ?_; (case hd => rfl); (case hg => rfl); (case hr => first | (go_simp; done) | (go_simp; rfl)); intro gb162 hg w63 hbox hb; have BK162 := Aside0.mk (hbox); have GW162 := bG HB hg; have GE162 := bG HB hg; replace HB := bS HB hb; have NB161_162 := bL BK161 hg; have NB162_161 := bR BK161 hg; replace BK161 := bB BK161 hb; clear hb hbox hg; have hnb64 := NB161_162.out; have hnc64 := NB162_161.out; have hcz65_0 : w63.cell? ⟨gb161, 0, none⟩ = some (.int .i64 a1_0) := bc BK161 0; have hcz65_1 : w63.cell? ⟨gb161, 1, none⟩ = some (.int .i64 a1_1) := bc BK161 1; have hcz65_2 : w63.cell? ⟨gb161, 2, none⟩ = some (.bool a1_2) := bc BK161 2; have hfz65_0 := blk_frozen BK161.out 0; have hfz65_1 := blk_frozen BK161.out 1; have hfz65_2 := blk_frozen BK161.out 2) | ((with_reducible refine gate_callee (f := 55) rfl ?_); refine goesL_ (some 9) rfl rfl Try.func55 (by kernel_rfl) rfl #[.agg #[.int .i64 a1_0, .int .i64 a1_1, .bool a1_2]] rfl (by (try simp only [List.map_toArray, List.map_cons, List.map_nil]); first | done | rfl | (simp only [List.length_drop, List.length_take]; rfl)) ?_; (with_reducible refine (spec_PointOk.calls a1_0 a1_1 a1_2 false _ A3.out).mono ?_); rintro e w66 ⟨rfl, hb⟩; refine ⟨_, rfl, ?_⟩; replace BK161 := bB BK161 hb; replace BK162 := bB BK162 hb; replace HB := bS HB hb; (try clear hb); (try clear hb2); (try clear hk); (try clear hi)) | ((with_reducible refine gate_callee (f := 78) rfl ?_); refine goesL_ (some 11) rfl rfl Try.func78 (by kernel_rfl) rfl #[] rfl (by (try simp only [List.map_toArray, List.map_cons, List.map_nil]); first | done | rfl | (simp only [List.length_drop, List.length_take]; rfl)) ?_; (with_reducible refine (spec_l07Zero.calls  t164 t165 t166 _ A61.out).mono ?_); rintro e w67 ⟨rfl, hb⟩; refine ⟨_, rfl, ?_⟩; replace BK161 := bB BK161 hb; replace BK162 := bB BK162 hb; replace HB := bS HB hb; (try clear hb); (try clear hb2); (try clear hk); (try clear hi); have hcz68_0 : w67.cell? ⟨gb162, 0, none⟩ = some (.int .i64 0) := bc BK162 0; have hcz68_1 : w67.cell? ⟨gb162, 1, none⟩ = some (.int .i64 0) := bc BK162 1; have hcz68_2 : w67.cell? ⟨gb162, 2, none⟩ = some (.bool false) := bc BK162 2; have hfz68_0 := blk_frozen BK162.out 0; have hfz68_1 := blk_frozen BK162.out 1; have hfz68_2 := blk_frozen BK162.out 2))
  refine bodyPost_ret (results_cell_row rfl _ _ gb162 25 #[.int .i64 t164, .int .i64 t165, .bool t166] (0, 0) _ rfl (by (with_reducible repeat (first | refine blk_drewN ?_ _ | refine blk_drew ?_ | refine blk_alloc ?_ _)); refine blk_put (cs := #[.int .i64 t164, .int .i64 t165, .bool false]) ?_ 2 _ rfl; (with_reducible repeat (first | refine blk_drewN ?_ _ | refine blk_drew ?_ | refine blk_alloc ?_ _)); refine blk_put (cs := #[.int .i64 t164, .int .i64 0, .bool false]) ?_ 1 _ rfl; (with_reducible repeat (first | refine blk_drewN ?_ _ | refine blk_drew ?_ | refine blk_alloc ?_ _)); refine blk_put (cs := #[.int .i64 0, .int .i64 0, .bool false]) ?_ 0 _ rfl; (with_reducible repeat (first | refine blk_drewN ?_ _ | refine blk_drew ?_ | refine blk_alloc ?_ _)); exact BK162.out) Try.underlying25 rfl (by kernel_rfl)) rfl ?_
  exact ⟨by first | rfl | (simp [errW_none, errW_some] <;> rfl) | (simp [*, errW_none, errW_some] <;> rfl), bZ HB⟩

end Go.Proofs.Ytmbjefdkjdemhaa.Pf
end
section
namespace Go.Proofs.Ytmbjefdkjdemhaa.Pf
open Go.RowKit Go.Proofs.YtmbjefdkjdemhaaW.PrintWords Go.Proofs.YtmbjefdkjdemhaaW.PrintLast Go.Proofs.YtmbjefdkjdemhaaW.PrintMore
attribute [local go_sem] max2_int min2_int max_two min_two max_three min_three max_four min_four   -- for this text's walks alone
set_option linter.unusedVariables false
set_option linter.unusedSimpArgs false
/-! ### spec_InGroup: function 52 -/
def spec_InGroup.f (k : Nat) (a0_0 : Int) (a0_1 : Int) (a0_2 : Bool) : Option (Bool) := (spec_PointOk.f a0_0 a0_1 a0_2).bind fun t473 => (if t473 = true then ((spec_PointTimes.f k 1009 a0_0 a0_1 a0_2).bind fun bt474 => (some bt474.2.2)) else (some false))
theorem spec_InGroup.mono : ∀ a0 a1 a2 k, LeO (spec_InGroup.f k a0 a1 a2) (spec_InGroup.f (k + 1) a0 a1 a2) := by
 intro a0 a1 a2 k
 unfold spec_InGroup.f
 repeat' first
   | (with_reducible exact spec_PointTimes.mono _ _ _ _ _)
   | (with_reducible exact LeO.refl _)
   | (with_reducible exact LeO.none _)
   | (with_reducible refine LeO.ite ?_ ?_)
   | (with_reducible refine LeO.bind ?_ (fun _ => ?_))
   | exact spec_PointTimes.mono _ _ _ _ _
   | exact LeO.none _
   | refine LeO.ite ?_ ?_
   | refine LeO.bind ?_ (fun _ => ?_)
set_option maxHeartbeats 8000000 in
set_option maxRecDepth 100000 in
theorem spec_InGroup.calls (k : Nat) (a0_0 : Int) (a0_1 : Int) (a0_2 : Bool) (r : Bool) (w : World) (h : spec_InGroup.f k a0_0 a0_1 a0_2 = some r) :
  Calls Try.prog 52 #[.agg #[.int .i64 a0_0, .int .i64 a0_1, .bool a0_2]] w fun e w' => e = .returned (.bool r) ∧ Below w.heap.size w w' := by
 have hu25 := Try.underlying25
 have hfd25_0 : ∀ (x0 : Int) (x1 : Int) (x2 : Bool) (w_ : World), (Instr.field 25 (.agg #[.int .i64 x0, .int .i64 x1, .bool x2]) 0).run Try.prog w_ = .ok (.int .i64 x0) w_ := fun _ _ _ _ => by kernel_rfl
 have hfd25_1 : ∀ (x0 : Int) (x1 : Int) (x2 : Bool) (w_ : World), (Instr.field 25 (.agg #[.int .i64 x0, .int .i64 x1, .bool x2]) 1).run Try.prog w_ = .ok (.int .i64 x1) w_ := fun _ _ _ _ => by kernel_rfl
 have hfd25_2 : ∀ (x0 : Int) (x1 : Int) (x2 : Bool) (w_ : World), (Instr.field 25 (.agg #[.int .i64 x0, .int .i64 x1, .bool x2]) 2).run Try.prog w_ = .ok (.bool x2) w_ := fun _ _ _ _ => by kernel_rfl
 have HB := Aside0.mk (Below.refl w.heap.size w)
 have H : ((spec_PointOk.f a0_0 a0_1 a0_2).bind fun t473 => (if t473 = true then ((spec_PointTimes.f k 1009 a0_0 a0_1 a0_2).bind fun bt474 => (some bt474.2.2)) else (some false))) = some r := h
 clear h
 replace H := Option.bind_eq_some_iff.mp H
 obtain ⟨t473, A20, H⟩ := H
 replace H : (if t473 = true then ((spec_PointTimes.f k 1009 a0_0 a0_1 a0_2).bind fun bt474 => (some bt474.2.2)) else (some false)) = some r := H
 have A2 := Aside0.mk A20
 clear A20
 by_cases c3 : t473 = true
 ·subst c3
  have H1 : ((spec_PointTimes.f k 1009 a0_0 a0_1 a0_2).bind fun bt474 => (some bt474.2.2)) = some r := by rw [if_pos rfl] at H; exact H
  clear H
  have H := H1
  clear H1
  replace H := Option.bind_eq_some_iff.mp H
  obtain ⟨⟨t474, t475, t476⟩, A40, H⟩ := H
  replace H : (some t476) = some r := H
  have A4 := Aside0.mk A40
  clear A40
  obtain rfl := Option.some.inj H
  go_enter Try.func52, Try.ntmps52
  go_wp2_with (first | ((with_reducible refine gate_dst (N := 1) rfl ?_); refine box_event ?hg (N := 1) ?hd (cs := #[.int .i64 a0_0, .int .i64 a0_1, .bool a0_2]) (t := 25) ?hr ?_; (case hd => rfl); (case hg => rfl); (case hr => first | (go_simp; done) | (go_simp; rfl)); intro gb472 hg w5 hbox hb; have BK472 := Aside0.mk (hbox); have GW472 := bG HB hg; have GE472 := bG HB hg; replace HB := bS HB hb; clear hb hbox hg; have hcz6_0 : w5.cell? ⟨gb472, 0, none⟩ = some (.int .i64 a0_0) := bc BK472 0; have hcz6_1 : w5.cell? ⟨gb472, 1, none⟩ = some (.int .i64 a0_1) := bc BK472 1; have hcz6_2 : w5.cell? ⟨gb472, 2, none⟩ = some (.bool a0_2) := bc BK472 2; have hfz6_0 := blk_frozen BK472.out 0; have hfz6_1 := blk_frozen BK472.out 1; have hfz6_2 := blk_frozen BK472.out 2) | ((with_reducible refine gate_callee (f := 55) rfl ?_); refine goesL_ (some 4) rfl rfl Try.func55 (by kernel_rfl) rfl #[.agg #[.int .i64 a0_0, .int .i64 a0_1, .bool a0_2]] rfl (by (try simp only [List.map_toArray, List.map_cons, List.map_nil]); first | done | rfl | (simp only [List.length_drop, List.length_take]; rfl)) ?_; (with_reducible refine (spec_PointOk.calls a0_0 a0_1 a0_2 true _ A2.out).mono ?_); rintro e w7 ⟨rfl, hb⟩; refine ⟨_, rfl, ?_⟩; replace BK472 := bB BK472 hb; replace HB := bS HB hb; (try clear hb); (try clear hb2); (try clear hk); (try clear hi); have hcz8_0 : w7.cell? ⟨gb472, 0, none⟩ = some (.int .i64 a0_0) := bc BK472 0; have hcz8_1 : w7.cell? ⟨gb472, 1, none⟩ = some (.int .i64 a0_1) := bc BK472 1; have hcz8_2 : w7.cell? ⟨gb472, 2, none⟩ = some (.bool a0_2) := bc BK472 2; have hfz8_0 := blk_frozen BK472.out 0; have hfz8_1 := blk_frozen BK472.out 1; have hfz8_2 := blk_frozen BK472.out 2) | (go_at_call 27; (with_reducible refine (spec_PointTimes.calls k 1009 a0_0 a0_1 a0_2 t474 t475 t476 _ A4.out).mono ?_); rintro e w9 ⟨rfl, hb⟩; replace BK472 := bB BK472 hb; replace HB := bS HB hb; (try clear hb); (try clear hb2); (try clear hk); (try clear hi)))
  go_ret
  exact ⟨by first | rfl | (simp [errW_none, errW_some] <;> rfl) | (simp [*, errW_none, errW_some] <;> rfl), bZ HB⟩
 ·replace c3 := Bool.eq_false_iff.mpr c3
  subst c3
  have H1 : (some false) = some r := by rw [if_neg (show ¬ (false = true) by decide)] at H; exact H
  clear H
  have H := H1
  clear H1
  obtain rfl := Option.some.inj H
  go_enter Try.func52, Try.ntmps52
  go_wp2_with (first | ((with_reducible refine gate_dst (N := 1) rfl ?_); refine box_event ?hg (N := 1) ?hd (cs := #[.int .i64 a0_0, .int .i64 a0_1, .bool a0_2]) (t := 25) ?hr ?_; (case hd => rfl); (case hg => rfl); (case hr => first | (go_simp; done) | (go_simp; rfl)); intro gb472 hg w10 hbox hb; have BK472 := Aside0.mk (hbox); have GW472 := bG HB hg; have GE472 := bG HB hg; replace HB := bS HB hb; clear hb hbox hg; have hcz11_0 : w10.cell? ⟨gb472, 0, none⟩ = some (.int .i64 a0_0) := bc BK472 0; have hcz11_1 : w10.cell? ⟨gb472, 1, none⟩ = some (.int .i64 a0_1) := bc BK472 1; have hcz11_2 : w10.cell? ⟨gb472, 2, none⟩ = some (.bool a0_2) := bc BK472 2; have hfz11_0 := blk_frozen BK472.out 0; have hfz11_1 := blk_frozen BK472.out 1; have hfz11_2 := blk_frozen BK472.out 2) | ((with_reducible refine gate_callee (f := 55) rfl ?_); refine goesL_ (some 4) rfl rfl Try.func55 (by kernel_rfl) rfl #[.agg #[.int .i64 a0_0, .int .i64 a0_1, .bool a0_2]] rfl (by (try simp only [List.map_toArray, List.map_cons, List.map_nil]); first | done | rfl | (simp only [List.length_drop, List.length_take]; rfl)) ?_; (with_reducible refine (spec_PointOk.calls a0_0 a0_1 a0_2 false _ A2.out).mono ?_); rintro e w12 ⟨rfl, hb⟩; refine ⟨_, rfl, ?_⟩; replace BK472 := bB BK472 hb; replace HB := bS HB hb; (try clear hb); (try clear hb2); (try clear hk); (try clear hi)))
  go_ret
  exact ⟨by first | rfl | (simp [errW_none, errW_some] <;> rfl) | (simp [*, errW_none, errW_some] <;> rfl), bZ HB⟩
end Go.Proofs.Ytmbjefdkjdemhaa.Pf
end
