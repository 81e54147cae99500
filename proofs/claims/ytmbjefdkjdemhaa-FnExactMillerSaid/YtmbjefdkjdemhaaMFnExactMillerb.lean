/- What is proved here: part 2 of 4 of the proof of the given statement FnExactMiller: the contracts of the Go functions that it reaches, the plain facts on lists and numbers, and (in the last part) the statement itself. No conditions beyond the given ones. -/
import Derived.Test.YtmbjefdkjdemhaaMFnExactMillerwSlim
import Derived.Test.YtmbjefdkjdemhaaMFnExactMillera

section
namespace Go.Proofs.Ytmbjefdkjdemhaa.Pf
open Go.RowKit Go.Proofs.YtmbjefdkjdemhaaW.PrintWords Go.Proofs.YtmbjefdkjdemhaaW.PrintLast Go.Proofs.YtmbjefdkjdemhaaW.PrintMore
attribute [local go_sem] max2_int min2_int max_two min_two max_three min_three max_four min_four   -- for this text's walks alone
set_option linter.unusedVariables false
set_option linter.unusedSimpArgs false
/-! ### impl_Miller: function 40 -/
def impl_Miller.l0 : Nat → Int → Int → Int → Bool → Int → Int → Bool → Int → Int → Int → Int → Bool → Option (Int × Int)
 | 0, _, _, _, _, _, _, _, _, _, _, _, _ => none
 | k + 1, x7, x347000, x347001, x347002, x348000, x348001, x348002, x350000, x350001, x351000, x351001, x351002 => if x7 ≥ 0 then ((impl_TwoMul.f x350000 x350001 x350000 x350001).bind fun bt352 => ((impl_PairLine.f k x351000 x351001 x351002 x351000 x351001 x351002 x348000 x348001 x348002).bind fun bt354 => ((impl_TwoMul.f bt352.1 bt352.2 bt354.1 bt354.2).bind fun bt356 => ((impl_PointAdd.f k x351000 x351001 x351002 x351000 x351001 x351002).bind fun bt358 => (if 0 ≤ (IntKind.u64.wrap (x7)) then (if (Go.bits .and .i64 (shr .i64 1009 (IntKind.u64.wrap (x7))) 1) = 1 then ((impl_PairLine.f k bt358.1 bt358.2.1 bt358.2.2 x347000 x347001 x347002 x348000 x348001 x348002).bind fun bt361 => ((impl_TwoMul.f bt356.1 bt356.2 bt361.1 bt361.2).bind fun bt363 => ((impl_PointAdd.f k bt358.1 bt358.2.1 bt358.2.2 x347000 x347001 x347002).bind fun bt365 => (impl_Miller.l0 k (wrap64 (x7 - 1)) x347000 x347001 x347002 x348000 x348001 x348002 bt363.1 bt363.2 bt365.1 bt365.2.1 bt365.2.2)))) else (impl_Miller.l0 k (wrap64 (x7 - 1)) x347000 x347001 x347002 x348000 x348001 x348002 bt356.1 bt356.2 bt358.1 bt358.2.1 bt358.2.2)) else (none)))))) else (some (x350000, x350001))
def impl_Miller.f (k : Nat) (a0_0 : Int) (a0_1 : Int) (a0_2 : Bool) (a1_0 : Int) (a1_1 : Int) (a1_2 : Bool) : Option (Int × Int) := (bits_Len.f k 1009).bind fun t351 => (impl_Miller.l0 k (wrap64 (t351 - 2)) a0_0 a0_1 a0_2 a1_0 a1_1 a1_2 1 0 a0_0 a0_1 a0_2)
theorem impl_Miller.mono_l : ∀ k, (∀ y0 y1 y2 y3 y4 y5 y6 y7 y8 y9 y10 y11, LeO (impl_Miller.l0 k y0 y1 y2 y3 y4 y5 y6 y7 y8 y9 y10 y11) (impl_Miller.l0 (k + 1) y0 y1 y2 y3 y4 y5 y6 y7 y8 y9 y10 y11))
 | 0 => fun _ _ _ _ _ _ _ _ _ _ _ _ r h => by simp [impl_Miller.l0] at h
 | k + 1 => by
  have ih0 := impl_Miller.mono_l k
  ·intro y0 y1 y2 y3 y4 y5 y6 y7 y8 y9 y10 y11
   unfold impl_Miller.l0
   repeat' first
   | (with_reducible exact ih0 _ _ _ _ _ _ _ _ _ _ _ _)
   | (with_reducible exact bits_Len.mono _ _)
   | (with_reducible exact impl_PairLine.mono _ _ _ _ _ _ _ _ _ _)
   | (with_reducible exact impl_PointAdd.mono _ _ _ _ _ _ _)
   | (with_reducible exact LeO.refl _)
   | (with_reducible exact LeO.none _)
   | (with_reducible refine LeO.ite ?_ ?_)
   | (with_reducible refine LeO.bind ?_ (fun _ => ?_))
   | exact ih0 _ _ _ _ _ _ _ _ _ _ _ _
   | exact bits_Len.mono _ _
   | exact impl_PairLine.mono _ _ _ _ _ _ _ _ _ _
   | exact impl_PointAdd.mono _ _ _ _ _ _ _
   | exact LeO.none _
   | refine LeO.ite ?_ ?_
   | refine LeO.bind ?_ (fun _ => ?_)
theorem impl_Miller.mono : ∀ a0 a1 a2 a3 a4 a5 k, LeO (impl_Miller.f k a0 a1 a2 a3 a4 a5) (impl_Miller.f (k + 1) a0 a1 a2 a3 a4 a5) := by
 intro a0 a1 a2 a3 a4 a5 k
 have ih0 := impl_Miller.mono_l k
 unfold impl_Miller.f
 repeat' first
   | (with_reducible exact ih0 _ _ _ _ _ _ _ _ _ _ _ _)
   | (with_reducible exact bits_Len.mono _ _)
   | (with_reducible exact impl_PairLine.mono _ _ _ _ _ _ _ _ _ _)
   | (with_reducible exact impl_PointAdd.mono _ _ _ _ _ _ _)
   | (with_reducible exact LeO.refl _)
   | (with_reducible exact LeO.none _)
   | (with_reducible refine LeO.ite ?_ ?_)
   | (with_reducible refine LeO.bind ?_ (fun _ => ?_))
   | exact ih0 _ _ _ _ _ _ _ _ _ _ _ _
   | exact bits_Len.mono _ _
   | exact impl_PairLine.mono _ _ _ _ _ _ _ _ _ _
   | exact impl_PointAdd.mono _ _ _ _ _ _ _
   | exact LeO.none _
   | refine LeO.ite ?_ ?_
   | refine LeO.bind ?_ (fun _ => ?_)
def impl_Miller.T6 : Bool × List (List Nat × List Nat) := (true, [([], []), ([], []), ([0, 1], [0, 1]), ([], []), ([], []), ([], []), ([3, 4, 5, 2], [3, 4, 5]), ([2, 6, 6], [2, 6]), ([7, 7, 0, 1, 2, 3, 4, 5, 6, 7], [7])])
def impl_Miller.B6 : List Nat := [0, 0, 3, 0, 0, 0, 63, 127, 255]
theorem impl_Miller.tab6 : rtab .any (opsOf Try.f40 6) = impl_Miller.T6 := by kernel_rfl
theorem impl_Miller.bits6 : waitsOk impl_Miller.T6.2 impl_Miller.B6 = true := by kernel_rfl
set_option maxHeartbeats 8000000 in
set_option maxRecDepth 100000 in
theorem impl_Miller.calls (k : Nat) (a0_0 : Int) (a0_1 : Int) (a0_2 : Bool) (a1_0 : Int) (a1_1 : Int) (a1_2 : Bool) (r1 : Int) (r2 : Int) (w : World) (h : impl_Miller.f k a0_0 a0_1 a0_2 a1_0 a1_1 a1_2 = some (r1, r2)) :
  Calls Try.prog 40 #[.agg #[.int .i64 a0_0, .int .i64 a0_1, .bool a0_2], .agg #[.int .i64 a1_0, .int .i64 a1_1, .bool a1_2]] w fun e w' => e = .returned (.agg #[.int .i64 r1, .int .i64 r2]) ∧ Below w.heap.size w w' := by
 have hu25 := Try.underlying25
 have hu31 := Try.underlying31
 have HB := Aside0.mk (Below.refl w.heap.size w)
 have H : ((bits_Len.f k 1009).bind fun t351 => (impl_Miller.l0 k (wrap64 (t351 - 2)) a0_0 a0_1 a0_2 a1_0 a1_1 a1_2 1 0 a0_0 a0_1 a0_2)) = some (r1, r2) := h
 clear h
 replace H := Option.bind_eq_some_iff.mp H
 obtain ⟨t351, A30, H⟩ := H
 replace H : (impl_Miller.l0 k (wrap64 (t351 - 2)) a0_0 a0_1 a0_2 a1_0 a1_1 a1_2 1 0 a0_0 a0_1 a0_2) = some (r1, r2) := H
 have A3 := Aside0.mk A30
 clear A30
 have H' := Aside0.mk H
 clear H
 go_enter Try.func40, Try.ntmps40
 go_wp2_with (first | ((with_reducible refine gate_dst (N := 2) rfl ?_); refine box_event ?hg (N := 2) ?hd (cs := #[.int .i64 a0_0, .int .i64 a0_1, .bool a0_2]) (t := 25) ?hr ?_; (case hd => rfl); (case hg => rfl); (case hr => first | (go_simp; done) | (go_simp; rfl)); intro gb346 hg w4 hbox hb; have BK346 := Aside0.mk (hbox); have GW346 := bG HB hg; have GE346 := bG HB hg; replace HB := bS HB hb; clear hb hbox hg) | ((with_reducible refine gate_dst (N := 3) rfl ?_); refine box_event ?hg (N := 3) ?hd (cs := #[.int .i64 a1_0, .int .i64 a1_1, .bool a1_2]) (t := 25) ?hr ?_; (case hd => rfl); (case hg => rfl); (case hr => first | (go_simp; done) | (go_simp; rfl)); intro gb347 hg w5 hbox hb; have BK347 := Aside0.mk (hbox); have GW347 := bG HB hg; have GE347 := bG HB hg; replace HB := bS HB hb; have NB346_347 := bL BK346 hg; have NB347_346 := bR BK346 hg; replace BK346 := bB BK346 hb; clear hb hbox hg) | ((with_reducible refine gate_dst (N := 4) rfl ?_); refine box_event ?hg (N := 4) ?hd (cs := #[.int .i64 0, .int .i64 0]) (t := 31) ?hr ?_; (case hd => rfl); (case hg => rfl); (case hr => first | (go_simp; done) | (go_simp; rfl)); intro gb348 hg w6 hbox hb; have BK348 := Aside0.mk (hbox); have GW348 := bG HB hg; have GE348 := bG HB hg; replace HB := bS HB hb; have NB346_348 := bL BK346 hg; have NB348_346 := bR BK346 hg; replace BK346 := bB BK346 hb; have NB347_348 := bL BK347 hg; have NB348_347 := bR BK347 hg; replace BK347 := bB BK347 hb; clear hb hbox hg) | ((with_reducible refine gate_dst (N := 5) rfl ?_); refine box_event ?hg (N := 5) ?hd (cs := #[.int .i64 0, .int .i64 0]) (t := 31) ?hr ?_; (case hd => rfl); (case hg => rfl); (case hr => first | (go_simp; done) | (go_simp; rfl)); intro gb349 hg w7 hbox hb; have BK349 := Aside0.mk (hbox); have GW349 := bG HB hg; have GE349 := bG HB hg; replace HB := bS HB hb; have NB346_349 := bL BK346 hg; have NB349_346 := bR BK346 hg; replace BK346 := bB BK346 hb; have NB347_349 := bL BK347 hg; have NB349_347 := bR BK347 hg; replace BK347 := bB BK347 hb; have NB348_349 := bL BK348 hg; have NB349_348 := bR BK348 hg; replace BK348 := bB BK348 hb; clear hb hbox hg; have hnb8 := NB349_346.out; have hnc8 := NB346_349.out; have hnb9 := NB349_347.out; have hnc9 := NB347_349.out; have hnb10 := NB349_348.out; have hnc10 := NB348_349.out; have hcz11_0 : w7.cell? ⟨gb349, 0, none⟩ = some (.int .i64 0) := bc BK349 0; have hcz11_1 : w7.cell? ⟨gb349, 1, none⟩ = some (.int .i64 0) := bc BK349 1; have hfz11_0 := blk_frozen BK349.out 0; have hfz11_1 := blk_frozen BK349.out 1; have hnb12 := NB346_347.out; have hnc12 := NB347_346.out; have hnb13 := NB346_348.out; have hnc13 := NB348_346.out; have hcz14_0 : w7.cell? ⟨gb346, 0, none⟩ = some (.int .i64 a0_0) := bc BK346 0; have hcz14_1 : w7.cell? ⟨gb346, 1, none⟩ = some (.int .i64 a0_1) := bc BK346 1; have hcz14_2 : w7.cell? ⟨gb346, 2, none⟩ = some (.bool a0_2) := bc BK346 2; have hfz14_0 := blk_frozen BK346.out 0; have hfz14_1 := blk_frozen BK346.out 1; have hfz14_2 := blk_frozen BK346.out 2) | ((with_reducible refine gate_dst (N := 6) rfl ?_); refine box_event ?hg (N := 6) ?hd (cs := #[.int .i64 0, .int .i64 0, .bool false]) (t := 25) ?hr ?_; (case hd => rfl); (case hg => rfl); (case hr => first | (go_simp; done) | (go_simp; rfl)); intro gb350 hg w15 hbox hb; have BK350 := Aside0.mk (hbox); have GW350 := bG HB hg; have GE350 := bG HB hg; replace HB := bS HB hb; have NB346_350 := bL BK346 hg; have NB350_346 := bR BK346 hg; replace BK346 := bB BK346 hb; have NB347_350 := bL BK347 hg; have NB350_347 := bR BK347 hg; replace BK347 := bB BK347 hb; have NB348_350 := bL BK348 hg; have NB350_348 := bR BK348 hg; replace BK348 := bB BK348 hb; have NB349_350 := Aside0.mk ((by rw [hg]; exact Nat.ne_of_lt (blk_lt (g := gb349) (o := .cells #[.int .i64 1, .int .i64 0] 31 (0, 0)) (by (with_reducible repeat (first | refine blk_drewN ?_ _ | refine blk_drew ?_ | refine blk_alloc ?_ _)); refine blk_put (cs := #[.int .i64 1, .int .i64 0]) ?_ 1 _ rfl; (with_reducible repeat (first | refine blk_drewN ?_ _ | refine blk_drew ?_ | refine blk_alloc ?_ _)); refine blk_put (cs := #[.int .i64 0, .int .i64 0]) ?_ 0 _ rfl; (with_reducible repeat (first | refine blk_drewN ?_ _ | refine blk_drew ?_ | refine blk_alloc ?_ _)); exact BK349.out)) : gb349 ≠ gb350)); have NB350_349 := Aside0.mk ((by rw [hg]; exact Nat.ne_of_gt (blk_lt (g := gb349) (o := .cells #[.int .i64 1, .int .i64 0] 31 (0, 0)) (by (with_reducible repeat (first | refine blk_drewN ?_ _ | refine blk_drew ?_ | refine blk_alloc ?_ _)); refine blk_put (cs := #[.int .i64 1, .int .i64 0]) ?_ 1 _ rfl; (with_reducible repeat (first | refine blk_drewN ?_ _ | refine blk_drew ?_ | refine blk_alloc ?_ _)); refine blk_put (cs := #[.int .i64 0, .int .i64 0]) ?_ 0 _ rfl; (with_reducible repeat (first | refine blk_drewN ?_ _ | refine blk_drew ?_ | refine blk_alloc ?_ _)); exact BK349.out)) : gb350 ≠ gb349)); replace BK349 := Aside0.mk (blk_below (g := gb349) (o := .cells #[.int .i64 1, .int .i64 0] 31 (0, 0)) (by (with_reducible repeat (first | refine blk_drewN ?_ _ | refine blk_drew ?_ | refine blk_alloc ?_ _)); refine blk_put (cs := #[.int .i64 1, .int .i64 0]) ?_ 1 _ rfl; (with_reducible repeat (first | refine blk_drewN ?_ _ | refine blk_drew ?_ | refine blk_alloc ?_ _)); refine blk_put (cs := #[.int .i64 0, .int .i64 0]) ?_ 0 _ rfl; (with_reducible repeat (first | refine blk_drewN ?_ _ | refine blk_drew ?_ | refine blk_alloc ?_ _)); exact BK349.out) hb); clear hb hbox hg; have hnb16 := NB350_346.out; have hnc16 := NB346_350.out; have hnb17 := NB350_347.out; have hnc17 := NB347_350.out; have hnb18 := NB350_348.out; have hnc18 := NB348_350.out; have hnb19 := NB350_349.out; have hnc19 := NB349_350.out; have hcz20_0 : w15.cell? ⟨gb350, 0, none⟩ = some (.int .i64 0) := bc BK350 0; have hcz20_1 : w15.cell? ⟨gb350, 1, none⟩ = some (.int .i64 0) := bc BK350 1; have hcz20_2 : w15.cell? ⟨gb350, 2, none⟩ = some (.bool false) := bc BK350 2; have hfz20_0 := blk_frozen BK350.out 0; have hfz20_1 := blk_frozen BK350.out 1; have hfz20_2 := blk_frozen BK350.out 2) | ((with_reducible refine gate_callee (f := 87) rfl ?_); refine goesL_ (some 10) rfl rfl Try.func87 (by kernel_rfl) rfl #[.int .u64 1009] rfl (by (try simp only [List.map_toArray, List.map_cons, List.map_nil]); first | done | rfl | (simp only [List.length_drop, List.length_take]; rfl)) ?_; (with_reducible refine (bits_Len.calls k 1009 t351 _ A3.out).mono ?_); rintro e w' ⟨rfl, ⟨nd, rfl⟩⟩; refine ⟨_, rfl, ?_⟩))
 go_loopg [7] k (fun kq v7 w' => ∃ (x7_1 : Int) (x350000_1 : Int) (x350001_1 : Int) (x351000_1 : Int) (x351001_1 : Int) (x351002_1 : Bool), v7 = .int .i64 x7_1 ∧ Aside0 (impl_Miller.l0 kq x7_1 a0_0 a0_1 a0_2 a1_0 a1_1 a1_2 x350000_1 x350001_1 x351000_1 x351001_1 x351002_1 = some (r1, r2)) ∧ Aside0 (kq ≤ k) ∧ Aside0 (w'.heap[gb346]? = some (.cells #[.int .i64 a0_0, .int .i64 a0_1, .bool a0_2] 25 (0, 0))) ∧ Aside0 (w'.heap[gb347]? = some (.cells #[.int .i64 a1_0, .int .i64 a1_1, .bool a1_2] 25 (0, 0))) ∧ Aside0 (w'.heap[gb348]? = some (.cells #[.int .i64 0, .int .i64 0] 31 (0, 0))) ∧ Aside0 (w'.heap[gb349]? = some (.cells #[.int .i64 x350000_1, .int .i64 x350001_1] 31 (0, 0))) ∧ Aside0 (w'.heap[gb350]? = some (.cells #[.int .i64 x351000_1, .int .i64 x351001_1, .bool x351002_1] 25 (0, 0))) ∧ Aside0 (Below w.heap.size w w'))
 case atStart => exact ⟨(wrap64 (t351 - 2)), (1), (0), (a0_0), (a0_1), (a0_2), (by first | rfl | (simp; done) | (simp [*]; done)), H', ⟨Nat.le_refl _⟩, ⟨bP BK346⟩, ⟨bP BK347⟩, ⟨bP BK348⟩, ⟨bP BK349⟩, ⟨by (with_reducible repeat (first | refine blk_drewN ?_ _ | refine blk_drew ?_ | refine blk_alloc ?_ _)); refine blk_put (cs := #[.int .i64 a0_0, .int .i64 a0_1, .bool false]) ?_ 2 _ rfl; (with_reducible repeat (first | refine blk_drewN ?_ _ | refine blk_drew ?_ | refine blk_alloc ?_ _)); refine blk_put (cs := #[.int .i64 a0_0, .int .i64 0, .bool false]) ?_ 1 _ rfl; (with_reducible repeat (first | refine blk_drewN ?_ _ | refine blk_drew ?_ | refine blk_alloc ?_ _)); refine blk_put (cs := #[.int .i64 0, .int .i64 0, .bool false]) ?_ 0 _ rfl; (with_reducible repeat (first | refine blk_drewN ?_ _ | refine blk_drew ?_ | refine blk_alloc ?_ _)); exact BK350.out⟩, ⟨bZ HB⟩⟩
 case round =>
  clear H'
  try clear c1
  try clear p2
  try clear c4
  try clear p6
  try clear c8
  try clear c9
  try clear c10
  try clear c12
  try clear c13
  try clear c16
  try clear c17
  try clear c18
  try clear c19
  try clear hcz11_0
  try clear hcz11_1
  try clear hcz14_0
  try clear hcz14_1
  try clear hcz14_2
  try clear hcz20_0
  try clear hcz20_1
  try clear hcz20_2
  try clear hfz11_0
  try clear hfz11_1
  try clear hfz14_0
  try clear hfz14_1
  try clear hfz14_2
  try clear hfz20_0
  try clear hfz20_1
  try clear hfz20_2
  obtain ⟨x7_1, x350000_1, x350001_1, x351000_1, x351001_1, x351002_1, rfl, HA, HK1, BK346, BK347, BK348, BK349, BK350, HB⟩ := hrel
  cases gk with
  | zero => exact absurd HA.out (by simp [impl_Miller.l0])
  | succ k1 =>
   have H := HA.out
   clear HA
   simp only [impl_Miller.l0] at H
   by_cases c21 : x7_1 ≥ 0
   ·rw [if_pos c21] at H
    have c21b0 : decide (0 ≤ x7_1) = true := decide_eq_true c21
    clear c21
    replace H := Option.bind_eq_some_iff.mp H
    obtain ⟨⟨t352, t353⟩, A220, H⟩ := H
    replace H : ((impl_PairLine.f k1 x351000_1 x351001_1 x351002_1 x351000_1 x351001_1 x351002_1 a1_0 a1_1 a1_2).bind fun bt354 => ((impl_TwoMul.f t352 t353 bt354.1 bt354.2).bind fun bt356 => ((impl_PointAdd.f k1 x351000_1 x351001_1 x351002_1 x351000_1 x351001_1 x351002_1).bind fun bt358 => (if 0 ≤ (IntKind.u64.wrap (x7_1)) then (if (Go.bits .and .i64 (shr .i64 1009 (IntKind.u64.wrap (x7_1))) 1) = 1 then ((impl_PairLine.f k1 bt358.1 bt358.2.1 bt358.2.2 a0_0 a0_1 a0_2 a1_0 a1_1 a1_2).bind fun bt361 => ((impl_TwoMul.f bt356.1 bt356.2 bt361.1 bt361.2).bind fun bt363 => ((impl_PointAdd.f k1 bt358.1 bt358.2.1 bt358.2.2 a0_0 a0_1 a0_2).bind fun bt365 => (impl_Miller.l0 k1 (wrap64 (x7_1 - 1)) a0_0 a0_1 a0_2 a1_0 a1_1 a1_2 bt363.1 bt363.2 bt365.1 bt365.2.1 bt365.2.2)))) else (impl_Miller.l0 k1 (wrap64 (x7_1 - 1)) a0_0 a0_1 a0_2 a1_0 a1_1 a1_2 bt356.1 bt356.2 bt358.1 bt358.2.1 bt358.2.2)) else (none))))) = some (r1, r2) := H
    have A22 := Aside0.mk A220
    clear A220
    replace H := Option.bind_eq_some_iff.mp H
    obtain ⟨⟨t354, t355⟩, A230, H⟩ := H
    replace H : ((impl_TwoMul.f t352 t353 t354 t355).bind fun bt356 => ((impl_PointAdd.f k1 x351000_1 x351001_1 x351002_1 x351000_1 x351001_1 x351002_1).bind fun bt358 => (if 0 ≤ (IntKind.u64.wrap (x7_1)) then (if (Go.bits .and .i64 (shr .i64 1009 (IntKind.u64.wrap (x7_1))) 1) = 1 then ((impl_PairLine.f k1 bt358.1 bt358.2.1 bt358.2.2 a0_0 a0_1 a0_2 a1_0 a1_1 a1_2).bind fun bt361 => ((impl_TwoMul.f bt356.1 bt356.2 bt361.1 bt361.2).bind fun bt363 => ((impl_PointAdd.f k1 bt358.1 bt358.2.1 bt358.2.2 a0_0 a0_1 a0_2).bind fun bt365 => (impl_Miller.l0 k1 (wrap64 (x7_1 - 1)) a0_0 a0_1 a0_2 a1_0 a1_1 a1_2 bt363.1 bt363.2 bt365.1 bt365.2.1 bt365.2.2)))) else (impl_Miller.l0 k1 (wrap64 (x7_1 - 1)) a0_0 a0_1 a0_2 a1_0 a1_1 a1_2 bt356.1 bt356.2 bt358.1 bt358.2.1 bt358.2.2)) else (none)))) = some (r1, r2) := H
    have A23 := Aside0.mk A230
    clear A230
    replace H := Option.bind_eq_some_iff.mp H
    obtain ⟨⟨t356, t357⟩, A240, H⟩ := H
    replace H : ((impl_PointAdd.f k1 x351000_1 x351001_1 x351002_1 x351000_1 x351001_1 x351002_1).bind fun bt358 => (if 0 ≤ (IntKind.u64.wrap (x7_1)) then (if (Go.bits .and .i64 (shr .i64 1009 (IntKind.u64.wrap (x7_1))) 1) = 1 then ((impl_PairLine.f k1 bt358.1 bt358.2.1 bt358.2.2 a0_0 a0_1 a0_2 a1_0 a1_1 a1_2).bind fun bt361 => ((impl_TwoMul.f t356 t357 bt361.1 bt361.2).bind fun bt363 => ((impl_PointAdd.f k1 bt358.1 bt358.2.1 bt358.2.2 a0_0 a0_1 a0_2).bind fun bt365 => (impl_Miller.l0 k1 (wrap64 (x7_1 - 1)) a0_0 a0_1 a0_2 a1_0 a1_1 a1_2 bt363.1 bt363.2 bt365.1 bt365.2.1 bt365.2.2)))) else (impl_Miller.l0 k1 (wrap64 (x7_1 - 1)) a0_0 a0_1 a0_2 a1_0 a1_1 a1_2 t356 t357 bt358.1 bt358.2.1 bt358.2.2)) else (none))) = some (r1, r2) := H
    have A24 := Aside0.mk A240
    clear A240
    replace H := Option.bind_eq_some_iff.mp H
    obtain ⟨⟨t358, t359, t360⟩, A250, H⟩ := H
    replace H : (if 0 ≤ (IntKind.u64.wrap (x7_1)) then (if (Go.bits .and .i64 (shr .i64 1009 (IntKind.u64.wrap (x7_1))) 1) = 1 then ((impl_PairLine.f k1 t358 t359 t360 a0_0 a0_1 a0_2 a1_0 a1_1 a1_2).bind fun bt361 => ((impl_TwoMul.f t356 t357 bt361.1 bt361.2).bind fun bt363 => ((impl_PointAdd.f k1 t358 t359 t360 a0_0 a0_1 a0_2).bind fun bt365 => (impl_Miller.l0 k1 (wrap64 (x7_1 - 1)) a0_0 a0_1 a0_2 a1_0 a1_1 a1_2 bt363.1 bt363.2 bt365.1 bt365.2.1 bt365.2.2)))) else (impl_Miller.l0 k1 (wrap64 (x7_1 - 1)) a0_0 a0_1 a0_2 a1_0 a1_1 a1_2 t356 t357 t358 t359 t360)) else (none)) = some (r1, r2) := H
    have A25 := Aside0.mk A250
    clear A250
    obtain ⟨ji26, hji26⟩ : ∃ j_ : Int, (IntKind.u64.wrap (x7_1)) = j_ := ⟨_, rfl⟩
    replace H : (if 0 ≤ (ji26) then (if (Go.bits .and .i64 (shr .i64 1009 (ji26)) 1) = 1 then ((impl_PairLine.f k1 t358 t359 t360 a0_0 a0_1 a0_2 a1_0 a1_1 a1_2).bind fun bt361 => ((impl_TwoMul.f t356 t357 bt361.1 bt361.2).bind fun bt363 => ((impl_PointAdd.f k1 t358 t359 t360 a0_0 a0_1 a0_2).bind fun bt365 => (impl_Miller.l0 k1 (wrap64 (x7_1 - 1)) a0_0 a0_1 a0_2 a1_0 a1_1 a1_2 bt363.1 bt363.2 bt365.1 bt365.2.1 bt365.2.2)))) else (impl_Miller.l0 k1 (wrap64 (x7_1 - 1)) a0_0 a0_1 a0_2 a1_0 a1_1 a1_2 t356 t357 t358 t359 t360)) else (none)) = some (r1, r2) := by first | (rw [hji26] at H; exact H) | (simp only [hji26] at H ⊢; exact H)
    (try rw [hji26] at A22)
    (try rw [hji26] at A23)
    (try rw [hji26] at A24)
    (try rw [hji26] at A25)
    by_cases c27 : 0 ≤ (ji26)
    ·rw [if_pos c27] at H
     have c27b0 := eq_true c27
     have c27b1 : decide (0 ≤ (ji26)) = true := decide_eq_true c27
     clear c27
     obtain ⟨ji28, hji28⟩ : ∃ j_ : Int, (shr .i64 1009 (ji26)) = j_ := ⟨_, rfl⟩
     replace H : (if (Go.bits .and .i64 (ji28) 1) = 1 then ((impl_PairLine.f k1 t358 t359 t360 a0_0 a0_1 a0_2 a1_0 a1_1 a1_2).bind fun bt361 => ((impl_TwoMul.f t356 t357 bt361.1 bt361.2).bind fun bt363 => ((impl_PointAdd.f k1 t358 t359 t360 a0_0 a0_1 a0_2).bind fun bt365 => (impl_Miller.l0 k1 (wrap64 (x7_1 - 1)) a0_0 a0_1 a0_2 a1_0 a1_1 a1_2 bt363.1 bt363.2 bt365.1 bt365.2.1 bt365.2.2)))) else (impl_Miller.l0 k1 (wrap64 (x7_1 - 1)) a0_0 a0_1 a0_2 a1_0 a1_1 a1_2 t356 t357 t358 t359 t360)) = some (r1, r2) := by first | (rw [hji28] at H; exact H) | (simp only [hji28] at H ⊢; exact H)
     (try rw [hji28] at A22)
     (try rw [hji28] at A23)
     (try rw [hji28] at A24)
     (try rw [hji28] at A25)
     have hji28_ : (1009 / 2 ^ min (ji26).toNat 64) = ji28 := hji28
     have hji28z : (ji26) ≤ 64 → (1009 / 2 ^ (ji26).toNat) = ji28 := shr_small hji28
     have hji28t : ∀ m_ : Int, Int.tmod ji28 m_ = ji28 % m_ := fun m_ => Int.tmod_eq_emod_of_nonneg (by rw [← hji28_]; exact Int.ediv_nonneg (by decide) (Int.le_of_lt (Int.pow_pos (by decide))))
     by_cases c29 : (Go.bits .and .i64 (ji28) 1) = 1
     ·rw [if_pos c29] at H
      have c29b0 : ((Go.bits .and .i64 (ji28) 1) == 1) = true := beq_iff_eq.mpr c29
      have c29b1 : ((Go.bits .and .i64 (ji28) 1) != 1) = false := bne_eq_false_iff_eq.mpr c29
      clear c29
      replace H := Option.bind_eq_some_iff.mp H
      obtain ⟨⟨t361, t362⟩, A300, H⟩ := H
      replace H : ((impl_TwoMul.f t356 t357 t361 t362).bind fun bt363 => ((impl_PointAdd.f k1 t358 t359 t360 a0_0 a0_1 a0_2).bind fun bt365 => (impl_Miller.l0 k1 (wrap64 (x7_1 - 1)) a0_0 a0_1 a0_2 a1_0 a1_1 a1_2 bt363.1 bt363.2 bt365.1 bt365.2.1 bt365.2.2))) = some (r1, r2) := H
      have A30 := Aside0.mk A300
      clear A300
      replace H := Option.bind_eq_some_iff.mp H
      obtain ⟨⟨t363, t364⟩, A310, H⟩ := H
      replace H : ((impl_PointAdd.f k1 t358 t359 t360 a0_0 a0_1 a0_2).bind fun bt365 => (impl_Miller.l0 k1 (wrap64 (x7_1 - 1)) a0_0 a0_1 a0_2 a1_0 a1_1 a1_2 t363 t364 bt365.1 bt365.2.1 bt365.2.2)) = some (r1, r2) := H
      have A31 := Aside0.mk A310
      clear A310
      replace H := Option.bind_eq_some_iff.mp H
      obtain ⟨⟨t365, t366, t367⟩, A320, H⟩ := H
      replace H : (impl_Miller.l0 k1 (wrap64 (x7_1 - 1)) a0_0 a0_1 a0_2 a1_0 a1_1 a1_2 t363 t364 t365 t366 t367) = some (r1, r2) := H
      have A32 := Aside0.mk A320
      clear A320
      have H' := Aside0.mk H
      clear H
      try go_wp2
      replace BK346 := Aside0.mk (blk_drew BK346.out)
      replace BK347 := Aside0.mk (blk_drew BK347.out)
      replace BK348 := Aside0.mk (blk_drew BK348.out)
      replace BK349 := Aside0.mk (blk_drew BK349.out)
      replace BK350 := Aside0.mk (blk_drew BK350.out)
      replace HB := Aside0.mk (below_drew1 HB.out)
      refine start_ (n := 9) (S := fun w' => w'.cell? ⟨gb349, 0, none⟩ = some (.int .i64 x350000_1) ∧ w'.cell? ⟨gb349, 1, none⟩ = some (.int .i64 x350001_1) ∧ w'.cell? ⟨gb350, 0, none⟩ = some (.int .i64 x351000_1) ∧ w'.cell? ⟨gb350, 1, none⟩ = some (.int .i64 x351001_1) ∧ w'.cell? ⟨gb350, 2, none⟩ = some (.bool x351002_1) ∧ w'.cell? ⟨gb347, 0, none⟩ = some (.int .i64 a1_0) ∧ w'.cell? ⟨gb347, 1, none⟩ = some (.int .i64 a1_1) ∧ w'.cell? ⟨gb347, 2, none⟩ = some (.bool a1_2)) (ds := [8]) #[false, false, false, false, false, false, false, false, false] (by kernel_rfl) rfl rfl ⟨bc BK349 0, bc BK349 1, bc BK350 0, bc BK350 1, bc BK350 2, bc BK347 0, bc BK347 1, bc BK347 2⟩ (fun hHeld => ?_); refine with_tabW impl_Miller.tab6 impl_Miller.bits6 (fun HT_ HW_ => ?_)
      generalize wr.drew = w33 at BK346 BK347 BK348 BK349 BK350 HB hHeld ⊢
      refine take_ (i := 0) (N := some 16) (v := ?_) (a' := ?_) #[true, false, false, false, false, false, false, false, false] rfl rfl (take_ofW HT_.out HW_.out (by kernel_rfl)) (fun _ _ _ h => h) (Or.inl ⟨by rfl, ?_⟩) hHeld ?_ ?_
      rotate_left
      ·rintro w' ⟨s0, s1, s2, s3, s4, s5, s6, s7⟩
       go_simp
       with_reducible rfl
      rotate_left
      ·simp only [Act.put, List.setIfInBounds_toArray, List.set_cons_zero, List.set_cons_succ, i64_w, i32_w]
       rfl
      refine take_ (i := 1) (N := some 17) (v := ?_) (a' := ?_) #[true, true, false, false, false, false, false, false, false] rfl rfl (take_ofW HT_.out HW_.out (by kernel_rfl)) (fun _ _ _ h => h) (Or.inl ⟨by rfl, ?_⟩) hHeld ?_ ?_
      rotate_left
      ·rintro w' ⟨s0, s1, s2, s3, s4, s5, s6, s7⟩
       go_simp
       with_reducible rfl
      rotate_left
      ·simp only [Act.put, List.setIfInBounds_toArray, List.set_cons_zero, List.set_cons_succ, i64_w, i32_w]
       rfl
      refine take_ (i := 3) (N := some 19) (v := ?_) (a' := ?_) #[true, true, false, true, false, false, false, false, false] rfl rfl (take_ofW HT_.out HW_.out (by kernel_rfl)) (fun _ _ _ h => h) (Or.inl ⟨by rfl, ?_⟩) hHeld ?_ ?_
      rotate_left
      ·rintro w' ⟨s0, s1, s2, s3, s4, s5, s6, s7⟩
       go_simp
       with_reducible rfl
      rotate_left
      ·simp only [Act.put, List.setIfInBounds_toArray, List.set_cons_zero, List.set_cons_succ, i64_w, i32_w]
       rfl
      refine take_ (i := 4) (N := some 20) (v := ?_) (a' := ?_) #[true, true, false, true, true, false, false, false, false] rfl rfl (take_ofW HT_.out HW_.out (by kernel_rfl)) (fun _ _ _ h => h) (Or.inl ⟨by rfl, ?_⟩) hHeld ?_ ?_
      rotate_left
      ·rintro w' ⟨s0, s1, s2, s3, s4, s5, s6, s7⟩
       go_simp
       with_reducible rfl
      rotate_left
      ·simp only [Act.put, List.setIfInBounds_toArray, List.set_cons_zero, List.set_cons_succ, i64_w, i32_w]
       rfl
      refine take_ (i := 5) (N := some 21) (v := ?_) (a' := ?_) #[true, true, false, true, true, true, false, false, false] rfl rfl (take_ofW HT_.out HW_.out (by kernel_rfl)) (fun _ _ _ h => h) (Or.inl ⟨by rfl, ?_⟩) hHeld ?_ ?_
      rotate_left
      ·rintro w' ⟨s0, s1, s2, s3, s4, s5, s6, s7⟩
       go_simp
       with_reducible rfl
      rotate_left
      ·simp only [Act.put, List.setIfInBounds_toArray, List.set_cons_zero, List.set_cons_succ, i64_w, i32_w]
       rfl
      refine one_ (i := 2) (N := some 18) #[true, true, true, true, true, true, false, false, false] rfl rfl (one_of HT_.out (by kernel_rfl)) (by decide) (fun K hK => ?_)
      refine goes_ Try.func21 (by kernel_rfl) rfl #[.agg #[.int .i64 x350000_1, .int .i64 x350001_1], .agg #[.int .i64 x350000_1, .int .i64 x350001_1]] (by rfl) rfl rfl (by (try simp only [List.map_toArray, List.map_cons, List.map_nil]); first | done | rfl | (simp only [List.length_drop, List.length_take]; rfl)) ?_
      with_reducible refine (impl_TwoMul.calls x350000_1 x350001_1 x350000_1 x350001_1 t352 t353 _ A22.out).mono ?_
      rintro e w34 ⟨rfl, hb⟩
      refine ⟨_, rfl, ?_⟩
      replace BK346 := bB BK346 hb
      replace BK347 := bB BK347 hb
      replace BK348 := bB BK348 hb
      replace BK349 := bB BK349 hb
      replace BK350 := bB BK350 hb
      replace HB := bS HB hb
      (try clear hb)
      (try clear hb2)
      (try clear hk)
      (try clear hi)
      refine hK.out _ _ ⟨bc BK349 0, bc BK349 1, bc BK350 0, bc BK350 1, bc BK350 2, bc BK347 0, bc BK347 1, bc BK347 2⟩ (fun hHeld => ?_)
      clear hK K
      refine norm_ (a' := ?_) ?_ ?_
      rotate_left
      ·show Act.put _ (some 18) _ = _
       simp only [Act.put, List.setIfInBounds_toArray, List.set_cons_zero, List.set_cons_succ, i64_w, i32_w]
       rfl
      refine one_ (i := 6) (N := some 22) #[true, true, true, true, true, true, true, false, false] rfl rfl (one_of HT_.out (by kernel_rfl)) (by decide) (fun K hK => ?_)
      refine goes_ Try.func25 (by kernel_rfl) rfl #[.agg #[.int .i64 x351000_1, .int .i64 x351001_1, .bool x351002_1], .agg #[.int .i64 x351000_1, .int .i64 x351001_1, .bool x351002_1], .agg #[.int .i64 a1_0, .int .i64 a1_1, .bool a1_2]] (by rfl) rfl rfl (by (try simp only [List.map_toArray, List.map_cons, List.map_nil]); first | done | rfl | (simp only [List.length_drop, List.length_take]; rfl)) ?_
      with_reducible refine (impl_PairLine.calls k1 x351000_1 x351001_1 x351002_1 x351000_1 x351001_1 x351002_1 a1_0 a1_1 a1_2 t354 t355 _ A23.out).mono ?_
      rintro e w35 ⟨rfl, hb⟩
      refine ⟨_, rfl, ?_⟩
      replace BK346 := bB BK346 hb
      replace BK347 := bB BK347 hb
      replace BK348 := bB BK348 hb
      replace BK349 := bB BK349 hb
      replace BK350 := bB BK350 hb
      replace HB := bS HB hb
      (try clear hb)
      (try clear hb2)
      (try clear hk)
      (try clear hi)
      refine hK.out _ _ ⟨bc BK349 0, bc BK349 1, bc BK350 0, bc BK350 1, bc BK350 2, bc BK347 0, bc BK347 1, bc BK347 2⟩ (fun hHeld => ?_)
      clear hK K
      refine norm_ (a' := ?_) ?_ ?_
      rotate_left
      ·show Act.put _ (some 22) _ = _
       simp only [Act.put, List.setIfInBounds_toArray, List.set_cons_zero, List.set_cons_succ, i64_w, i32_w]
       rfl
      refine one_ (i := 7) (N := some 23) #[true, true, true, true, true, true, true, true, false] rfl rfl (one_of HT_.out (by kernel_rfl)) (by decide) (fun K hK => ?_)
      refine goes_ Try.func21 (by kernel_rfl) rfl #[.agg #[.int .i64 t352, .int .i64 t353], .agg #[.int .i64 t354, .int .i64 t355]] (by rfl) rfl rfl (by (try simp only [List.map_toArray, List.map_cons, List.map_nil]); first | done | rfl | (simp only [List.length_drop, List.length_take]; rfl)) ?_
      with_reducible refine (impl_TwoMul.calls t352 t353 t354 t355 t356 t357 _ A24.out).mono ?_
      rintro e w36 ⟨rfl, hb⟩
      refine ⟨_, rfl, ?_⟩
      replace BK346 := bB BK346 hb
      replace BK347 := bB BK347 hb
      replace BK348 := bB BK348 hb
      replace BK349 := bB BK349 hb
      replace BK350 := bB BK350 hb
      replace HB := bS HB hb
      (try clear hb)
      (try clear hb2)
      (try clear hk)
      (try clear hi)
      refine hK.out _ _ ⟨bc BK349 0, bc BK349 1, bc BK350 0, bc BK350 1, bc BK350 2, bc BK347 0, bc BK347 1, bc BK347 2⟩ (fun hHeld => ?_)
      clear hK K
      refine norm_ (a' := ?_) ?_ ?_
      rotate_left
      ·show Act.put _ (some 23) _ = _
       simp only [Act.put, List.setIfInBounds_toArray, List.set_cons_zero, List.set_cons_succ, i64_w, i32_w]
       rfl
      refine last_ (i := 8) (N := none) #[true, true, true, true, true, true, true, true, true] rfl rfl (one_of HT_.out (by kernel_rfl)) (by decide) (fun K hK => ?_)
      have hs37 : w36.cell? ⟨gb349, 0, none⟩ = some (.int .i64 x350000_1) := bc BK349 0
      have hfs37 := blk_frozen BK349.out 0
      have hns37_0 := NB346_349.out
      have hns37_1 := NB347_349.out
      have hns37_2 := NB348_349.out
      have hns37_4 := NB350_349.out
      have hms37_0 := NB349_346.out
      have hms37_1 := NB349_347.out
      have hms37_2 := NB349_348.out
      have hms37_4 := NB349_350.out
      have hs38 : w36.cell? ⟨gb349, 1, none⟩ = some (.int .i64 x350001_1) := bc BK349 1
      have hfs38 := blk_frozen BK349.out 1
      have hns38_0 := NB346_349.out
      have hns38_1 := NB347_349.out
      have hns38_2 := NB348_349.out
      have hns38_4 := NB350_349.out
      have hms38_0 := NB349_346.out
      have hms38_1 := NB349_347.out
      have hms38_2 := NB349_348.out
      have hms38_4 := NB349_350.out
      refine skip_ (w1 := ?_) (by rfl) rfl ?_ ?_
      rotate_left
      ·go_simp
       rfl
      refine hK.out _ _ ?_
      clear hK K
      refine done_ (done_of HT_.out (by kernel_rfl)) ?_
      have hnb39 := NB350_346.out
      have hnc39 := NB346_350.out
      have hnb40 := NB350_347.out
      have hnc40 := NB347_350.out
      have hnb41 := NB350_348.out
      have hnc41 := NB348_350.out
      have hnb42 := NB350_349.out
      have hnc42 := NB349_350.out
      have hcz43_0 : w36.cell? ⟨gb350, 0, none⟩ = some (.int .i64 x351000_1) := bc BK350 0
      have hcz43_1 : w36.cell? ⟨gb350, 1, none⟩ = some (.int .i64 x351001_1) := bc BK350 1
      have hcz43_2 : w36.cell? ⟨gb350, 2, none⟩ = some (.bool x351002_1) := bc BK350 2
      have hfz43_0 := blk_frozen BK350.out 0
      have hfz43_1 := blk_frozen BK350.out 1
      have hfz43_2 := blk_frozen BK350.out 2
      try go_wp2_with (first | ((with_reducible refine gate_callee (f := 19) rfl ?_); refine goesL_ (some 26) rfl rfl Try.func19 (by kernel_rfl) rfl #[.agg #[.int .i64 x351000_1, .int .i64 x351001_1, .bool x351002_1], .agg #[.int .i64 x351000_1, .int .i64 x351001_1, .bool x351002_1]] rfl (by (try simp only [List.map_toArray, List.map_cons, List.map_nil]); first | done | rfl | (simp only [List.length_drop, List.length_take]; rfl)) ?_; (with_reducible refine (impl_PointAdd.calls k1 x351000_1 x351001_1 x351002_1 x351000_1 x351001_1 x351002_1 t358 t359 t360 _ A25.out).mono ?_); rintro e w44 ⟨rfl, hb⟩; refine ⟨_, rfl, ?_⟩; replace BK346 := bB BK346 hb; replace BK347 := bB BK347 hb; replace BK348 := bB BK348 hb; replace BK349 := Aside0.mk (blk_below (g := gb349) (o := .cells #[.int .i64 t356, .int .i64 t357] 31 (0, 0)) (by (with_reducible repeat (first | refine blk_drewN ?_ _ | refine blk_drew ?_ | refine blk_alloc ?_ _)); refine blk_put (cs := #[.int .i64 t356, .int .i64 x350001_1]) ?_ 1 _ rfl; (with_reducible repeat (first | refine blk_drewN ?_ _ | refine blk_drew ?_ | refine blk_alloc ?_ _)); refine blk_put (cs := #[.int .i64 x350000_1, .int .i64 x350001_1]) ?_ 0 _ rfl; (with_reducible repeat (first | refine blk_drewN ?_ _ | refine blk_drew ?_ | refine blk_alloc ?_ _)); exact BK349.out) hb); replace BK350 := bB BK350 hb; replace HB := bS HB hb; (try clear hb); (try clear hb2); (try clear hk); (try clear hi); have hcz45_0 : w44.cell? ⟨gb350, 0, none⟩ = some (.int .i64 x351000_1) := bc BK350 0; have hcz45_1 : w44.cell? ⟨gb350, 1, none⟩ = some (.int .i64 x351001_1) := bc BK350 1; have hcz45_2 : w44.cell? ⟨gb350, 2, none⟩ = some (.bool x351002_1) := bc BK350 2; have hfz45_0 := blk_frozen BK350.out 0; have hfz45_1 := blk_frozen BK350.out 1; have hfz45_2 := blk_frozen BK350.out 2))
      have n0_ : Aside0 ((((w44.setCell ⟨gb350, 0, none⟩ (.int .i64 t358)).setCell ⟨gb350, 1, none⟩ (.int .i64 t359)).setCell ⟨gb350, 2, none⟩ (.bool t360)).heap[gb346]? = some (.cells #[.int .i64 a0_0, .int .i64 a0_1, .bool a0_2] 25 (0, 0))) := ⟨bP BK346⟩
      have n1_ : Aside0 ((((w44.setCell ⟨gb350, 0, none⟩ (.int .i64 t358)).setCell ⟨gb350, 1, none⟩ (.int .i64 t359)).setCell ⟨gb350, 2, none⟩ (.bool t360)).heap[gb347]? = some (.cells #[.int .i64 a1_0, .int .i64 a1_1, .bool a1_2] 25 (0, 0))) := ⟨bP BK347⟩
      have n2_ : Aside0 ((((w44.setCell ⟨gb350, 0, none⟩ (.int .i64 t358)).setCell ⟨gb350, 1, none⟩ (.int .i64 t359)).setCell ⟨gb350, 2, none⟩ (.bool t360)).heap[gb348]? = some (.cells #[.int .i64 0, .int .i64 0] 31 (0, 0))) := ⟨bP BK348⟩
      have n3_ : Aside0 ((((w44.setCell ⟨gb350, 0, none⟩ (.int .i64 t358)).setCell ⟨gb350, 1, none⟩ (.int .i64 t359)).setCell ⟨gb350, 2, none⟩ (.bool t360)).heap[gb349]? = some (.cells #[.int .i64 t356, .int .i64 t357] 31 (0, 0))) := ⟨bP BK349⟩
      have n4_ : Aside0 ((((w44.setCell ⟨gb350, 0, none⟩ (.int .i64 t358)).setCell ⟨gb350, 1, none⟩ (.int .i64 t359)).setCell ⟨gb350, 2, none⟩ (.bool t360)).heap[gb350]? = some (.cells #[.int .i64 t358, .int .i64 t359, .bool t360] 25 (0, 0))) := ⟨by (with_reducible repeat (first | refine blk_drewN ?_ _ | refine blk_drew ?_ | refine blk_alloc ?_ _)); refine blk_put (cs := #[.int .i64 t358, .int .i64 t359, .bool x351002_1]) ?_ 2 _ rfl; (with_reducible repeat (first | refine blk_drewN ?_ _ | refine blk_drew ?_ | refine blk_alloc ?_ _)); refine blk_put (cs := #[.int .i64 t358, .int .i64 x351001_1, .bool x351002_1]) ?_ 1 _ rfl; (with_reducible repeat (first | refine blk_drewN ?_ _ | refine blk_drew ?_ | refine blk_alloc ?_ _)); refine blk_put (cs := #[.int .i64 x351000_1, .int .i64 x351001_1, .bool x351002_1]) ?_ 0 _ rfl; (with_reducible repeat (first | refine blk_drewN ?_ _ | refine blk_drew ?_ | refine blk_alloc ?_ _)); exact BK350.out⟩
      have n5_ : Aside0 (Below w.heap.size w (((w44.setCell ⟨gb350, 0, none⟩ (.int .i64 t358)).setCell ⟨gb350, 1, none⟩ (.int .i64 t359)).setCell ⟨gb350, 2, none⟩ (.bool t360))) := ⟨bZ HB⟩
      (try clear BK346)
      (try clear BK347)
      (try clear BK348)
      (try clear BK349)
      (try clear BK350)
      (try clear HB)
      generalize (((w44.setCell ⟨gb350, 0, none⟩ (.int .i64 t358)).setCell ⟨gb350, 1, none⟩ (.int .i64 t359)).setCell ⟨gb350, 2, none⟩ (.bool t360)) = w46 at n0_ n1_ n2_ n3_ n4_ n5_ ⊢
      have BK346 := n0_
      have BK347 := n1_
      have BK348 := n2_
      have BK349 := n3_
      have BK350 := n4_
      have HB := n5_
      clear n0_ n1_ n2_ n3_ n4_ n5_
      replace BK346 := Aside0.mk (blk_drew BK346.out)
      replace BK347 := Aside0.mk (blk_drew BK347.out)
      replace BK348 := Aside0.mk (blk_drew BK348.out)
      replace BK349 := Aside0.mk (blk_drew BK349.out)
      replace BK350 := Aside0.mk (blk_drew BK350.out)
      replace HB := Aside0.mk (below_drew1 HB.out)
      refine start_ (n := 7) (S := fun w' => w'.cell? ⟨gb349, 0, none⟩ = some (.int .i64 t356) ∧ w'.cell? ⟨gb349, 1, none⟩ = some (.int .i64 t357) ∧ w'.cell? ⟨gb350, 0, none⟩ = some (.int .i64 t358) ∧ w'.cell? ⟨gb350, 1, none⟩ = some (.int .i64 t359) ∧ w'.cell? ⟨gb350, 2, none⟩ = some (.bool t360) ∧ w'.cell? ⟨gb346, 0, none⟩ = some (.int .i64 a0_0) ∧ w'.cell? ⟨gb346, 1, none⟩ = some (.int .i64 a0_1) ∧ w'.cell? ⟨gb346, 2, none⟩ = some (.bool a0_2) ∧ w'.cell? ⟨gb347, 0, none⟩ = some (.int .i64 a1_0) ∧ w'.cell? ⟨gb347, 1, none⟩ = some (.int .i64 a1_1) ∧ w'.cell? ⟨gb347, 2, none⟩ = some (.bool a1_2)) (ds := [6]) #[false, false, false, false, false, false, false] (by kernel_rfl) rfl rfl ⟨bc BK349 0, bc BK349 1, bc BK350 0, bc BK350 1, bc BK350 2, bc BK346 0, bc BK346 1, bc BK346 2, bc BK347 0, bc BK347 1, bc BK347 2⟩ (fun hHeld => ?_)
      generalize w46.drew = w47 at BK346 BK347 BK348 BK349 BK350 HB hHeld ⊢
      refine take_ (i := 0) (N := some 32) (v := ?_) (a' := ?_) #[true, false, false, false, false, false, false] rfl rfl (by kernel_rfl) (fun _ _ _ h => h) (Or.inl ⟨by rfl, ?_⟩) hHeld ?_ ?_
      rotate_left
      ·rintro w' ⟨s0, s1, s2, s3, s4, s5, s6, s7, s8, s9, s10⟩
       go_simp
       with_reducible rfl
      rotate_left
      ·simp only [Act.put, List.setIfInBounds_toArray, List.set_cons_zero, List.set_cons_succ, i64_w, i32_w]
       rfl
      refine take_ (i := 1) (N := some 33) (v := ?_) (a' := ?_) #[true, true, false, false, false, false, false] rfl rfl (by kernel_rfl) (fun _ _ _ h => h) (Or.inl ⟨by rfl, ?_⟩) hHeld ?_ ?_
      rotate_left
      ·rintro w' ⟨s0, s1, s2, s3, s4, s5, s6, s7, s8, s9, s10⟩
       go_simp
       with_reducible rfl
      rotate_left
      ·simp only [Act.put, List.setIfInBounds_toArray, List.set_cons_zero, List.set_cons_succ, i64_w, i32_w]
       rfl
      refine take_ (i := 2) (N := some 34) (v := ?_) (a' := ?_) #[true, true, true, false, false, false, false] rfl rfl (by kernel_rfl) (fun _ _ _ h => h) (Or.inl ⟨by rfl, ?_⟩) hHeld ?_ ?_
      rotate_left
      ·rintro w' ⟨s0, s1, s2, s3, s4, s5, s6, s7, s8, s9, s10⟩
       go_simp
       with_reducible rfl
      rotate_left
      ·simp only [Act.put, List.setIfInBounds_toArray, List.set_cons_zero, List.set_cons_succ, i64_w, i32_w]
       rfl
      refine take_ (i := 3) (N := some 35) (v := ?_) (a' := ?_) #[true, true, true, true, false, false, false] rfl rfl (by kernel_rfl) (fun _ _ _ h => h) (Or.inl ⟨by rfl, ?_⟩) hHeld ?_ ?_
      rotate_left
      ·rintro w' ⟨s0, s1, s2, s3, s4, s5, s6, s7, s8, s9, s10⟩
       go_simp
       with_reducible rfl
      rotate_left
      ·simp only [Act.put, List.setIfInBounds_toArray, List.set_cons_zero, List.set_cons_succ, i64_w, i32_w]
       rfl
      refine one_ (i := 4) (N := some 36) #[true, true, true, true, true, false, false] rfl rfl (by kernel_rfl) (by decide) (fun K hK => ?_)
      refine goes_ Try.func25 (by kernel_rfl) rfl #[.agg #[.int .i64 t358, .int .i64 t359, .bool t360], .agg #[.int .i64 a0_0, .int .i64 a0_1, .bool a0_2], .agg #[.int .i64 a1_0, .int .i64 a1_1, .bool a1_2]] (by rfl) rfl rfl (by (try simp only [List.map_toArray, List.map_cons, List.map_nil]); first | done | rfl | (simp only [List.length_drop, List.length_take]; rfl)) ?_
      with_reducible refine (impl_PairLine.calls k1 t358 t359 t360 a0_0 a0_1 a0_2 a1_0 a1_1 a1_2 t361 t362 _ A30.out).mono ?_
      rintro e w48 ⟨rfl, hb⟩
      refine ⟨_, rfl, ?_⟩
      replace BK346 := bB BK346 hb
      replace BK347 := bB BK347 hb
      replace BK348 := bB BK348 hb
      replace BK349 := bB BK349 hb
      replace BK350 := bB BK350 hb
      replace HB := bS HB hb
      (try clear hb)
      (try clear hb2)
      (try clear hk)
      (try clear hi)
      refine hK.out _ _ ⟨bc BK349 0, bc BK349 1, bc BK350 0, bc BK350 1, bc BK350 2, bc BK346 0, bc BK346 1, bc BK346 2, bc BK347 0, bc BK347 1, bc BK347 2⟩ (fun hHeld => ?_)
      clear hK K
      refine norm_ (a' := ?_) ?_ ?_
      rotate_left
      ·show Act.put _ (some 36) _ = _
       simp only [Act.put, List.setIfInBounds_toArray, List.set_cons_zero, List.set_cons_succ, i64_w, i32_w]
       rfl
      refine one_ (i := 5) (N := some 37) #[true, true, true, true, true, true, false] rfl rfl (by kernel_rfl) (by decide) (fun K hK => ?_)
      refine goes_ Try.func21 (by kernel_rfl) rfl #[.agg #[.int .i64 t356, .int .i64 t357], .agg #[.int .i64 t361, .int .i64 t362]] (by rfl) rfl rfl (by (try simp only [List.map_toArray, List.map_cons, List.map_nil]); first | done | rfl | (simp only [List.length_drop, List.length_take]; rfl)) ?_
      with_reducible refine (impl_TwoMul.calls t356 t357 t361 t362 t363 t364 _ A31.out).mono ?_
      rintro e w49 ⟨rfl, hb⟩
      refine ⟨_, rfl, ?_⟩
      replace BK346 := bB BK346 hb
      replace BK347 := bB BK347 hb
      replace BK348 := bB BK348 hb
      replace BK349 := bB BK349 hb
      replace BK350 := bB BK350 hb
      replace HB := bS HB hb
      (try clear hb)
      (try clear hb2)
      (try clear hk)
      (try clear hi)
      refine hK.out _ _ ⟨bc BK349 0, bc BK349 1, bc BK350 0, bc BK350 1, bc BK350 2, bc BK346 0, bc BK346 1, bc BK346 2, bc BK347 0, bc BK347 1, bc BK347 2⟩ (fun hHeld => ?_)
      clear hK K
      refine norm_ (a' := ?_) ?_ ?_
      rotate_left
      ·show Act.put _ (some 37) _ = _
       simp only [Act.put, List.setIfInBounds_toArray, List.set_cons_zero, List.set_cons_succ, i64_w, i32_w]
       rfl
      refine last_ (i := 6) (N := none) #[true, true, true, true, true, true, true] rfl rfl (by kernel_rfl) (by decide) (fun K hK => ?_)
      have hs50 : w49.cell? ⟨gb349, 0, none⟩ = some (.int .i64 t356) := bc BK349 0
      have hfs50 := blk_frozen BK349.out 0
      have hns50_0 := NB346_349.out
      have hns50_1 := NB347_349.out
      have hns50_2 := NB348_349.out
      have hns50_4 := NB350_349.out
      have hms50_0 := NB349_346.out
      have hms50_1 := NB349_347.out
      have hms50_2 := NB349_348.out
      have hms50_4 := NB349_350.out
      have hs51 : w49.cell? ⟨gb349, 1, none⟩ = some (.int .i64 t357) := bc BK349 1
      have hfs51 := blk_frozen BK349.out 1
      have hns51_0 := NB346_349.out
      have hns51_1 := NB347_349.out
      have hns51_2 := NB348_349.out
      have hns51_4 := NB350_349.out
      have hms51_0 := NB349_346.out
      have hms51_1 := NB349_347.out
      have hms51_2 := NB349_348.out
      have hms51_4 := NB349_350.out
      refine skip_ (w1 := ?_) (by rfl) rfl ?_ ?_
      rotate_left
      ·go_simp
       rfl
      refine hK.out _ _ ?_
      clear hK K
      refine done_ (by kernel_rfl) ?_
      have hcz52_0 : w49.cell? ⟨gb350, 0, none⟩ = some (.int .i64 t358) := bc BK350 0
      have hcz52_1 : w49.cell? ⟨gb350, 1, none⟩ = some (.int .i64 t359) := bc BK350 1
      have hcz52_2 : w49.cell? ⟨gb350, 2, none⟩ = some (.bool t360) := bc BK350 2
      have hfz52_0 := blk_frozen BK350.out 0
      have hfz52_1 := blk_frozen BK350.out 1
      have hfz52_2 := blk_frozen BK350.out 2
      have hnb53 := NB346_347.out
      have hnc53 := NB347_346.out
      have hnb54 := NB346_348.out
      have hnc54 := NB348_346.out
      have hnb55 := NB346_349.out
      have hnc55 := NB349_346.out
      have hcz56_0 : w49.cell? ⟨gb346, 0, none⟩ = some (.int .i64 a0_0) := bc BK346 0
      have hcz56_1 : w49.cell? ⟨gb346, 1, none⟩ = some (.int .i64 a0_1) := bc BK346 1
      have hcz56_2 : w49.cell? ⟨gb346, 2, none⟩ = some (.bool a0_2) := bc BK346 2
      have hfz56_0 := blk_frozen BK346.out 0
      have hfz56_1 := blk_frozen BK346.out 1
      have hfz56_2 := blk_frozen BK346.out 2
      try go_wp2_with (first | ((with_reducible refine gate_callee (f := 19) rfl ?_); refine goesL_ (some 40) rfl rfl Try.func19 (by kernel_rfl) rfl #[.agg #[.int .i64 t358, .int .i64 t359, .bool t360], .agg #[.int .i64 a0_0, .int .i64 a0_1, .bool a0_2]] rfl (by (try simp only [List.map_toArray, List.map_cons, List.map_nil]); first | done | rfl | (simp only [List.length_drop, List.length_take]; rfl)) ?_; (with_reducible refine (impl_PointAdd.calls k1 t358 t359 t360 a0_0 a0_1 a0_2 t365 t366 t367 _ A32.out).mono ?_); rintro e w57 ⟨rfl, hb⟩; refine ⟨_, rfl, ?_⟩; replace BK346 := bB BK346 hb; replace BK347 := bB BK347 hb; replace BK348 := bB BK348 hb; replace BK349 := Aside0.mk (blk_below (g := gb349) (o := .cells #[.int .i64 t363, .int .i64 t364] 31 (0, 0)) (by (with_reducible repeat (first | refine blk_drewN ?_ _ | refine blk_drew ?_ | refine blk_alloc ?_ _)); refine blk_put (cs := #[.int .i64 t363, .int .i64 t357]) ?_ 1 _ rfl; (with_reducible repeat (first | refine blk_drewN ?_ _ | refine blk_drew ?_ | refine blk_alloc ?_ _)); refine blk_put (cs := #[.int .i64 t356, .int .i64 t357]) ?_ 0 _ rfl; (with_reducible repeat (first | refine blk_drewN ?_ _ | refine blk_drew ?_ | refine blk_alloc ?_ _)); exact BK349.out) hb); replace BK350 := bB BK350 hb; replace HB := bS HB hb; (try clear hb); (try clear hb2); (try clear hk); (try clear hi); have hcz58_0 : w57.cell? ⟨gb350, 0, none⟩ = some (.int .i64 t358) := bc BK350 0; have hcz58_1 : w57.cell? ⟨gb350, 1, none⟩ = some (.int .i64 t359) := bc BK350 1; have hcz58_2 : w57.cell? ⟨gb350, 2, none⟩ = some (.bool t360) := bc BK350 2; have hfz58_0 := blk_frozen BK350.out 0; have hfz58_1 := blk_frozen BK350.out 1; have hfz58_2 := blk_frozen BK350.out 2))
      go_roundg k1
      case measure => have := HK1.out; omega
      case rel => exact ⟨(wrap64 (x7_1 - 1)), (t363), (t364), (t365), (t366), (t367), (by first | rfl | (simp; done) | (simp [*]; done)), H', ⟨by have := HK1.out; omega⟩, ⟨bP BK346⟩, ⟨bP BK347⟩, ⟨bP BK348⟩, ⟨bP BK349⟩, ⟨by (with_reducible repeat (first | refine blk_drewN ?_ _ | refine blk_drew ?_ | refine blk_alloc ?_ _)); refine blk_put (cs := #[.int .i64 t365, .int .i64 t366, .bool t360]) ?_ 2 _ rfl; (with_reducible repeat (first | refine blk_drewN ?_ _ | refine blk_drew ?_ | refine blk_alloc ?_ _)); refine blk_put (cs := #[.int .i64 t365, .int .i64 t359, .bool t360]) ?_ 1 _ rfl; (with_reducible repeat (first | refine blk_drewN ?_ _ | refine blk_drew ?_ | refine blk_alloc ?_ _)); refine blk_put (cs := #[.int .i64 t358, .int .i64 t359, .bool t360]) ?_ 0 _ rfl; (with_reducible repeat (first | refine blk_drewN ?_ _ | refine blk_drew ?_ | refine blk_alloc ?_ _)); exact BK350.out⟩, ⟨bZ HB⟩⟩
     ·rw [if_neg c29] at H
      have c29b0 : ((Go.bits .and .i64 (ji28) 1) == 1) = false := beq_eq_false_iff_ne.mpr c29
      have c29b1 : ((Go.bits .and .i64 (ji28) 1) != 1) = true := bne_iff_ne.mpr c29
      have H' := Aside0.mk H
      clear H
      try go_wp2
      replace BK346 := Aside0.mk (blk_drew BK346.out)
      replace BK347 := Aside0.mk (blk_drew BK347.out)
      replace BK348 := Aside0.mk (blk_drew BK348.out)
      replace BK349 := Aside0.mk (blk_drew BK349.out)
      replace BK350 := Aside0.mk (blk_drew BK350.out)
      replace HB := Aside0.mk (below_drew1 HB.out)
      refine start_ (n := 9) (S := fun w' => w'.cell? ⟨gb349, 0, none⟩ = some (.int .i64 x350000_1) ∧ w'.cell? ⟨gb349, 1, none⟩ = some (.int .i64 x350001_1) ∧ w'.cell? ⟨gb350, 0, none⟩ = some (.int .i64 x351000_1) ∧ w'.cell? ⟨gb350, 1, none⟩ = some (.int .i64 x351001_1) ∧ w'.cell? ⟨gb350, 2, none⟩ = some (.bool x351002_1) ∧ w'.cell? ⟨gb347, 0, none⟩ = some (.int .i64 a1_0) ∧ w'.cell? ⟨gb347, 1, none⟩ = some (.int .i64 a1_1) ∧ w'.cell? ⟨gb347, 2, none⟩ = some (.bool a1_2)) (ds := [8]) #[false, false, false, false, false, false, false, false, false] (by kernel_rfl) rfl rfl ⟨bc BK349 0, bc BK349 1, bc BK350 0, bc BK350 1, bc BK350 2, bc BK347 0, bc BK347 1, bc BK347 2⟩ (fun hHeld => ?_); refine with_tabW impl_Miller.tab6 impl_Miller.bits6 (fun HT_ HW_ => ?_)
      generalize wr.drew = w59 at BK346 BK347 BK348 BK349 BK350 HB hHeld ⊢
      refine take_ (i := 0) (N := some 16) (v := ?_) (a' := ?_) #[true, false, false, false, false, false, false, false, false] rfl rfl (take_ofW HT_.out HW_.out (by kernel_rfl)) (fun _ _ _ h => h) (Or.inl ⟨by rfl, ?_⟩) hHeld ?_ ?_
      rotate_left
      ·rintro w' ⟨s0, s1, s2, s3, s4, s5, s6, s7⟩
       go_simp
       with_reducible rfl
      rotate_left
      ·simp only [Act.put, List.setIfInBounds_toArray, List.set_cons_zero, List.set_cons_succ, i64_w, i32_w]
       rfl
      refine take_ (i := 1) (N := some 17) (v := ?_) (a' := ?_) #[true, true, false, false, false, false, false, false, false] rfl rfl (take_ofW HT_.out HW_.out (by kernel_rfl)) (fun _ _ _ h => h) (Or.inl ⟨by rfl, ?_⟩) hHeld ?_ ?_
      rotate_left
      ·rintro w' ⟨s0, s1, s2, s3, s4, s5, s6, s7⟩
       go_simp
       with_reducible rfl
      rotate_left
      ·simp only [Act.put, List.setIfInBounds_toArray, List.set_cons_zero, List.set_cons_succ, i64_w, i32_w]
       rfl
      refine take_ (i := 3) (N := some 19) (v := ?_) (a' := ?_) #[true, true, false, true, false, false, false, false, false] rfl rfl (take_ofW HT_.out HW_.out (by kernel_rfl)) (fun _ _ _ h => h) (Or.inl ⟨by rfl, ?_⟩) hHeld ?_ ?_
      rotate_left
      ·rintro w' ⟨s0, s1, s2, s3, s4, s5, s6, s7⟩
       go_simp
       with_reducible rfl
      rotate_left
      ·simp only [Act.put, List.setIfInBounds_toArray, List.set_cons_zero, List.set_cons_succ, i64_w, i32_w]
       rfl
      refine take_ (i := 4) (N := some 20) (v := ?_) (a' := ?_) #[true, true, false, true, true, false, false, false, false] rfl rfl (take_ofW HT_.out HW_.out (by kernel_rfl)) (fun _ _ _ h => h) (Or.inl ⟨by rfl, ?_⟩) hHeld ?_ ?_
      rotate_left
      ·rintro w' ⟨s0, s1, s2, s3, s4, s5, s6, s7⟩
       go_simp
       with_reducible rfl
      rotate_left
      ·simp only [Act.put, List.setIfInBounds_toArray, List.set_cons_zero, List.set_cons_succ, i64_w, i32_w]
       rfl
      refine take_ (i := 5) (N := some 21) (v := ?_) (a' := ?_) #[true, true, false, true, true, true, false, false, false] rfl rfl (take_ofW HT_.out HW_.out (by kernel_rfl)) (fun _ _ _ h => h) (Or.inl ⟨by rfl, ?_⟩) hHeld ?_ ?_
      rotate_left
      ·rintro w' ⟨s0, s1, s2, s3, s4, s5, s6, s7⟩
       go_simp
       with_reducible rfl
      rotate_left
      ·simp only [Act.put, List.setIfInBounds_toArray, List.set_cons_zero, List.set_cons_succ, i64_w, i32_w]
       rfl
      refine one_ (i := 2) (N := some 18) #[true, true, true, true, true, true, false, false, false] rfl rfl (one_of HT_.out (by kernel_rfl)) (by decide) (fun K hK => ?_)
      refine goes_ Try.func21 (by kernel_rfl) rfl #[.agg #[.int .i64 x350000_1, .int .i64 x350001_1], .agg #[.int .i64 x350000_1, .int .i64 x350001_1]] (by rfl) rfl rfl (by (try simp only [List.map_toArray, List.map_cons, List.map_nil]); first | done | rfl | (simp only [List.length_drop, List.length_take]; rfl)) ?_
      with_reducible refine (impl_TwoMul.calls x350000_1 x350001_1 x350000_1 x350001_1 t352 t353 _ A22.out).mono ?_
      rintro e w60 ⟨rfl, hb⟩
      refine ⟨_, rfl, ?_⟩
      replace BK346 := bB BK346 hb
      replace BK347 := bB BK347 hb
      replace BK348 := bB BK348 hb
      replace BK349 := bB BK349 hb
      replace BK350 := bB BK350 hb
      replace HB := bS HB hb
      (try clear hb)
      (try clear hb2)
      (try clear hk)
      (try clear hi)
      refine hK.out _ _ ⟨bc BK349 0, bc BK349 1, bc BK350 0, bc BK350 1, bc BK350 2, bc BK347 0, bc BK347 1, bc BK347 2⟩ (fun hHeld => ?_)
      clear hK K
      refine norm_ (a' := ?_) ?_ ?_
      rotate_left
      ·show Act.put _ (some 18) _ = _
       simp only [Act.put, List.setIfInBounds_toArray, List.set_cons_zero, List.set_cons_succ, i64_w, i32_w]
       rfl
      refine one_ (i := 6) (N := some 22) #[true, true, true, true, true, true, true, false, false] rfl rfl (one_of HT_.out (by kernel_rfl)) (by decide) (fun K hK => ?_)
      refine goes_ Try.func25 (by kernel_rfl) rfl #[.agg #[.int .i64 x351000_1, .int .i64 x351001_1, .bool x351002_1], .agg #[.int .i64 x351000_1, .int .i64 x351001_1, .bool x351002_1], .agg #[.int .i64 a1_0, .int .i64 a1_1, .bool a1_2]] (by rfl) rfl rfl (by (try simp only [List.map_toArray, List.map_cons, List.map_nil]); first | done | rfl | (simp only [List.length_drop, List.length_take]; rfl)) ?_
      with_reducible refine (impl_PairLine.calls k1 x351000_1 x351001_1 x351002_1 x351000_1 x351001_1 x351002_1 a1_0 a1_1 a1_2 t354 t355 _ A23.out).mono ?_
      rintro e w61 ⟨rfl, hb⟩
      refine ⟨_, rfl, ?_⟩
      replace BK346 := bB BK346 hb
      replace BK347 := bB BK347 hb
      replace BK348 := bB BK348 hb
      replace BK349 := bB BK349 hb
      replace BK350 := bB BK350 hb
      replace HB := bS HB hb
      (try clear hb)
      (try clear hb2)
      (try clear hk)
      (try clear hi)
      refine hK.out _ _ ⟨bc BK349 0, bc BK349 1, bc BK350 0, bc BK350 1, bc BK350 2, bc BK347 0, bc BK347 1, bc BK347 2⟩ (fun hHeld => ?_)
      clear hK K
      refine norm_ (a' := ?_) ?_ ?_
      rotate_left
      ·show Act.put _ (some 22) _ = _
       simp only [Act.put, List.setIfInBounds_toArray, List.set_cons_zero, List.set_cons_succ, i64_w, i32_w]
       rfl
      refine one_ (i := 7) (N := some 23) #[true, true, true, true, true, true, true, true, false] rfl rfl (one_of HT_.out (by kernel_rfl)) (by decide) (fun K hK => ?_)
      refine goes_ Try.func21 (by kernel_rfl) rfl #[.agg #[.int .i64 t352, .int .i64 t353], .agg #[.int .i64 t354, .int .i64 t355]] (by rfl) rfl rfl (by (try simp only [List.map_toArray, List.map_cons, List.map_nil]); first | done | rfl | (simp only [List.length_drop, List.length_take]; rfl)) ?_
      with_reducible refine (impl_TwoMul.calls t352 t353 t354 t355 t356 t357 _ A24.out).mono ?_
      rintro e w62 ⟨rfl, hb⟩
      refine ⟨_, rfl, ?_⟩
      replace BK346 := bB BK346 hb
      replace BK347 := bB BK347 hb
      replace BK348 := bB BK348 hb
      replace BK349 := bB BK349 hb
      replace BK350 := bB BK350 hb
      replace HB := bS HB hb
      (try clear hb)
      (try clear hb2)
      (try clear hk)
      (try clear hi)
      refine hK.out _ _ ⟨bc BK349 0, bc BK349 1, bc BK350 0, bc BK350 1, bc BK350 2, bc BK347 0, bc BK347 1, bc BK347 2⟩ (fun hHeld => ?_)
      clear hK K
      refine norm_ (a' := ?_) ?_ ?_
      rotate_left
      ·show Act.put _ (some 23) _ = _
       simp only [Act.put, List.setIfInBounds_toArray, List.set_cons_zero, List.set_cons_succ, i64_w, i32_w]
       rfl
      refine last_ (i := 8) (N := none) #[true, true, true, true, true, true, true, true, true] rfl rfl (one_of HT_.out (by kernel_rfl)) (by decide) (fun K hK => ?_)
      have hs63 : w62.cell? ⟨gb349, 0, none⟩ = some (.int .i64 x350000_1) := bc BK349 0
      have hfs63 := blk_frozen BK349.out 0
      have hns63_0 := NB346_349.out
      have hns63_1 := NB347_349.out
      have hns63_2 := NB348_349.out
      have hns63_4 := NB350_349.out
      have hms63_0 := NB349_346.out
      have hms63_1 := NB349_347.out
      have hms63_2 := NB349_348.out
      have hms63_4 := NB349_350.out
      have hs64 : w62.cell? ⟨gb349, 1, none⟩ = some (.int .i64 x350001_1) := bc BK349 1
      have hfs64 := blk_frozen BK349.out 1
      have hns64_0 := NB346_349.out
      have hns64_1 := NB347_349.out
      have hns64_2 := NB348_349.out
      have hns64_4 := NB350_349.out
      have hms64_0 := NB349_346.out
      have hms64_1 := NB349_347.out
      have hms64_2 := NB349_348.out
      have hms64_4 := NB349_350.out
      refine skip_ (w1 := ?_) (by rfl) rfl ?_ ?_
      rotate_left
      ·go_simp
       rfl
      refine hK.out _ _ ?_
      clear hK K
      refine done_ (done_of HT_.out (by kernel_rfl)) ?_
      have hnb65 := NB350_346.out
      have hnc65 := NB346_350.out
      have hnb66 := NB350_347.out
      have hnc66 := NB347_350.out
      have hnb67 := NB350_348.out
      have hnc67 := NB348_350.out
      have hnb68 := NB350_349.out
      have hnc68 := NB349_350.out
      have hcz69_0 : w62.cell? ⟨gb350, 0, none⟩ = some (.int .i64 x351000_1) := bc BK350 0
      have hcz69_1 : w62.cell? ⟨gb350, 1, none⟩ = some (.int .i64 x351001_1) := bc BK350 1
      have hcz69_2 : w62.cell? ⟨gb350, 2, none⟩ = some (.bool x351002_1) := bc BK350 2
      have hfz69_0 := blk_frozen BK350.out 0
      have hfz69_1 := blk_frozen BK350.out 1
      have hfz69_2 := blk_frozen BK350.out 2
      try go_wp2_with (first | ((with_reducible refine gate_callee (f := 19) rfl ?_); refine goesL_ (some 26) rfl rfl Try.func19 (by kernel_rfl) rfl #[.agg #[.int .i64 x351000_1, .int .i64 x351001_1, .bool x351002_1], .agg #[.int .i64 x351000_1, .int .i64 x351001_1, .bool x351002_1]] rfl (by (try simp only [List.map_toArray, List.map_cons, List.map_nil]); first | done | rfl | (simp only [List.length_drop, List.length_take]; rfl)) ?_; (with_reducible refine (impl_PointAdd.calls k1 x351000_1 x351001_1 x351002_1 x351000_1 x351001_1 x351002_1 t358 t359 t360 _ A25.out).mono ?_); rintro e w70 ⟨rfl, hb⟩; refine ⟨_, rfl, ?_⟩; replace BK346 := bB BK346 hb; replace BK347 := bB BK347 hb; replace BK348 := bB BK348 hb; replace BK349 := Aside0.mk (blk_below (g := gb349) (o := .cells #[.int .i64 t356, .int .i64 t357] 31 (0, 0)) (by (with_reducible repeat (first | refine blk_drewN ?_ _ | refine blk_drew ?_ | refine blk_alloc ?_ _)); refine blk_put (cs := #[.int .i64 t356, .int .i64 x350001_1]) ?_ 1 _ rfl; (with_reducible repeat (first | refine blk_drewN ?_ _ | refine blk_drew ?_ | refine blk_alloc ?_ _)); refine blk_put (cs := #[.int .i64 x350000_1, .int .i64 x350001_1]) ?_ 0 _ rfl; (with_reducible repeat (first | refine blk_drewN ?_ _ | refine blk_drew ?_ | refine blk_alloc ?_ _)); exact BK349.out) hb); replace BK350 := bB BK350 hb; replace HB := bS HB hb; (try clear hb); (try clear hb2); (try clear hk); (try clear hi); have hcz71_0 : w70.cell? ⟨gb350, 0, none⟩ = some (.int .i64 x351000_1) := bc BK350 0; have hcz71_1 : w70.cell? ⟨gb350, 1, none⟩ = some (.int .i64 x351001_1) := bc BK350 1; have hcz71_2 : w70.cell? ⟨gb350, 2, none⟩ = some (.bool x351002_1) := bc BK350 2; have hfz71_0 := blk_frozen BK350.out 0; have hfz71_1 := blk_frozen BK350.out 1; have hfz71_2 := blk_frozen BK350.out 2))
      go_roundg k1
      case measure => have := HK1.out; omega
      case rel => exact ⟨(wrap64 (x7_1 - 1)), (t356), (t357), (t358), (t359), (t360), (by first | rfl | (simp; done) | (simp [*]; done)), H', ⟨by have := HK1.out; omega⟩, ⟨bP BK346⟩, ⟨bP BK347⟩, ⟨bP BK348⟩, ⟨bP BK349⟩, ⟨by (with_reducible repeat (first | refine blk_drewN ?_ _ | refine blk_drew ?_ | refine blk_alloc ?_ _)); refine blk_put (cs := #[.int .i64 t358, .int .i64 t359, .bool x351002_1]) ?_ 2 _ rfl; (with_reducible repeat (first | refine blk_drewN ?_ _ | refine blk_drew ?_ | refine blk_alloc ?_ _)); refine blk_put (cs := #[.int .i64 t358, .int .i64 x351001_1, .bool x351002_1]) ?_ 1 _ rfl; (with_reducible repeat (first | refine blk_drewN ?_ _ | refine blk_drew ?_ | refine blk_alloc ?_ _)); refine blk_put (cs := #[.int .i64 x351000_1, .int .i64 x351001_1, .bool x351002_1]) ?_ 0 _ rfl; (with_reducible repeat (first | refine blk_drewN ?_ _ | refine blk_drew ?_ | refine blk_alloc ?_ _)); exact BK350.out⟩, ⟨bZ HB⟩⟩
    ·rw [if_neg c27] at H
     exact absurd H (by simp)
   ·rw [if_neg c21] at H
    have c21b0 : decide (0 ≤ x7_1) = false := decide_eq_false c21
    clear c21
    simp only [Option.some.injEq, Prod.mk.injEq] at H
    obtain ⟨rfl, rfl⟩ := H
    have hnb72 := NB349_346.out
    have hnc72 := NB346_349.out
    have hnb73 := NB349_347.out
    have hnc73 := NB347_349.out
    have hnb74 := NB349_348.out
    have hnc74 := NB348_349.out
    have hnb75 := NB349_350.out
    have hnc75 := NB350_349.out
    have hcz76_0 : wr.cell? ⟨gb349, 0, none⟩ = some (.int .i64 x350000_1) := bc BK349 0
    have hcz76_1 : wr.cell? ⟨gb349, 1, none⟩ = some (.int .i64 x350001_1) := bc BK349 1
    have hfz76_0 := blk_frozen BK349.out 0
    have hfz76_1 := blk_frozen BK349.out 1
    have hnb77 := NB348_346.out
    have hnc77 := NB346_348.out
    have hnb78 := NB348_347.out
    have hnc78 := NB347_348.out
    have hnb79 := NB348_350.out
    have hnc79 := NB350_348.out
    have hcz80_0 : wr.cell? ⟨gb348, 0, none⟩ = some (.int .i64 0) := bc BK348 0
    have hcz80_1 : wr.cell? ⟨gb348, 1, none⟩ = some (.int .i64 0) := bc BK348 1
    have hfz80_0 := blk_frozen BK348.out 0
    have hfz80_1 := blk_frozen BK348.out 1
    go_wp2
    refine bodyPost_ret (results_cell_row rfl _ _ gb348 31 #[.int .i64 x350000_1, .int .i64 x350001_1] (0, 0) _ rfl (by (with_reducible repeat (first | refine blk_drewN ?_ _ | refine blk_drew ?_ | refine blk_alloc ?_ _)); refine blk_put (cs := #[.int .i64 x350000_1, .int .i64 0]) ?_ 1 _ rfl; (with_reducible repeat (first | refine blk_drewN ?_ _ | refine blk_drew ?_ | refine blk_alloc ?_ _)); refine blk_put (cs := #[.int .i64 0, .int .i64 0]) ?_ 0 _ rfl; (with_reducible repeat (first | refine blk_drewN ?_ _ | refine blk_drew ?_ | refine blk_alloc ?_ _)); exact BK348.out) Try.underlying31 rfl (by kernel_rfl)) rfl ?_
    exact ⟨by first | rfl | (simp [errW_none, errW_some] <;> rfl) | (simp [*, errW_none, errW_some] <;> rfl), bZ HB⟩
/-! ### spec_FpOf: function 102 -/
def spec_FpOf.f (a0 : Int) : Option (Int) := if (Int.tmod a0 12107) < 0 then (some (wrap64 ((Int.tmod a0 12107) + 12107))) else (some (Int.tmod a0 12107))
set_option maxHeartbeats 8000000 in
set_option maxRecDepth 100000 in
theorem spec_FpOf.calls (a0 : Int) (r : Int) (w : World) (h : spec_FpOf.f a0 = some r) :
  Calls Try.prog 102 #[.int .i64 a0] w fun e w' => e = .returned (.int .i64 r) ∧ Drawn0 w w' := by
 have H : (if (Int.tmod a0 12107) < 0 then (some (wrap64 ((Int.tmod a0 12107) + 12107))) else (some (Int.tmod a0 12107))) = some r := h
 clear h
 by_cases c2 : (Int.tmod a0 12107) < 0
 ·rw [if_pos c2] at H
  have c2b0 : decide ((Int.tmod a0 12107) < 0) = true := decide_eq_true c2
  clear c2
  obtain rfl := Option.some.inj H
  go_enter Try.func102, Try.ntmps102
  go_wp2
  go_ret
  exact ⟨by first | rfl | (simp; done) | (simp [*]; done), by repeat (first | exact Drawn0.refl _ | apply Drawn0.step)⟩
 ·rw [if_neg c2] at H
  have c2b0 : decide ((Int.tmod a0 12107) < 0) = false := decide_eq_false c2
  clear c2
  obtain rfl := Option.some.inj H
  go_enter Try.func102, Try.ntmps102
  go_wp2
  go_ret
  exact ⟨by first | rfl | (simp; done) | (simp [*]; done), by repeat (first | exact Drawn0.refl _ | apply Drawn0.step)⟩
/-! ### spec_FpMul: function 76 -/
def spec_FpMul.f (a0 : Int) (a1 : Int) : Option (Int) := (spec_FpOf.f a0).bind fun t104 => ((spec_FpOf.f a1).bind fun t105 => ((spec_FpOf.f (wrap64 (t104 * t105))).bind fun t106 => (some t106)))
set_option maxHeartbeats 8000000 in
set_option maxRecDepth 100000 in
theorem spec_FpMul.calls (a0 : Int) (a1 : Int) (r : Int) (w : World) (h : spec_FpMul.f a0 a1 = some r) :
  Calls Try.prog 76 #[.int .i64 a0, .int .i64 a1] w fun e w' => e = .returned (.int .i64 r) ∧ Drawn0 w w' := by
 have H : ((spec_FpOf.f a0).bind fun t104 => ((spec_FpOf.f a1).bind fun t105 => ((spec_FpOf.f (wrap64 (t104 * t105))).bind fun t106 => (some t106)))) = some r := h
 clear h
 replace H := Option.bind_eq_some_iff.mp H
 obtain ⟨t104, A30, H⟩ := H
 replace H : ((spec_FpOf.f a1).bind fun t105 => ((spec_FpOf.f (wrap64 (t104 * t105))).bind fun t106 => (some t106))) = some r := H
 have A3 := Aside0.mk A30
 clear A30
 replace H := Option.bind_eq_some_iff.mp H
 obtain ⟨t105, A40, H⟩ := H
 replace H : ((spec_FpOf.f (wrap64 (t104 * t105))).bind fun t106 => (some t106)) = some r := H
 have A4 := Aside0.mk A40
 clear A40
 replace H := Option.bind_eq_some_iff.mp H
 obtain ⟨t106, A50, H⟩ := H
 replace H : (some t106) = some r := H
 have A5 := Aside0.mk A50
 clear A50
 obtain rfl := Option.some.inj H
 go_enter Try.func76, Try.ntmps76
 go_wp2_with (first | ((with_reducible refine gate_callee (f := 102) rfl ?_); refine goesL_ (some 6) rfl rfl Try.func102 (by kernel_rfl) rfl #[.int .i64 a0] rfl (by (try simp only [List.map_toArray, List.map_cons, List.map_nil]); first | done | rfl | (simp only [List.length_drop, List.length_take]; rfl)) ?_; (with_reducible refine (spec_FpOf.calls a0 t104 _ A3.out).mono ?_); rintro e w' ⟨rfl, ⟨nd, rfl⟩⟩; refine ⟨_, rfl, ?_⟩) | ((with_reducible refine gate_callee (f := 102) rfl ?_); refine goesL_ (some 8) rfl rfl Try.func102 (by kernel_rfl) rfl #[.int .i64 a1] rfl (by (try simp only [List.map_toArray, List.map_cons, List.map_nil]); first | done | rfl | (simp only [List.length_drop, List.length_take]; rfl)) ?_; (with_reducible refine (spec_FpOf.calls a1 t105 _ A4.out).mono ?_); rintro e w' ⟨rfl, ⟨nd, rfl⟩⟩; refine ⟨_, rfl, ?_⟩) | ((with_reducible refine gate_callee (f := 102) rfl ?_); refine goesL_ (some 10) rfl rfl Try.func102 (by kernel_rfl) rfl #[.int .i64 (wrap64 (t104 * t105))] rfl (by (try simp only [List.map_toArray, List.map_cons, List.map_nil]); first | done | rfl | (simp only [List.length_drop, List.length_take]; rfl)) ?_; (with_reducible refine (spec_FpOf.calls (wrap64 (t104 * t105)) t106 _ A5.out).mono ?_); rintro e w' ⟨rfl, ⟨nd, rfl⟩⟩; refine ⟨_, rfl, ?_⟩))
 go_ret
 exact ⟨by first | rfl | (simp; done) | (simp [*]; done), by repeat (first | exact Drawn0.refl _ | apply Drawn0.step)⟩
/-! ### spec_l01In: function 109 -/
def spec_l01In.f (a0 : Int) (a1 : Int) (a2 : Int) : Option (Bool) := if a0 ≥ a1 then (some (decide (a0 ≤ a2))) else (some false)
set_option maxHeartbeats 8000000 in
set_option maxRecDepth 100000 in
theorem spec_l01In.calls (a0 : Int) (a1 : Int) (a2 : Int) (r : Bool) (w : World) (h : spec_l01In.f a0 a1 a2 = some r) :
  Calls Try.prog 109 #[.int .i64 a0, .int .i64 a1, .int .i64 a2] w fun e w' => e = .returned (.bool r) ∧ Drawn0 w w' := by
 have H : (if a0 ≥ a1 then (some (decide (a0 ≤ a2))) else (some false)) = some r := h
 clear h
 by_cases c4 : a0 ≥ a1
 ·rw [if_pos c4] at H
  have c4b0 : decide (a1 ≤ a0) = true := decide_eq_true c4
  clear c4
  obtain rfl := Option.some.inj H
  go_enter Try.func109, Try.ntmps109
  go_wp2
  go_ret
  exact ⟨by first | rfl | (simp; done) | (simp [*]; done), by repeat (first | exact Drawn0.refl _ | apply Drawn0.step)⟩
 ·rw [if_neg c4] at H
  have c4b0 : decide (a1 ≤ a0) = false := decide_eq_false c4
  clear c4
  obtain rfl := Option.some.inj H
  go_enter Try.func109, Try.ntmps109
  go_wp2
  go_ret
  exact ⟨by first | rfl | (simp; done) | (simp [*]; done), by repeat (first | exact Drawn0.refl _ | apply Drawn0.step)⟩
/-! ### spec_FpOk: function 93 -/
def spec_FpOk.f (a0 : Int) : Option (Bool) := (spec_l01In.f a0 0 12106).bind fun t107 => (some t107)
set_option maxHeartbeats 8000000 in
set_option maxRecDepth 100000 in
theorem spec_FpOk.calls (a0 : Int) (r : Bool) (w : World) (h : spec_FpOk.f a0 = some r) :
  Calls Try.prog 93 #[.int .i64 a0] w fun e w' => e = .returned (.bool r) ∧ Drawn0 w w' := by
 have H : ((spec_l01In.f a0 0 12106).bind fun t107 => (some t107)) = some r := h
 clear h
 replace H := Option.bind_eq_some_iff.mp H
 obtain ⟨t107, A20, H⟩ := H
 replace H : (some t107) = some r := H
 have A2 := Aside0.mk A20
 clear A20
 obtain rfl := Option.some.inj H
 go_enter Try.func93, Try.ntmps93
 go_wp2_with (first | ((with_reducible refine gate_callee (f := 109) rfl ?_); refine goesL_ (some 4) rfl rfl Try.func109 (by kernel_rfl) rfl #[.int .i64 a0, .int .i64 0, .int .i64 12106] rfl (by (try simp only [List.map_toArray, List.map_cons, List.map_nil]); first | done | rfl | (simp only [List.length_drop, List.length_take]; rfl)) ?_; (with_reducible refine (spec_l01In.calls a0 0 12106 t107 _ A2.out).mono ?_); rintro e w' ⟨rfl, ⟨nd, rfl⟩⟩; refine ⟨_, rfl, ?_⟩))
 go_ret
 exact ⟨by first | rfl | (simp; done) | (simp [*]; done), by repeat (first | exact Drawn0.refl _ | apply Drawn0.step)⟩
/-! ### spec_FpAdd: function 103 -/
def spec_FpAdd.f (a0 : Int) (a1 : Int) : Option (Int) := (spec_FpOf.f a0).bind fun t108 => ((spec_FpOf.f a1).bind fun t109 => ((spec_FpOf.f (wrap64 (t108 + t109))).bind fun t110 => (some t110)))
set_option maxHeartbeats 8000000 in
set_option maxRecDepth 100000 in
theorem spec_FpAdd.calls (a0 : Int) (a1 : Int) (r : Int) (w : World) (h : spec_FpAdd.f a0 a1 = some r) :
  Calls Try.prog 103 #[.int .i64 a0, .int .i64 a1] w fun e w' => e = .returned (.int .i64 r) ∧ Drawn0 w w' := by
 have H : ((spec_FpOf.f a0).bind fun t108 => ((spec_FpOf.f a1).bind fun t109 => ((spec_FpOf.f (wrap64 (t108 + t109))).bind fun t110 => (some t110)))) = some r := h
 clear h
 replace H := Option.bind_eq_some_iff.mp H
 obtain ⟨t108, A30, H⟩ := H
 replace H : ((spec_FpOf.f a1).bind fun t109 => ((spec_FpOf.f (wrap64 (t108 + t109))).bind fun t110 => (some t110))) = some r := H
 have A3 := Aside0.mk A30
 clear A30
 replace H := Option.bind_eq_some_iff.mp H
 obtain ⟨t109, A40, H⟩ := H
 replace H : ((spec_FpOf.f (wrap64 (t108 + t109))).bind fun t110 => (some t110)) = some r := H
 have A4 := Aside0.mk A40
 clear A40
 replace H := Option.bind_eq_some_iff.mp H
 obtain ⟨t110, A50, H⟩ := H
 replace H : (some t110) = some r := H
 have A5 := Aside0.mk A50
 clear A50
 obtain rfl := Option.some.inj H
 go_enter Try.func103, Try.ntmps103
 go_wp2_with (first | ((with_reducible refine gate_callee (f := 102) rfl ?_); refine goesL_ (some 6) rfl rfl Try.func102 (by kernel_rfl) rfl #[.int .i64 a0] rfl (by (try simp only [List.map_toArray, List.map_cons, List.map_nil]); first | done | rfl | (simp only [List.length_drop, List.length_take]; rfl)) ?_; (with_reducible refine (spec_FpOf.calls a0 t108 _ A3.out).mono ?_); rintro e w' ⟨rfl, ⟨nd, rfl⟩⟩; refine ⟨_, rfl, ?_⟩) | ((with_reducible refine gate_callee (f := 102) rfl ?_); refine goesL_ (some 8) rfl rfl Try.func102 (by kernel_rfl) rfl #[.int .i64 a1] rfl (by (try simp only [List.map_toArray, List.map_cons, List.map_nil]); first | done | rfl | (simp only [List.length_drop, List.length_take]; rfl)) ?_; (with_reducible refine (spec_FpOf.calls a1 t109 _ A4.out).mono ?_); rintro e w' ⟨rfl, ⟨nd, rfl⟩⟩; refine ⟨_, rfl, ?_⟩) | ((with_reducible refine gate_callee (f := 102) rfl ?_); refine goesL_ (some 10) rfl rfl Try.func102 (by kernel_rfl) rfl #[.int .i64 (wrap64 (t108 + t109))] rfl (by (try simp only [List.map_toArray, List.map_cons, List.map_nil]); first | done | rfl | (simp only [List.length_drop, List.length_take]; rfl)) ?_; (with_reducible refine (spec_FpOf.calls (wrap64 (t108 + t109)) t110 _ A5.out).mono ?_); rintro e w' ⟨rfl, ⟨nd, rfl⟩⟩; refine ⟨_, rfl, ?_⟩))
 go_ret
 exact ⟨by first | rfl | (simp; done) | (simp [*]; done), by repeat (first | exact Drawn0.refl _ | apply Drawn0.step)⟩
/-! ### spec_l07Right: function 95 -/
def spec_l07Right.f (a0 : Int) : Option (Int) := (spec_FpMul.f a0 a0).bind fun t111 => ((spec_FpMul.f t111 a0).bind fun t112 => ((spec_FpAdd.f t112 a0).bind fun t113 => (some t113)))
set_option maxHeartbeats 8000000 in
set_option maxRecDepth 100000 in
theorem spec_l07Right.calls (a0 : Int) (r : Int) (w : World) (h : spec_l07Right.f a0 = some r) :
  Calls Try.prog 95 #[.int .i64 a0] w fun e w' => e = .returned (.int .i64 r) ∧ Drawn0 w w' := by
 have H : ((spec_FpMul.f a0 a0).bind fun t111 => ((spec_FpMul.f t111 a0).bind fun t112 => ((spec_FpAdd.f t112 a0).bind fun t113 => (some t113)))) = some r := h
 clear h
 replace H := Option.bind_eq_some_iff.mp H
 obtain ⟨t111, A20, H⟩ := H
 replace H : ((spec_FpMul.f t111 a0).bind fun t112 => ((spec_FpAdd.f t112 a0).bind fun t113 => (some t113))) = some r := H
 have A2 := Aside0.mk A20
 clear A20
 replace H := Option.bind_eq_some_iff.mp H
 obtain ⟨t112, A30, H⟩ := H
 replace H : ((spec_FpAdd.f t112 a0).bind fun t113 => (some t113)) = some r := H
 have A3 := Aside0.mk A30
 clear A30
 replace H := Option.bind_eq_some_iff.mp H
 obtain ⟨t113, A40, H⟩ := H
 replace H : (some t113) = some r := H
 have A4 := Aside0.mk A40
 clear A40
 obtain rfl := Option.some.inj H
 go_enter Try.func95, Try.ntmps95
 go_wp2_with (first | ((with_reducible refine gate_callee (f := 76) rfl ?_); refine goesL_ (some 5) rfl rfl Try.func76 (by kernel_rfl) rfl #[.int .i64 a0, .int .i64 a0] rfl (by (try simp only [List.map_toArray, List.map_cons, List.map_nil]); first | done | rfl | (simp only [List.length_drop, List.length_take]; rfl)) ?_; (with_reducible refine (spec_FpMul.calls a0 a0 t111 _ A2.out).mono ?_); rintro e w' ⟨rfl, ⟨nd, rfl⟩⟩; refine ⟨_, rfl, ?_⟩) | ((with_reducible refine gate_callee (f := 76) rfl ?_); refine goesL_ (some 7) rfl rfl Try.func76 (by kernel_rfl) rfl #[.int .i64 t111, .int .i64 a0] rfl (by (try simp only [List.map_toArray, List.map_cons, List.map_nil]); first | done | rfl | (simp only [List.length_drop, List.length_take]; rfl)) ?_; (with_reducible refine (spec_FpMul.calls t111 a0 t112 _ A3.out).mono ?_); rintro e w' ⟨rfl, ⟨nd, rfl⟩⟩; refine ⟨_, rfl, ?_⟩) | ((with_reducible refine gate_callee (f := 103) rfl ?_); refine goesL_ (some 9) rfl rfl Try.func103 (by kernel_rfl) rfl #[.int .i64 t112, .int .i64 a0] rfl (by (try simp only [List.map_toArray, List.map_cons, List.map_nil]); first | done | rfl | (simp only [List.length_drop, List.length_take]; rfl)) ?_; (with_reducible refine (spec_FpAdd.calls t112 a0 t113 _ A4.out).mono ?_); rintro e w' ⟨rfl, ⟨nd, rfl⟩⟩; refine ⟨_, rfl, ?_⟩))
 go_ret
 exact ⟨by first | rfl | (simp; done) | (simp [*]; done), by repeat (first | exact Drawn0.refl _ | apply Drawn0.step)⟩
/-! ### spec_PointOk: function 55 -/
def spec_PointOk.f (a0_0 : Int) (a0_1 : Int) (a0_2 : Bool) : Option (Bool) := if a0_2 = true then (if a0_0 = 0 then (some (a0_1 == 0)) else (some false)) else ((spec_FpOk.f a0_0).bind fun t115 => (if t115 = true then ((spec_FpOk.f a0_1).bind fun t116 => (if t116 = true then ((spec_FpMul.f a0_1 a0_1).bind fun t117 => ((spec_l07Right.f a0_0).bind fun t118 => (some (t117 == t118)))) else (some false))) else (some false)))
set_option maxHeartbeats 8000000 in
set_option maxRecDepth 100000 in
theorem spec_PointOk.calls (a0_0 : Int) (a0_1 : Int) (a0_2 : Bool) (r : Bool) (w : World) (h : spec_PointOk.f a0_0 a0_1 a0_2 = some r) :
  Calls Try.prog 55 #[.agg #[.int .i64 a0_0, .int .i64 a0_1, .bool a0_2]] w fun e w' => e = .returned (.bool r) ∧ Below w.heap.size w w' := by
 have hu25 := Try.underlying25
 have HB := Aside0.mk (Below.refl w.heap.size w)
 have H : (if a0_2 = true then (if a0_0 = 0 then (some (a0_1 == 0)) else (some false)) else ((spec_FpOk.f a0_0).bind fun t115 => (if t115 = true then ((spec_FpOk.f a0_1).bind fun t116 => (if t116 = true then ((spec_FpMul.f a0_1 a0_1).bind fun t117 => ((spec_l07Right.f a0_0).bind fun t118 => (some (t117 == t118)))) else (some false))) else (some false)))) = some r := h
 clear h
 by_cases c2 : a0_2 = true
 ·subst c2
  have H1 : (if a0_0 = 0 then (some (a0_1 == 0)) else (some false)) = some r := by rw [if_pos rfl] at H; exact H
  clear H
  have H := H1
  clear H1
  by_cases c3 : a0_0 = 0
  ·rw [if_pos c3] at H
   have c3b0 : (a0_0 == 0) = true := beq_iff_eq.mpr c3
   have c3b1 : (a0_0 != 0) = false := bne_eq_false_iff_eq.mpr c3
   clear c3
   obtain rfl := Option.some.inj H
   go_enter Try.func55, Try.ntmps55
   go_wp2_with (first | ((with_reducible refine gate_dst (N := 1) rfl ?_); refine box_event ?hg (N := 1) ?hd (cs := #[.int .i64 a0_0, .int .i64 a0_1, .bool true]) (t := 25) ?hr ?_; (case hd => rfl); (case hg => rfl); (case hr => first | (go_simp; done) | (go_simp; rfl)); intro gb114 hg w4 hbox hb; have BK114 := Aside0.mk (hbox); have GW114 := bG HB hg; have GE114 := bG HB hg; replace HB := bS HB hb; clear hb hbox hg; have hcz5_0 : w4.cell? ⟨gb114, 0, none⟩ = some (.int .i64 a0_0) := bc BK114 0; have hcz5_1 : w4.cell? ⟨gb114, 1, none⟩ = some (.int .i64 a0_1) := bc BK114 1; have hcz5_2 : w4.cell? ⟨gb114, 2, none⟩ = some (.bool true) := bc BK114 2; have hfz5_0 := blk_frozen BK114.out 0; have hfz5_1 := blk_frozen BK114.out 1; have hfz5_2 := blk_frozen BK114.out 2))
   repeat (go_quiet (first | ((with_reducible refine gate_dst (N := 1) rfl ?_); refine box_event ?hg (N := 1) ?hd (cs := #[.int .i64 a0_0, .int .i64 a0_1, .bool true]) (t := 25) ?hr ?_; (case hd => rfl); (case hg => rfl); (case hr => first | (go_simp; done) | (go_simp; rfl)); intro gb114 hg w4 hbox hb; have BK114 := Aside0.mk (hbox); have GW114 := bG HB hg; have GE114 := bG HB hg; replace HB := bS HB hb; clear hb hbox hg; have hcz5_0 : w4.cell? ⟨gb114, 0, none⟩ = some (.int .i64 a0_0) := bc BK114 0; have hcz5_1 : w4.cell? ⟨gb114, 1, none⟩ = some (.int .i64 a0_1) := bc BK114 1; have hcz5_2 : w4.cell? ⟨gb114, 2, none⟩ = some (.bool true) := bc BK114 2; have hfz5_0 := blk_frozen BK114.out 0; have hfz5_1 := blk_frozen BK114.out 1; have hfz5_2 := blk_frozen BK114.out 2)); try go_wp2_with (first | ((with_reducible refine gate_dst (N := 1) rfl ?_); refine box_event ?hg (N := 1) ?hd (cs := #[.int .i64 a0_0, .int .i64 a0_1, .bool true]) (t := 25) ?hr ?_; (case hd => rfl); (case hg => rfl); (case hr => first | (go_simp; done) | (go_simp; rfl)); intro gb114 hg w4 hbox hb; have BK114 := Aside0.mk (hbox); have GW114 := bG HB hg; have GE114 := bG HB hg; replace HB := bS HB hb; clear hb hbox hg; have hcz5_0 : w4.cell? ⟨gb114, 0, none⟩ = some (.int .i64 a0_0) := bc BK114 0; have hcz5_1 : w4.cell? ⟨gb114, 1, none⟩ = some (.int .i64 a0_1) := bc BK114 1; have hcz5_2 : w4.cell? ⟨gb114, 2, none⟩ = some (.bool true) := bc BK114 2; have hfz5_0 := blk_frozen BK114.out 0; have hfz5_1 := blk_frozen BK114.out 1; have hfz5_2 := blk_frozen BK114.out 2)))
   go_ret
   exact ⟨by first | rfl | (simp [errW_none, errW_some] <;> rfl) | (simp [*, errW_none, errW_some] <;> rfl), bZ HB⟩
  ·rw [if_neg c3] at H
   have c3b0 : (a0_0 == 0) = false := beq_eq_false_iff_ne.mpr c3
   have c3b1 : (a0_0 != 0) = true := bne_iff_ne.mpr c3
   obtain rfl := Option.some.inj H
   go_enter Try.func55, Try.ntmps55
   go_wp2_with (first | ((with_reducible refine gate_dst (N := 1) rfl ?_); refine box_event ?hg (N := 1) ?hd (cs := #[.int .i64 a0_0, .int .i64 a0_1, .bool true]) (t := 25) ?hr ?_; (case hd => rfl); (case hg => rfl); (case hr => first | (go_simp; done) | (go_simp; rfl)); intro gb114 hg w6 hbox hb; have BK114 := Aside0.mk (hbox); have GW114 := bG HB hg; have GE114 := bG HB hg; replace HB := bS HB hb; clear hb hbox hg; have hcz7_0 : w6.cell? ⟨gb114, 0, none⟩ = some (.int .i64 a0_0) := bc BK114 0; have hcz7_1 : w6.cell? ⟨gb114, 1, none⟩ = some (.int .i64 a0_1) := bc BK114 1; have hcz7_2 : w6.cell? ⟨gb114, 2, none⟩ = some (.bool true) := bc BK114 2; have hfz7_0 := blk_frozen BK114.out 0; have hfz7_1 := blk_frozen BK114.out 1; have hfz7_2 := blk_frozen BK114.out 2))
   repeat (go_quiet (first | ((with_reducible refine gate_dst (N := 1) rfl ?_); refine box_event ?hg (N := 1) ?hd (cs := #[.int .i64 a0_0, .int .i64 a0_1, .bool true]) (t := 25) ?hr ?_; (case hd => rfl); (case hg => rfl); (case hr => first | (go_simp; done) | (go_simp; rfl)); intro gb114 hg w6 hbox hb; have BK114 := Aside0.mk (hbox); have GW114 := bG HB hg; have GE114 := bG HB hg; replace HB := bS HB hb; clear hb hbox hg; have hcz7_0 : w6.cell? ⟨gb114, 0, none⟩ = some (.int .i64 a0_0) := bc BK114 0; have hcz7_1 : w6.cell? ⟨gb114, 1, none⟩ = some (.int .i64 a0_1) := bc BK114 1; have hcz7_2 : w6.cell? ⟨gb114, 2, none⟩ = some (.bool true) := bc BK114 2; have hfz7_0 := blk_frozen BK114.out 0; have hfz7_1 := blk_frozen BK114.out 1; have hfz7_2 := blk_frozen BK114.out 2)); try go_wp2_with (first | ((with_reducible refine gate_dst (N := 1) rfl ?_); refine box_event ?hg (N := 1) ?hd (cs := #[.int .i64 a0_0, .int .i64 a0_1, .bool true]) (t := 25) ?hr ?_; (case hd => rfl); (case hg => rfl); (case hr => first | (go_simp; done) | (go_simp; rfl)); intro gb114 hg w6 hbox hb; have BK114 := Aside0.mk (hbox); have GW114 := bG HB hg; have GE114 := bG HB hg; replace HB := bS HB hb; clear hb hbox hg; have hcz7_0 : w6.cell? ⟨gb114, 0, none⟩ = some (.int .i64 a0_0) := bc BK114 0; have hcz7_1 : w6.cell? ⟨gb114, 1, none⟩ = some (.int .i64 a0_1) := bc BK114 1; have hcz7_2 : w6.cell? ⟨gb114, 2, none⟩ = some (.bool true) := bc BK114 2; have hfz7_0 := blk_frozen BK114.out 0; have hfz7_1 := blk_frozen BK114.out 1; have hfz7_2 := blk_frozen BK114.out 2)))
   go_ret
   exact ⟨by first | rfl | (simp [errW_none, errW_some] <;> rfl) | (simp [*, errW_none, errW_some] <;> rfl), bZ HB⟩
 ·replace c2 := Bool.eq_false_iff.mpr c2
  subst c2
  have H1 : ((spec_FpOk.f a0_0).bind fun t115 => (if t115 = true then ((spec_FpOk.f a0_1).bind fun t116 => (if t116 = true then ((spec_FpMul.f a0_1 a0_1).bind fun t117 => ((spec_l07Right.f a0_0).bind fun t118 => (some (t117 == t118)))) else (some false))) else (some false))) = some r := by rw [if_neg (show ¬ (false = true) by decide)] at H; exact H
  clear H
  have H := H1
  clear H1
  replace H := Option.bind_eq_some_iff.mp H
  obtain ⟨t115, A80, H⟩ := H
  replace H : (if t115 = true then ((spec_FpOk.f a0_1).bind fun t116 => (if t116 = true then ((spec_FpMul.f a0_1 a0_1).bind fun t117 => ((spec_l07Right.f a0_0).bind fun t118 => (some (t117 == t118)))) else (some false))) else (some false)) = some r := H
  have A8 := Aside0.mk A80
  clear A80
  by_cases c9 : t115 = true
  ·subst c9
   have H1 : ((spec_FpOk.f a0_1).bind fun t116 => (if t116 = true then ((spec_FpMul.f a0_1 a0_1).bind fun t117 => ((spec_l07Right.f a0_0).bind fun t118 => (some (t117 == t118)))) else (some false))) = some r := by rw [if_pos rfl] at H; exact H
   clear H
   have H := H1
   clear H1
   replace H := Option.bind_eq_some_iff.mp H
   obtain ⟨t116, A100, H⟩ := H
   replace H : (if t116 = true then ((spec_FpMul.f a0_1 a0_1).bind fun t117 => ((spec_l07Right.f a0_0).bind fun t118 => (some (t117 == t118)))) else (some false)) = some r := H
   have A10 := Aside0.mk A100
   clear A100
   by_cases c11 : t116 = true
   ·subst c11
    have H1 : ((spec_FpMul.f a0_1 a0_1).bind fun t117 => ((spec_l07Right.f a0_0).bind fun t118 => (some (t117 == t118)))) = some r := by rw [if_pos rfl] at H; exact H
    clear H
    have H := H1
    clear H1
    replace H := Option.bind_eq_some_iff.mp H
    obtain ⟨t117, A120, H⟩ := H
    replace H : ((spec_l07Right.f a0_0).bind fun t118 => (some (t117 == t118))) = some r := H
    have A12 := Aside0.mk A120
    clear A120
    replace H := Option.bind_eq_some_iff.mp H
    obtain ⟨t118, A130, H⟩ := H
    replace H : (some (t117 == t118)) = some r := H
    have A13 := Aside0.mk A130
    clear A130
    obtain rfl := Option.some.inj H
    go_enter Try.func55, Try.ntmps55
    go_wp2_with (first | ((with_reducible refine gate_dst (N := 1) rfl ?_); refine box_event ?hg (N := 1) ?hd (cs := #[.int .i64 a0_0, .int .i64 a0_1, .bool false]) (t := 25) ?hr ?_; (case hd => rfl); (case hg => rfl); (case hr => first | (go_simp; done) | (go_simp; rfl)); intro gb114 hg w14 hbox hb; have BK114 := Aside0.mk (hbox); have GW114 := bG HB hg; have GE114 := bG HB hg; replace HB := bS HB hb; clear hb hbox hg; have hcz15_0 : w14.cell? ⟨gb114, 0, none⟩ = some (.int .i64 a0_0) := bc BK114 0; have hcz15_1 : w14.cell? ⟨gb114, 1, none⟩ = some (.int .i64 a0_1) := bc BK114 1; have hcz15_2 : w14.cell? ⟨gb114, 2, none⟩ = some (.bool false) := bc BK114 2; have hfz15_0 := blk_frozen BK114.out 0; have hfz15_1 := blk_frozen BK114.out 1; have hfz15_2 := blk_frozen BK114.out 2) | (go_at_call 93; (with_reducible refine (spec_FpOk.calls a0_0 true _ A8.out).mono ?_); rintro e w' ⟨rfl, ⟨nd, rfl⟩⟩; (try first | exact ⟨rfl, _, World.drewN_drewN _ _ _⟩ | exact ⟨rfl, _, Eq.trans (World.drewN_drewN _ _ _) (congrArg (World.drewN _) (Nat.add_assoc _ _ _))⟩)) | (go_at_call 93; (with_reducible refine (spec_FpOk.calls a0_1 true _ A10.out).mono ?_); rintro e w' ⟨rfl, ⟨nd, rfl⟩⟩; (try first | exact ⟨rfl, _, World.drewN_drewN _ _ _⟩ | exact ⟨rfl, _, Eq.trans (World.drewN_drewN _ _ _) (congrArg (World.drewN _) (Nat.add_assoc _ _ _))⟩)) | (go_at_call 76; (with_reducible refine (spec_FpMul.calls a0_1 a0_1 t117 _ A12.out).mono ?_); rintro e w' ⟨rfl, ⟨nd, rfl⟩⟩; (try first | exact ⟨rfl, _, World.drewN_drewN _ _ _⟩ | exact ⟨rfl, _, Eq.trans (World.drewN_drewN _ _ _) (congrArg (World.drewN _) (Nat.add_assoc _ _ _))⟩)) | (go_at_call 95; (with_reducible refine (spec_l07Right.calls a0_0 t118 _ A13.out).mono ?_); rintro e w' ⟨rfl, ⟨nd, rfl⟩⟩; (try first | exact ⟨rfl, _, World.drewN_drewN _ _ _⟩ | exact ⟨rfl, _, Eq.trans (World.drewN_drewN _ _ _) (congrArg (World.drewN _) (Nat.add_assoc _ _ _))⟩)))
    repeat (go_quiet (first | ((with_reducible refine gate_dst (N := 1) rfl ?_); refine box_event ?hg (N := 1) ?hd (cs := #[.int .i64 a0_0, .int .i64 a0_1, .bool false]) (t := 25) ?hr ?_; (case hd => rfl); (case hg => rfl); (case hr => first | (go_simp; done) | (go_simp; rfl)); intro gb114 hg w14 hbox hb; have BK114 := Aside0.mk (hbox); have GW114 := bG HB hg; have GE114 := bG HB hg; replace HB := bS HB hb; clear hb hbox hg; have hcz15_0 : w14.cell? ⟨gb114, 0, none⟩ = some (.int .i64 a0_0) := bc BK114 0; have hcz15_1 : w14.cell? ⟨gb114, 1, none⟩ = some (.int .i64 a0_1) := bc BK114 1; have hcz15_2 : w14.cell? ⟨gb114, 2, none⟩ = some (.bool false) := bc BK114 2; have hfz15_0 := blk_frozen BK114.out 0; have hfz15_1 := blk_frozen BK114.out 1; have hfz15_2 := blk_frozen BK114.out 2) | (go_at_call 93; (with_reducible refine (spec_FpOk.calls a0_0 true _ A8.out).mono ?_); rintro e w' ⟨rfl, ⟨nd, rfl⟩⟩; (try first | exact ⟨rfl, _, World.drewN_drewN _ _ _⟩ | exact ⟨rfl, _, Eq.trans (World.drewN_drewN _ _ _) (congrArg (World.drewN _) (Nat.add_assoc _ _ _))⟩)) | (go_at_call 93; (with_reducible refine (spec_FpOk.calls a0_1 true _ A10.out).mono ?_); rintro e w' ⟨rfl, ⟨nd, rfl⟩⟩; (try first | exact ⟨rfl, _, World.drewN_drewN _ _ _⟩ | exact ⟨rfl, _, Eq.trans (World.drewN_drewN _ _ _) (congrArg (World.drewN _) (Nat.add_assoc _ _ _))⟩)) | (go_at_call 76; (with_reducible refine (spec_FpMul.calls a0_1 a0_1 t117 _ A12.out).mono ?_); rintro e w' ⟨rfl, ⟨nd, rfl⟩⟩; (try first | exact ⟨rfl, _, World.drewN_drewN _ _ _⟩ | exact ⟨rfl, _, Eq.trans (World.drewN_drewN _ _ _) (congrArg (World.drewN _) (Nat.add_assoc _ _ _))⟩)) | (go_at_call 95; (with_reducible refine (spec_l07Right.calls a0_0 t118 _ A13.out).mono ?_); rintro e w' ⟨rfl, ⟨nd, rfl⟩⟩; (try first | exact ⟨rfl, _, World.drewN_drewN _ _ _⟩ | exact ⟨rfl, _, Eq.trans (World.drewN_drewN _ _ _) (congrArg (World.drewN _) (Nat.add_assoc _ _ _))⟩))); try go_wp2_with (first | ((with_reducible refine gate_dst (N := 1) rfl ?_); refine box_event ?hg (N := 1) ?hd (cs := #[.int .i64 a0_0, .int .i64 a0_1, .bool false]) (t := 25) ?hr ?_; (case hd => rfl); (case hg => rfl); (case hr => first | (go_simp; done) | (go_simp; rfl)); intro gb114 hg w14 hbox hb; have BK114 := Aside0.mk (hbox); have GW114 := bG HB hg; have GE114 := bG HB hg; replace HB := bS HB hb; clear hb hbox hg; have hcz15_0 : w14.cell? ⟨gb114, 0, none⟩ = some (.int .i64 a0_0) := bc BK114 0; have hcz15_1 : w14.cell? ⟨gb114, 1, none⟩ = some (.int .i64 a0_1) := bc BK114 1; have hcz15_2 : w14.cell? ⟨gb114, 2, none⟩ = some (.bool false) := bc BK114 2; have hfz15_0 := blk_frozen BK114.out 0; have hfz15_1 := blk_frozen BK114.out 1; have hfz15_2 := blk_frozen BK114.out 2) | (go_at_call 93; (with_reducible refine (spec_FpOk.calls a0_0 true _ A8.out).mono ?_); rintro e w' ⟨rfl, ⟨nd, rfl⟩⟩; (try first | exact ⟨rfl, _, World.drewN_drewN _ _ _⟩ | exact ⟨rfl, _, Eq.trans (World.drewN_drewN _ _ _) (congrArg (World.drewN _) (Nat.add_assoc _ _ _))⟩)) | (go_at_call 93; (with_reducible refine (spec_FpOk.calls a0_1 true _ A10.out).mono ?_); rintro e w' ⟨rfl, ⟨nd, rfl⟩⟩; (try first | exact ⟨rfl, _, World.drewN_drewN _ _ _⟩ | exact ⟨rfl, _, Eq.trans (World.drewN_drewN _ _ _) (congrArg (World.drewN _) (Nat.add_assoc _ _ _))⟩)) | (go_at_call 76; (with_reducible refine (spec_FpMul.calls a0_1 a0_1 t117 _ A12.out).mono ?_); rintro e w' ⟨rfl, ⟨nd, rfl⟩⟩; (try first | exact ⟨rfl, _, World.drewN_drewN _ _ _⟩ | exact ⟨rfl, _, Eq.trans (World.drewN_drewN _ _ _) (congrArg (World.drewN _) (Nat.add_assoc _ _ _))⟩)) | (go_at_call 95; (with_reducible refine (spec_l07Right.calls a0_0 t118 _ A13.out).mono ?_); rintro e w' ⟨rfl, ⟨nd, rfl⟩⟩; (try first | exact ⟨rfl, _, World.drewN_drewN _ _ _⟩ | exact ⟨rfl, _, Eq.trans (World.drewN_drewN _ _ _) (congrArg (World.drewN _) (Nat.add_assoc _ _ _))⟩))))
    go_ret
    exact ⟨by first | rfl | (simp [errW_none, errW_some] <;> rfl) | (simp [*, errW_none, errW_some] <;> rfl), bZ HB⟩
   ·replace c11 := Bool.eq_false_iff.mpr c11
    subst c11
    have H1 : (some false) = some r := by rw [if_neg (show ¬ (false = true) by decide)] at H; exact H
    clear H
    have H := H1
    clear H1
    obtain rfl := Option.some.inj H
    go_enter Try.func55, Try.ntmps55
    go_wp2_with (first | ((with_reducible refine gate_dst (N := 1) rfl ?_); refine box_event ?hg (N := 1) ?hd (cs := #[.int .i64 a0_0, .int .i64 a0_1, .bool false]) (t := 25) ?hr ?_; (case hd => rfl); (case hg => rfl); (case hr => first | (go_simp; done) | (go_simp; rfl)); intro gb114 hg w16 hbox hb; have BK114 := Aside0.mk (hbox); have GW114 := bG HB hg; have GE114 := bG HB hg; replace HB := bS HB hb; clear hb hbox hg; have hcz17_0 : w16.cell? ⟨gb114, 0, none⟩ = some (.int .i64 a0_0) := bc BK114 0; have hcz17_1 : w16.cell? ⟨gb114, 1, none⟩ = some (.int .i64 a0_1) := bc BK114 1; have hcz17_2 : w16.cell? ⟨gb114, 2, none⟩ = some (.bool false) := bc BK114 2; have hfz17_0 := blk_frozen BK114.out 0; have hfz17_1 := blk_frozen BK114.out 1; have hfz17_2 := blk_frozen BK114.out 2) | (go_at_call 93; (with_reducible refine (spec_FpOk.calls a0_0 true _ A8.out).mono ?_); rintro e w' ⟨rfl, ⟨nd, rfl⟩⟩; (try first | exact ⟨rfl, _, World.drewN_drewN _ _ _⟩ | exact ⟨rfl, _, Eq.trans (World.drewN_drewN _ _ _) (congrArg (World.drewN _) (Nat.add_assoc _ _ _))⟩)) | (go_at_call 93; (with_reducible refine (spec_FpOk.calls a0_1 false _ A10.out).mono ?_); rintro e w' ⟨rfl, ⟨nd, rfl⟩⟩; (try first | exact ⟨rfl, _, World.drewN_drewN _ _ _⟩ | exact ⟨rfl, _, Eq.trans (World.drewN_drewN _ _ _) (congrArg (World.drewN _) (Nat.add_assoc _ _ _))⟩)))
    repeat (go_quiet (first | ((with_reducible refine gate_dst (N := 1) rfl ?_); refine box_event ?hg (N := 1) ?hd (cs := #[.int .i64 a0_0, .int .i64 a0_1, .bool false]) (t := 25) ?hr ?_; (case hd => rfl); (case hg => rfl); (case hr => first | (go_simp; done) | (go_simp; rfl)); intro gb114 hg w16 hbox hb; have BK114 := Aside0.mk (hbox); have GW114 := bG HB hg; have GE114 := bG HB hg; replace HB := bS HB hb; clear hb hbox hg; have hcz17_0 : w16.cell? ⟨gb114, 0, none⟩ = some (.int .i64 a0_0) := bc BK114 0; have hcz17_1 : w16.cell? ⟨gb114, 1, none⟩ = some (.int .i64 a0_1) := bc BK114 1; have hcz17_2 : w16.cell? ⟨gb114, 2, none⟩ = some (.bool false) := bc BK114 2; have hfz17_0 := blk_frozen BK114.out 0; have hfz17_1 := blk_frozen BK114.out 1; have hfz17_2 := blk_frozen BK114.out 2) | (go_at_call 93; (with_reducible refine (spec_FpOk.calls a0_0 true _ A8.out).mono ?_); rintro e w' ⟨rfl, ⟨nd, rfl⟩⟩; (try first | exact ⟨rfl, _, World.drewN_drewN _ _ _⟩ | exact ⟨rfl, _, Eq.trans (World.drewN_drewN _ _ _) (congrArg (World.drewN _) (Nat.add_assoc _ _ _))⟩)) | (go_at_call 93; (with_reducible refine (spec_FpOk.calls a0_1 false _ A10.out).mono ?_); rintro e w' ⟨rfl, ⟨nd, rfl⟩⟩; (try first | exact ⟨rfl, _, World.drewN_drewN _ _ _⟩ | exact ⟨rfl, _, Eq.trans (World.drewN_drewN _ _ _) (congrArg (World.drewN _) (Nat.add_assoc _ _ _))⟩))); try go_wp2_with (first | ((with_reducible refine gate_dst (N := 1) rfl ?_); refine box_event ?hg (N := 1) ?hd (cs := #[.int .i64 a0_0, .int .i64 a0_1, .bool false]) (t := 25) ?hr ?_; (case hd => rfl); (case hg => rfl); (case hr => first | (go_simp; done) | (go_simp; rfl)); intro gb114 hg w16 hbox hb; have BK114 := Aside0.mk (hbox); have GW114 := bG HB hg; have GE114 := bG HB hg; replace HB := bS HB hb; clear hb hbox hg; have hcz17_0 : w16.cell? ⟨gb114, 0, none⟩ = some (.int .i64 a0_0) := bc BK114 0; have hcz17_1 : w16.cell? ⟨gb114, 1, none⟩ = some (.int .i64 a0_1) := bc BK114 1; have hcz17_2 : w16.cell? ⟨gb114, 2, none⟩ = some (.bool false) := bc BK114 2; have hfz17_0 := blk_frozen BK114.out 0; have hfz17_1 := blk_frozen BK114.out 1; have hfz17_2 := blk_frozen BK114.out 2) | (go_at_call 93; (with_reducible refine (spec_FpOk.calls a0_0 true _ A8.out).mono ?_); rintro e w' ⟨rfl, ⟨nd, rfl⟩⟩; (try first | exact ⟨rfl, _, World.drewN_drewN _ _ _⟩ | exact ⟨rfl, _, Eq.trans (World.drewN_drewN _ _ _) (congrArg (World.drewN _) (Nat.add_assoc _ _ _))⟩)) | (go_at_call 93; (with_reducible refine (spec_FpOk.calls a0_1 false _ A10.out).mono ?_); rintro e w' ⟨rfl, ⟨nd, rfl⟩⟩; (try first | exact ⟨rfl, _, World.drewN_drewN _ _ _⟩ | exact ⟨rfl, _, Eq.trans (World.drewN_drewN _ _ _) (congrArg (World.drewN _) (Nat.add_assoc _ _ _))⟩))))
    go_ret
    exact ⟨by first | rfl | (simp [errW_none, errW_some] <;> rfl) | (simp [*, errW_none, errW_some] <;> rfl), bZ HB⟩
  ·replace c9 := Bool.eq_false_iff.mpr c9
   subst c9
   have H1 : (some false) = some r := by rw [if_neg (show ¬ (false = true) by decide)] at H; exact H
   clear H
   have H := H1
   clear H1
   obtain rfl := Option.some.inj H
   go_enter Try.func55, Try.ntmps55
   go_wp2_with (first | ((with_reducible refine gate_dst (N := 1) rfl ?_); refine box_event ?hg (N := 1) ?hd (cs := #[.int .i64 a0_0, .int .i64 a0_1, .bool false]) (t := 25) ?hr ?_; (case hd => rfl); (case hg => rfl); (case hr => first | (go_simp; done) | (go_simp; rfl)); intro gb114 hg w18 hbox hb; have BK114 := Aside0.mk (hbox); have GW114 := bG HB hg; have GE114 := bG HB hg; replace HB := bS HB hb; clear hb hbox hg; have hcz19_0 : w18.cell? ⟨gb114, 0, none⟩ = some (.int .i64 a0_0) := bc BK114 0; have hcz19_1 : w18.cell? ⟨gb114, 1, none⟩ = some (.int .i64 a0_1) := bc BK114 1; have hcz19_2 : w18.cell? ⟨gb114, 2, none⟩ = some (.bool false) := bc BK114 2; have hfz19_0 := blk_frozen BK114.out 0; have hfz19_1 := blk_frozen BK114.out 1; have hfz19_2 := blk_frozen BK114.out 2) | (go_at_call 93; (with_reducible refine (spec_FpOk.calls a0_0 false _ A8.out).mono ?_); rintro e w' ⟨rfl, ⟨nd, rfl⟩⟩; (try first | exact ⟨rfl, _, World.drewN_drewN _ _ _⟩ | exact ⟨rfl, _, Eq.trans (World.drewN_drewN _ _ _) (congrArg (World.drewN _) (Nat.add_assoc _ _ _))⟩)))
   repeat (go_quiet (first | ((with_reducible refine gate_dst (N := 1) rfl ?_); refine box_event ?hg (N := 1) ?hd (cs := #[.int .i64 a0_0, .int .i64 a0_1, .bool false]) (t := 25) ?hr ?_; (case hd => rfl); (case hg => rfl); (case hr => first | (go_simp; done) | (go_simp; rfl)); intro gb114 hg w18 hbox hb; have BK114 := Aside0.mk (hbox); have GW114 := bG HB hg; have GE114 := bG HB hg; replace HB := bS HB hb; clear hb hbox hg; have hcz19_0 : w18.cell? ⟨gb114, 0, none⟩ = some (.int .i64 a0_0) := bc BK114 0; have hcz19_1 : w18.cell? ⟨gb114, 1, none⟩ = some (.int .i64 a0_1) := bc BK114 1; have hcz19_2 : w18.cell? ⟨gb114, 2, none⟩ = some (.bool false) := bc BK114 2; have hfz19_0 := blk_frozen BK114.out 0; have hfz19_1 := blk_frozen BK114.out 1; have hfz19_2 := blk_frozen BK114.out 2) | (go_at_call 93; (with_reducible refine (spec_FpOk.calls a0_0 false _ A8.out).mono ?_); rintro e w' ⟨rfl, ⟨nd, rfl⟩⟩; (try first | exact ⟨rfl, _, World.drewN_drewN _ _ _⟩ | exact ⟨rfl, _, Eq.trans (World.drewN_drewN _ _ _) (congrArg (World.drewN _) (Nat.add_assoc _ _ _))⟩))); try go_wp2_with (first | ((with_reducible refine gate_dst (N := 1) rfl ?_); refine box_event ?hg (N := 1) ?hd (cs := #[.int .i64 a0_0, .int .i64 a0_1, .bool false]) (t := 25) ?hr ?_; (case hd => rfl); (case hg => rfl); (case hr => first | (go_simp; done) | (go_simp; rfl)); intro gb114 hg w18 hbox hb; have BK114 := Aside0.mk (hbox); have GW114 := bG HB hg; have GE114 := bG HB hg; replace HB := bS HB hb; clear hb hbox hg; have hcz19_0 : w18.cell? ⟨gb114, 0, none⟩ = some (.int .i64 a0_0) := bc BK114 0; have hcz19_1 : w18.cell? ⟨gb114, 1, none⟩ = some (.int .i64 a0_1) := bc BK114 1; have hcz19_2 : w18.cell? ⟨gb114, 2, none⟩ = some (.bool false) := bc BK114 2; have hfz19_0 := blk_frozen BK114.out 0; have hfz19_1 := blk_frozen BK114.out 1; have hfz19_2 := blk_frozen BK114.out 2) | (go_at_call 93; (with_reducible refine (spec_FpOk.calls a0_0 false _ A8.out).mono ?_); rintro e w' ⟨rfl, ⟨nd, rfl⟩⟩; (try first | exact ⟨rfl, _, World.drewN_drewN _ _ _⟩ | exact ⟨rfl, _, Eq.trans (World.drewN_drewN _ _ _) (congrArg (World.drewN _) (Nat.add_assoc _ _ _))⟩))))
   go_ret
   exact ⟨by first | rfl | (simp [errW_none, errW_some] <;> rfl) | (simp [*, errW_none, errW_some] <;> rfl), bZ HB⟩
/-! ### spec_FpSub: function 75 -/
def spec_FpSub.f (a0 : Int) (a1 : Int) : Option (Int) := (spec_FpOf.f a0).bind fun t120 => ((spec_FpOf.f a1).bind fun t121 => ((spec_FpOf.f (wrap64 (t120 - t121))).bind fun t122 => (some t122)))
set_option maxHeartbeats 8000000 in
set_option maxRecDepth 100000 in
theorem spec_FpSub.calls (a0 : Int) (a1 : Int) (r : Int) (w : World) (h : spec_FpSub.f a0 a1 = some r) :
  Calls Try.prog 75 #[.int .i64 a0, .int .i64 a1] w fun e w' => e = .returned (.int .i64 r) ∧ Drawn0 w w' := by
 have H : ((spec_FpOf.f a0).bind fun t120 => ((spec_FpOf.f a1).bind fun t121 => ((spec_FpOf.f (wrap64 (t120 - t121))).bind fun t122 => (some t122)))) = some r := h
 clear h
 replace H := Option.bind_eq_some_iff.mp H
 obtain ⟨t120, A30, H⟩ := H
 replace H : ((spec_FpOf.f a1).bind fun t121 => ((spec_FpOf.f (wrap64 (t120 - t121))).bind fun t122 => (some t122))) = some r := H
 have A3 := Aside0.mk A30
 clear A30
 replace H := Option.bind_eq_some_iff.mp H
 obtain ⟨t121, A40, H⟩ := H
 replace H : ((spec_FpOf.f (wrap64 (t120 - t121))).bind fun t122 => (some t122)) = some r := H
 have A4 := Aside0.mk A40
 clear A40
 replace H := Option.bind_eq_some_iff.mp H
 obtain ⟨t122, A50, H⟩ := H
 replace H : (some t122) = some r := H
 have A5 := Aside0.mk A50
 clear A50
 obtain rfl := Option.some.inj H
 go_enter Try.func75, Try.ntmps75
 go_wp2_with (first | ((with_reducible refine gate_callee (f := 102) rfl ?_); refine goesL_ (some 6) rfl rfl Try.func102 (by kernel_rfl) rfl #[.int .i64 a0] rfl (by (try simp only [List.map_toArray, List.map_cons, List.map_nil]); first | done | rfl | (simp only [List.length_drop, List.length_take]; rfl)) ?_; (with_reducible refine (spec_FpOf.calls a0 t120 _ A3.out).mono ?_); rintro e w' ⟨rfl, ⟨nd, rfl⟩⟩; refine ⟨_, rfl, ?_⟩) | ((with_reducible refine gate_callee (f := 102) rfl ?_); refine goesL_ (some 8) rfl rfl Try.func102 (by kernel_rfl) rfl #[.int .i64 a1] rfl (by (try simp only [List.map_toArray, List.map_cons, List.map_nil]); first | done | rfl | (simp only [List.length_drop, List.length_take]; rfl)) ?_; (with_reducible refine (spec_FpOf.calls a1 t121 _ A4.out).mono ?_); rintro e w' ⟨rfl, ⟨nd, rfl⟩⟩; refine ⟨_, rfl, ?_⟩) | ((with_reducible refine gate_callee (f := 102) rfl ?_); refine goesL_ (some 10) rfl rfl Try.func102 (by kernel_rfl) rfl #[.int .i64 (wrap64 (t120 - t121))] rfl (by (try simp only [List.map_toArray, List.map_cons, List.map_nil]); first | done | rfl | (simp only [List.length_drop, List.length_take]; rfl)) ?_; (with_reducible refine (spec_FpOf.calls (wrap64 (t120 - t121)) t122 _ A5.out).mono ?_); rintro e w' ⟨rfl, ⟨nd, rfl⟩⟩; refine ⟨_, rfl, ?_⟩))
 go_ret
 exact ⟨by first | rfl | (simp; done) | (simp [*]; done), by repeat (first | exact Drawn0.refl _ | apply Drawn0.step)⟩
/-! ### spec_FpPow: function 110 -/
def spec_FpPow.l0 : Nat → Int → Int → Int → Option (Int)
 | 0, _, _, _ => none
 | k + 1, x1, x5, x6 => if x1 > 0 then (if (Int.tmod x1 2) = 1 then ((spec_FpMul.f x5 x6).bind fun t130 => ((spec_FpMul.f x6 x6).bind fun t131 => (spec_FpPow.l0 k (wrap64 (Int.tdiv x1 2)) t130 t131))) else ((spec_FpMul.f x6 x6).bind fun t132 => (spec_FpPow.l0 k (wrap64 (Int.tdiv x1 2)) x5 t132))) else (some x5)
def spec_FpPow.f (k : Nat) (a0 : Int) (a1 : Int) : Option (Int) := if a1 < 0 then (some 0) else ((spec_FpOf.f a0).bind fun t129 => (spec_FpPow.l0 k a1 1 t129))
theorem spec_FpPow.mono_l : ∀ k, (∀ y0 y1 y2, LeO (spec_FpPow.l0 k y0 y1 y2) (spec_FpPow.l0 (k + 1) y0 y1 y2))
 | 0 => fun _ _ _ r h => by simp [spec_FpPow.l0] at h
 | k + 1 => by
  have ih0 := spec_FpPow.mono_l k
  ·intro y0 y1 y2
   unfold spec_FpPow.l0
   repeat' first
   | (with_reducible exact ih0 _ _ _)
   | (with_reducible exact LeO.refl _)
   | (with_reducible exact LeO.none _)
   | (with_reducible refine LeO.ite ?_ ?_)
   | (with_reducible refine LeO.bind ?_ (fun _ => ?_))
   | exact ih0 _ _ _
   | exact LeO.none _
   | refine LeO.ite ?_ ?_
   | refine LeO.bind ?_ (fun _ => ?_)
theorem spec_FpPow.mono : ∀ a0 a1 k, LeO (spec_FpPow.f k a0 a1) (spec_FpPow.f (k + 1) a0 a1) := by
 intro a0 a1 k
 have ih0 := spec_FpPow.mono_l k
 unfold spec_FpPow.f
 repeat' first
   | (with_reducible exact ih0 _ _ _)
   | (with_reducible exact LeO.refl _)
   | (with_reducible exact LeO.none _)
   | (with_reducible refine LeO.ite ?_ ?_)
   | (with_reducible refine LeO.bind ?_ (fun _ => ?_))
   | exact ih0 _ _ _
   | exact LeO.none _
   | refine LeO.ite ?_ ?_
   | refine LeO.bind ?_ (fun _ => ?_)
set_option maxHeartbeats 8000000 in
set_option maxRecDepth 100000 in
theorem spec_FpPow.calls (k : Nat) (a0 : Int) (a1 : Int) (r : Int) (w : World) (h : spec_FpPow.f k a0 a1 = some r) :
  Calls Try.prog 110 #[.int .i64 a0, .int .i64 a1] w fun e w' => e = .returned (.int .i64 r) ∧ Drawn0 w w' := by
 have H : (if a1 < 0 then (some 0) else ((spec_FpOf.f a0).bind fun t129 => (spec_FpPow.l0 k a1 1 t129))) = some r := h
 clear h
 by_cases c3 : a1 < 0
 ·rw [if_pos c3] at H
  have c3b0 : decide (a1 < 0) = true := decide_eq_true c3
  clear c3
  obtain rfl := Option.some.inj H
  go_enter Try.func110, Try.ntmps110
  go_wp2
  go_ret
  exact ⟨by first | rfl | (simp; done) | (simp [*]; done), by repeat (first | exact Drawn0.refl _ | apply Drawn0.step)⟩
 ·rw [if_neg c3] at H
  have c3b0 : decide (a1 < 0) = false := decide_eq_false c3
  clear c3
  replace H := Option.bind_eq_some_iff.mp H
  obtain ⟨t129, A40, H⟩ := H
  replace H : (spec_FpPow.l0 k a1 1 t129) = some r := H
  have A4 := Aside0.mk A40
  clear A40
  have H' := Aside0.mk H
  clear H
  go_enter Try.func110, Try.ntmps110
  go_wp2_with (first | ((with_reducible refine gate_callee (f := 102) rfl ?_); refine goesL_ (some 10) rfl rfl Try.func102 (by kernel_rfl) rfl #[.int .i64 a0] rfl (by (try simp only [List.map_toArray, List.map_cons, List.map_nil]); first | done | rfl | (simp only [List.length_drop, List.length_take]; rfl)) ?_; (with_reducible refine (spec_FpOf.calls a0 t129 _ A4.out).mono ?_); rintro e w' ⟨rfl, ⟨nd, rfl⟩⟩; refine ⟨_, rfl, ?_⟩))
  go_loopg [1, 5, 6] k (fun kq v1 v5 v6 w' => ∃ (x1_1 : Int) (x5_1 : Int) (x6_1 : Int), v1 = .int .i64 x1_1 ∧ v5 = .int .i64 x5_1 ∧ v6 = .int .i64 x6_1 ∧ Aside0 (spec_FpPow.l0 kq x1_1 x5_1 x6_1 = some r) ∧ Aside0 (kq ≤ k) ∧ Drawn0 w w')
  case atStart => exact ⟨(a1), (1), (t129), (by first | rfl | (simp; done) | (simp [*]; done)), (by first | rfl | (simp; done) | (simp [*]; done)), (by first | rfl | (simp; done) | (simp [*]; done)), H', ⟨Nat.le_refl _⟩, by repeat (first | exact Drawn0.refl _ | apply Drawn0.step)⟩
  case round =>
   clear H'
   try clear c1
   try clear p2
   try clear c3
   try clear c3b0
   obtain ⟨x1_1, x5_1, x6_1, rfl, rfl, rfl, HA, HK1, ⟨m1, rfl⟩⟩ := hrel
   cases gk with
   | zero => exact absurd HA.out (by simp [spec_FpPow.l0])
   | succ k1 =>
    have H := HA.out
    clear HA
    simp only [spec_FpPow.l0] at H
    by_cases c5 : x1_1 > 0
    ·rw [if_pos c5] at H
     have c5b0 : decide (0 < x1_1) = true := decide_eq_true c5
     clear c5
     by_cases c6 : (Int.tmod x1_1 2) = 1
     ·rw [if_pos c6] at H
      have c6b0 : ((Int.tmod x1_1 2) == 1) = true := beq_iff_eq.mpr c6
      have c6b1 : ((Int.tmod x1_1 2) != 1) = false := bne_eq_false_iff_eq.mpr c6
      clear c6
      replace H := Option.bind_eq_some_iff.mp H
      obtain ⟨t130, A70, H⟩ := H
      replace H : ((spec_FpMul.f x6_1 x6_1).bind fun t131 => (spec_FpPow.l0 k1 (wrap64 (Int.tdiv x1_1 2)) t130 t131)) = some r := H
      have A7 := Aside0.mk A70
      clear A70
      replace H := Option.bind_eq_some_iff.mp H
      obtain ⟨t131, A80, H⟩ := H
      replace H : (spec_FpPow.l0 k1 (wrap64 (Int.tdiv x1_1 2)) t130 t131) = some r := H
      have A8 := Aside0.mk A80
      clear A80
      have H' := Aside0.mk H
      clear H
      go_wp2_with (first | ((with_reducible refine gate_callee (f := 76) rfl ?_); refine goesL_ (some 18) rfl rfl Try.func76 (by kernel_rfl) rfl #[.int .i64 x5_1, .int .i64 x6_1] rfl (by (try simp only [List.map_toArray, List.map_cons, List.map_nil]); first | done | rfl | (simp only [List.length_drop, List.length_take]; rfl)) ?_; (with_reducible refine (spec_FpMul.calls x5_1 x6_1 t130 _ A7.out).mono ?_); rintro e w' ⟨rfl, ⟨nd, rfl⟩⟩; refine ⟨_, rfl, ?_⟩) | ((with_reducible refine gate_callee (f := 76) rfl ?_); refine goesL_ (some 21) rfl rfl Try.func76 (by kernel_rfl) rfl #[.int .i64 x6_1, .int .i64 x6_1] rfl (by (try simp only [List.map_toArray, List.map_cons, List.map_nil]); first | done | rfl | (simp only [List.length_drop, List.length_take]; rfl)) ?_; (with_reducible refine (spec_FpMul.calls x6_1 x6_1 t131 _ A8.out).mono ?_); rintro e w' ⟨rfl, ⟨nd, rfl⟩⟩; refine ⟨_, rfl, ?_⟩))
      go_roundg k1
      case measure => have := HK1.out; omega
      case rel => exact ⟨(wrap64 (Int.tdiv x1_1 2)), (t130), (t131), (by first | rfl | (simp; done) | (simp [*]; done)), (by first | rfl | (simp; done) | (simp [*]; done)), (by first | rfl | (simp; done) | (simp [*]; done)), H', ⟨by have := HK1.out; omega⟩, by repeat (first | exact Drawn0.refl _ | apply Drawn0.step)⟩
     ·rw [if_neg c6] at H
      have c6b0 : ((Int.tmod x1_1 2) == 1) = false := beq_eq_false_iff_ne.mpr c6
      have c6b1 : ((Int.tmod x1_1 2) != 1) = true := bne_iff_ne.mpr c6
      replace H := Option.bind_eq_some_iff.mp H
      obtain ⟨t132, A90, H⟩ := H
      replace H : (spec_FpPow.l0 k1 (wrap64 (Int.tdiv x1_1 2)) x5_1 t132) = some r := H
      have A9 := Aside0.mk A90
      clear A90
      have H' := Aside0.mk H
      clear H
      go_wp2_with (first | ((with_reducible refine gate_callee (f := 76) rfl ?_); refine goesL_ (some 21) rfl rfl Try.func76 (by kernel_rfl) rfl #[.int .i64 x6_1, .int .i64 x6_1] rfl (by (try simp only [List.map_toArray, List.map_cons, List.map_nil]); first | done | rfl | (simp only [List.length_drop, List.length_take]; rfl)) ?_; (with_reducible refine (spec_FpMul.calls x6_1 x6_1 t132 _ A9.out).mono ?_); rintro e w' ⟨rfl, ⟨nd, rfl⟩⟩; refine ⟨_, rfl, ?_⟩))
      go_roundg k1
      case measure => have := HK1.out; omega
      case rel => exact ⟨(wrap64 (Int.tdiv x1_1 2)), (x5_1), (t132), (by first | rfl | (simp; done) | (simp [*]; done)), (by first | rfl | (simp; done) | (simp [*]; done)), (by first | rfl | (simp; done) | (simp [*]; done)), H', ⟨by have := HK1.out; omega⟩, by repeat (first | exact Drawn0.refl _ | apply Drawn0.step)⟩
    ·rw [if_neg c5] at H
     have c5b0 : decide (0 < x1_1) = false := decide_eq_false c5
     clear c5
     obtain rfl := Option.some.inj H
     go_wp2
     go_ret
     exact ⟨by first | rfl | (simp; done) | (simp [*]; done), by repeat (first | exact Drawn0.refl _ | apply Drawn0.step)⟩
/-! ### spec_FpInv: function 104 -/
def spec_FpInv.f (k : Nat) (a0 : Int) : Option (Int) := (spec_FpPow.f k a0 12105).bind fun t133 => (some t133)
theorem spec_FpInv.mono : ∀ a0 k, LeO (spec_FpInv.f k a0) (spec_FpInv.f (k + 1) a0) := by
 intro a0 k
 unfold spec_FpInv.f
 repeat' first
   | (with_reducible exact spec_FpPow.mono _ _ _)
   | (with_reducible exact LeO.refl _)
   | (with_reducible exact LeO.none _)
   | (with_reducible refine LeO.ite ?_ ?_)
   | (with_reducible refine LeO.bind ?_ (fun _ => ?_))
   | exact spec_FpPow.mono _ _ _
   | exact LeO.none _
   | refine LeO.ite ?_ ?_
   | refine LeO.bind ?_ (fun _ => ?_)
set_option maxHeartbeats 8000000 in
set_option maxRecDepth 100000 in
theorem spec_FpInv.calls (k : Nat) (a0 : Int) (r : Int) (w : World) (h : spec_FpInv.f k a0 = some r) :
  Calls Try.prog 104 #[.int .i64 a0] w fun e w' => e = .returned (.int .i64 r) ∧ Drawn0 w w' := by
 have H : ((spec_FpPow.f k a0 12105).bind fun t133 => (some t133)) = some r := h
 clear h
 replace H := Option.bind_eq_some_iff.mp H
 obtain ⟨t133, A20, H⟩ := H
 replace H : (some t133) = some r := H
 have A2 := Aside0.mk A20
 clear A20
 obtain rfl := Option.some.inj H
 go_enter Try.func104, Try.ntmps104
 go_wp2_with (first | ((with_reducible refine gate_callee (f := 110) rfl ?_); refine goesL_ (some 4) rfl rfl Try.func110 (by kernel_rfl) rfl #[.int .i64 a0, .int .i64 12105] rfl (by (try simp only [List.map_toArray, List.map_cons, List.map_nil]); first | done | rfl | (simp only [List.length_drop, List.length_take]; rfl)) ?_; (with_reducible refine (spec_FpPow.calls k a0 12105 t133 _ A2.out).mono ?_); rintro e w' ⟨rfl, ⟨nd, rfl⟩⟩; refine ⟨_, rfl, ?_⟩))
 go_ret
 exact ⟨by first | rfl | (simp; done) | (simp [*]; done), by repeat (first | exact Drawn0.refl _ | apply Drawn0.step)⟩
/-! ### spec_l07Slope: function 74 -/
def spec_l07Slope.f (k : Nat) (a0_0 : Int) (a0_1 : Int) (a0_2 : Bool) (a1_0 : Int) (a1_1 : Int) (a1_2 : Bool) : Option (Int × Bool) := if a0_0 = a1_0 then ((spec_FpAdd.f a0_1 a1_1).bind fun t140 => (if t140 = 0 then (some (0, false)) else ((spec_FpMul.f a0_0 a0_0).bind fun t141 => ((spec_FpMul.f 3 t141).bind fun t142 => ((spec_FpAdd.f t142 1).bind fun t143 => ((spec_FpMul.f 2 a0_1).bind fun t144 => ((spec_FpInv.f k t144).bind fun t145 => ((spec_FpMul.f t143 t145).bind fun t146 => (some (t146, true)))))))))) else ((spec_FpSub.f a1_1 a0_1).bind fun t136 => ((spec_FpSub.f a1_0 a0_0).bind fun t137 => ((spec_FpInv.f k t137).bind fun t138 => ((spec_FpMul.f t136 t138).bind fun t139 => (some (t139, true))))))
theorem spec_l07Slope.mono : ∀ a0 a1 a2 a3 a4 a5 k, LeO (spec_l07Slope.f k a0 a1 a2 a3 a4 a5) (spec_l07Slope.f (k + 1) a0 a1 a2 a3 a4 a5) := by
 intro a0 a1 a2 a3 a4 a5 k
 unfold spec_l07Slope.f
 repeat' first
   | (with_reducible exact spec_FpInv.mono _ _)
   | (with_reducible exact LeO.refl _)
   | (with_reducible exact LeO.none _)
   | (with_reducible refine LeO.ite ?_ ?_)
   | (with_reducible refine LeO.bind ?_ (fun _ => ?_))
   | exact spec_FpInv.mono _ _
   | exact LeO.none _
   | refine LeO.ite ?_ ?_
   | refine LeO.bind ?_ (fun _ => ?_)
set_option maxHeartbeats 8000000 in
set_option maxRecDepth 100000 in
theorem spec_l07Slope.calls (k : Nat) (a0_0 : Int) (a0_1 : Int) (a0_2 : Bool) (a1_0 : Int) (a1_1 : Int) (a1_2 : Bool) (r1 : Int) (r2 : Bool) (w : World) (h : spec_l07Slope.f k a0_0 a0_1 a0_2 a1_0 a1_1 a1_2 = some (r1, r2)) :
  Calls Try.prog 74 #[.agg #[.int .i64 a0_0, .int .i64 a0_1, .bool a0_2], .agg #[.int .i64 a1_0, .int .i64 a1_1, .bool a1_2]] w fun e w' => e = .returned (.tuple #[.int .i64 r1, .bool r2]) ∧ Below w.heap.size w w' := by
 have hu25 := Try.underlying25
 have HB := Aside0.mk (Below.refl w.heap.size w)
 have H : (if a0_0 = a1_0 then ((spec_FpAdd.f a0_1 a1_1).bind fun t140 => (if t140 = 0 then (some (0, false)) else ((spec_FpMul.f a0_0 a0_0).bind fun t141 => ((spec_FpMul.f 3 t141).bind fun t142 => ((spec_FpAdd.f t142 1).bind fun t143 => ((spec_FpMul.f 2 a0_1).bind fun t144 => ((spec_FpInv.f k t144).bind fun t145 => ((spec_FpMul.f t143 t145).bind fun t146 => (some (t146, true)))))))))) else ((spec_FpSub.f a1_1 a0_1).bind fun t136 => ((spec_FpSub.f a1_0 a0_0).bind fun t137 => ((spec_FpInv.f k t137).bind fun t138 => ((spec_FpMul.f t136 t138).bind fun t139 => (some (t139, true))))))) = some (r1, r2) := h
 clear h
 by_cases c3 : a0_0 = a1_0
 ·rw [if_pos c3] at H
  have c3b0 : (a0_0 == a1_0) = true := beq_iff_eq.mpr c3
  have c3b1 : (a0_0 != a1_0) = false := bne_eq_false_iff_eq.mpr c3
  clear c3
  replace H := Option.bind_eq_some_iff.mp H
  obtain ⟨t140, A40, H⟩ := H
  replace H : (if t140 = 0 then (some (0, false)) else ((spec_FpMul.f a0_0 a0_0).bind fun t141 => ((spec_FpMul.f 3 t141).bind fun t142 => ((spec_FpAdd.f t142 1).bind fun t143 => ((spec_FpMul.f 2 a0_1).bind fun t144 => ((spec_FpInv.f k t144).bind fun t145 => ((spec_FpMul.f t143 t145).bind fun t146 => (some (t146, true))))))))) = some (r1, r2) := H
  have A4 := Aside0.mk A40
  clear A40
  by_cases c5 : t140 = 0
  ·rw [if_pos c5] at H
   have c5b0 : (t140 == 0) = true := beq_iff_eq.mpr c5
   have c5b1 : (t140 != 0) = false := bne_eq_false_iff_eq.mpr c5
   clear c5
   simp only [Option.some.injEq, Prod.mk.injEq] at H
   obtain ⟨rfl, rfl⟩ := H
   go_enter Try.func74, Try.ntmps74
   go_wp2_with (first | ((with_reducible refine gate_dst (N := 2) rfl ?_); refine box_event ?hg (N := 2) ?hd (cs := #[.int .i64 a0_0, .int .i64 a0_1, .bool a0_2]) (t := 25) ?hr ?_; (case hd => rfl); (case hg => rfl); (case hr => first | (go_simp; done) | (go_simp; rfl)); intro gb134 hg w6 hbox hb; have BK134 := Aside0.mk (hbox); have GW134 := bG HB hg; have GE134 := bG HB hg; replace HB := bS HB hb; clear hb hbox hg) | ((with_reducible refine gate_dst (N := 3) rfl ?_); refine box_event ?hg (N := 3) ?hd (cs := #[.int .i64 a1_0, .int .i64 a1_1, .bool a1_2]) (t := 25) ?hr ?_; (case hd => rfl); (case hg => rfl); (case hr => first | (go_simp; done) | (go_simp; rfl)); intro gb135 hg w7 hbox hb; have BK135 := Aside0.mk (hbox); have GW135 := bG HB hg; have GE135 := bG HB hg; replace HB := bS HB hb; have NB134_135 := bL BK134 hg; have NB135_134 := bR BK134 hg; replace BK134 := bB BK134 hb; clear hb hbox hg; have hnb8 := NB134_135.out; have hnc8 := NB135_134.out; have hcz9_0 : w7.cell? ⟨gb134, 0, none⟩ = some (.int .i64 a0_0) := bc BK134 0; have hcz9_1 : w7.cell? ⟨gb134, 1, none⟩ = some (.int .i64 a0_1) := bc BK134 1; have hcz9_2 : w7.cell? ⟨gb134, 2, none⟩ = some (.bool a0_2) := bc BK134 2; have hfz9_0 := blk_frozen BK134.out 0; have hfz9_1 := blk_frozen BK134.out 1; have hfz9_2 := blk_frozen BK134.out 2; have hcz10_0 : w7.cell? ⟨gb135, 0, none⟩ = some (.int .i64 a1_0) := bc BK135 0; have hcz10_1 : w7.cell? ⟨gb135, 1, none⟩ = some (.int .i64 a1_1) := bc BK135 1; have hcz10_2 : w7.cell? ⟨gb135, 2, none⟩ = some (.bool a1_2) := bc BK135 2; have hfz10_0 := blk_frozen BK135.out 0; have hfz10_1 := blk_frozen BK135.out 1; have hfz10_2 := blk_frozen BK135.out 2) | (go_at_call 103; (with_reducible refine (spec_FpAdd.calls a0_1 a1_1 t140 _ A4.out).mono ?_); rintro e w' ⟨rfl, ⟨nd, rfl⟩⟩; (try first | exact ⟨rfl, _, World.drewN_drewN _ _ _⟩ | exact ⟨rfl, _, Eq.trans (World.drewN_drewN _ _ _) (congrArg (World.drewN _) (Nat.add_assoc _ _ _))⟩)))
   repeat (go_quiet (first | ((with_reducible refine gate_dst (N := 2) rfl ?_); refine box_event ?hg (N := 2) ?hd (cs := #[.int .i64 a0_0, .int .i64 a0_1, .bool a0_2]) (t := 25) ?hr ?_; (case hd => rfl); (case hg => rfl); (case hr => first | (go_simp; done) | (go_simp; rfl)); intro gb134 hg w6 hbox hb; have BK134 := Aside0.mk (hbox); have GW134 := bG HB hg; have GE134 := bG HB hg; replace HB := bS HB hb; clear hb hbox hg) | ((with_reducible refine gate_dst (N := 3) rfl ?_); refine box_event ?hg (N := 3) ?hd (cs := #[.int .i64 a1_0, .int .i64 a1_1, .bool a1_2]) (t := 25) ?hr ?_; (case hd => rfl); (case hg => rfl); (case hr => first | (go_simp; done) | (go_simp; rfl)); intro gb135 hg w7 hbox hb; have BK135 := Aside0.mk (hbox); have GW135 := bG HB hg; have GE135 := bG HB hg; replace HB := bS HB hb; have NB134_135 := bL BK134 hg; have NB135_134 := bR BK134 hg; replace BK134 := bB BK134 hb; clear hb hbox hg; have hnb8 := NB134_135.out; have hnc8 := NB135_134.out; have hcz9_0 : w7.cell? ⟨gb134, 0, none⟩ = some (.int .i64 a0_0) := bc BK134 0; have hcz9_1 : w7.cell? ⟨gb134, 1, none⟩ = some (.int .i64 a0_1) := bc BK134 1; have hcz9_2 : w7.cell? ⟨gb134, 2, none⟩ = some (.bool a0_2) := bc BK134 2; have hfz9_0 := blk_frozen BK134.out 0; have hfz9_1 := blk_frozen BK134.out 1; have hfz9_2 := blk_frozen BK134.out 2; have hcz10_0 : w7.cell? ⟨gb135, 0, none⟩ = some (.int .i64 a1_0) := bc BK135 0; have hcz10_1 : w7.cell? ⟨gb135, 1, none⟩ = some (.int .i64 a1_1) := bc BK135 1; have hcz10_2 : w7.cell? ⟨gb135, 2, none⟩ = some (.bool a1_2) := bc BK135 2; have hfz10_0 := blk_frozen BK135.out 0; have hfz10_1 := blk_frozen BK135.out 1; have hfz10_2 := blk_frozen BK135.out 2) | (go_at_call 103; (with_reducible refine (spec_FpAdd.calls a0_1 a1_1 t140 _ A4.out).mono ?_); rintro e w' ⟨rfl, ⟨nd, rfl⟩⟩; (try first | exact ⟨rfl, _, World.drewN_drewN _ _ _⟩ | exact ⟨rfl, _, Eq.trans (World.drewN_drewN _ _ _) (congrArg (World.drewN _) (Nat.add_assoc _ _ _))⟩))); try go_wp2_with (first | ((with_reducible refine gate_dst (N := 2) rfl ?_); refine box_event ?hg (N := 2) ?hd (cs := #[.int .i64 a0_0, .int .i64 a0_1, .bool a0_2]) (t := 25) ?hr ?_; (case hd => rfl); (case hg => rfl); (case hr => first | (go_simp; done) | (go_simp; rfl)); intro gb134 hg w6 hbox hb; have BK134 := Aside0.mk (hbox); have GW134 := bG HB hg; have GE134 := bG HB hg; replace HB := bS HB hb; clear hb hbox hg) | ((with_reducible refine gate_dst (N := 3) rfl ?_); refine box_event ?hg (N := 3) ?hd (cs := #[.int .i64 a1_0, .int .i64 a1_1, .bool a1_2]) (t := 25) ?hr ?_; (case hd => rfl); (case hg => rfl); (case hr => first | (go_simp; done) | (go_simp; rfl)); intro gb135 hg w7 hbox hb; have BK135 := Aside0.mk (hbox); have GW135 := bG HB hg; have GE135 := bG HB hg; replace HB := bS HB hb; have NB134_135 := bL BK134 hg; have NB135_134 := bR BK134 hg; replace BK134 := bB BK134 hb; clear hb hbox hg; have hnb8 := NB134_135.out; have hnc8 := NB135_134.out; have hcz9_0 : w7.cell? ⟨gb134, 0, none⟩ = some (.int .i64 a0_0) := bc BK134 0; have hcz9_1 : w7.cell? ⟨gb134, 1, none⟩ = some (.int .i64 a0_1) := bc BK134 1; have hcz9_2 : w7.cell? ⟨gb134, 2, none⟩ = some (.bool a0_2) := bc BK134 2; have hfz9_0 := blk_frozen BK134.out 0; have hfz9_1 := blk_frozen BK134.out 1; have hfz9_2 := blk_frozen BK134.out 2; have hcz10_0 : w7.cell? ⟨gb135, 0, none⟩ = some (.int .i64 a1_0) := bc BK135 0; have hcz10_1 : w7.cell? ⟨gb135, 1, none⟩ = some (.int .i64 a1_1) := bc BK135 1; have hcz10_2 : w7.cell? ⟨gb135, 2, none⟩ = some (.bool a1_2) := bc BK135 2; have hfz10_0 := blk_frozen BK135.out 0; have hfz10_1 := blk_frozen BK135.out 1; have hfz10_2 := blk_frozen BK135.out 2) | (go_at_call 103; (with_reducible refine (spec_FpAdd.calls a0_1 a1_1 t140 _ A4.out).mono ?_); rintro e w' ⟨rfl, ⟨nd, rfl⟩⟩; (try first | exact ⟨rfl, _, World.drewN_drewN _ _ _⟩ | exact ⟨rfl, _, Eq.trans (World.drewN_drewN _ _ _) (congrArg (World.drewN _) (Nat.add_assoc _ _ _))⟩))))
   go_ret2
   exact ⟨by first | rfl | (simp [errW_none, errW_some] <;> rfl) | (simp [*, errW_none, errW_some] <;> rfl), bZ HB⟩
  ·rw [if_neg c5] at H
   have c5b0 : (t140 == 0) = false := beq_eq_false_iff_ne.mpr c5
   have c5b1 : (t140 != 0) = true := bne_iff_ne.mpr c5
   replace H := Option.bind_eq_some_iff.mp H
   obtain ⟨t141, A110, H⟩ := H
   replace H : ((spec_FpMul.f 3 t141).bind fun t142 => ((spec_FpAdd.f t142 1).bind fun t143 => ((spec_FpMul.f 2 a0_1).bind fun t144 => ((spec_FpInv.f k t144).bind fun t145 => ((spec_FpMul.f t143 t145).bind fun t146 => (some (t146, true))))))) = some (r1, r2) := H
   have A11 := Aside0.mk A110
   clear A110
   replace H := Option.bind_eq_some_iff.mp H
   obtain ⟨t142, A120, H⟩ := H
   replace H : ((spec_FpAdd.f t142 1).bind fun t143 => ((spec_FpMul.f 2 a0_1).bind fun t144 => ((spec_FpInv.f k t144).bind fun t145 => ((spec_FpMul.f t143 t145).bind fun t146 => (some (t146, true)))))) = some (r1, r2) := H
   have A12 := Aside0.mk A120
   clear A120
   replace H := Option.bind_eq_some_iff.mp H
   obtain ⟨t143, A130, H⟩ := H
   replace H : ((spec_FpMul.f 2 a0_1).bind fun t144 => ((spec_FpInv.f k t144).bind fun t145 => ((spec_FpMul.f t143 t145).bind fun t146 => (some (t146, true))))) = some (r1, r2) := H
   have A13 := Aside0.mk A130
   clear A130
   replace H := Option.bind_eq_some_iff.mp H
   obtain ⟨t144, A140, H⟩ := H
   replace H : ((spec_FpInv.f k t144).bind fun t145 => ((spec_FpMul.f t143 t145).bind fun t146 => (some (t146, true)))) = some (r1, r2) := H
   have A14 := Aside0.mk A140
   clear A140
   replace H := Option.bind_eq_some_iff.mp H
   obtain ⟨t145, A150, H⟩ := H
   replace H : ((spec_FpMul.f t143 t145).bind fun t146 => (some (t146, true))) = some (r1, r2) := H
   have A15 := Aside0.mk A150
   clear A150
   replace H := Option.bind_eq_some_iff.mp H
   obtain ⟨t146, A160, H⟩ := H
   replace H : (some (t146, true)) = some (r1, r2) := H
   have A16 := Aside0.mk A160
   clear A160
   simp only [Option.some.injEq, Prod.mk.injEq] at H
   obtain ⟨rfl, rfl⟩ := H
   go_enter Try.func74, Try.ntmps74
   go_wp2_with (first | ((with_reducible refine gate_dst (N := 2) rfl ?_); refine box_event ?hg (N := 2) ?hd (cs := #[.int .i64 a0_0, .int .i64 a0_1, .bool a0_2]) (t := 25) ?hr ?_; (case hd => rfl); (case hg => rfl); (case hr => first | (go_simp; done) | (go_simp; rfl)); intro gb134 hg w17 hbox hb; have BK134 := Aside0.mk (hbox); have GW134 := bG HB hg; have GE134 := bG HB hg; replace HB := bS HB hb; clear hb hbox hg) | ((with_reducible refine gate_dst (N := 3) rfl ?_); refine box_event ?hg (N := 3) ?hd (cs := #[.int .i64 a1_0, .int .i64 a1_1, .bool a1_2]) (t := 25) ?hr ?_; (case hd => rfl); (case hg => rfl); (case hr => first | (go_simp; done) | (go_simp; rfl)); intro gb135 hg w18 hbox hb; have BK135 := Aside0.mk (hbox); have GW135 := bG HB hg; have GE135 := bG HB hg; replace HB := bS HB hb; have NB134_135 := bL BK134 hg; have NB135_134 := bR BK134 hg; replace BK134 := bB BK134 hb; clear hb hbox hg; have hnb19 := NB134_135.out; have hnc19 := NB135_134.out; have hcz20_0 : w18.cell? ⟨gb134, 0, none⟩ = some (.int .i64 a0_0) := bc BK134 0; have hcz20_1 : w18.cell? ⟨gb134, 1, none⟩ = some (.int .i64 a0_1) := bc BK134 1; have hcz20_2 : w18.cell? ⟨gb134, 2, none⟩ = some (.bool a0_2) := bc BK134 2; have hfz20_0 := blk_frozen BK134.out 0; have hfz20_1 := blk_frozen BK134.out 1; have hfz20_2 := blk_frozen BK134.out 2; have hcz21_0 : w18.cell? ⟨gb135, 0, none⟩ = some (.int .i64 a1_0) := bc BK135 0; have hcz21_1 : w18.cell? ⟨gb135, 1, none⟩ = some (.int .i64 a1_1) := bc BK135 1; have hcz21_2 : w18.cell? ⟨gb135, 2, none⟩ = some (.bool a1_2) := bc BK135 2; have hfz21_0 := blk_frozen BK135.out 0; have hfz21_1 := blk_frozen BK135.out 1; have hfz21_2 := blk_frozen BK135.out 2) | (go_at_call 103; (with_reducible refine (spec_FpAdd.calls a0_1 a1_1 t140 _ A4.out).mono ?_); rintro e w' ⟨rfl, ⟨nd, rfl⟩⟩; (try first | exact ⟨rfl, _, World.drewN_drewN _ _ _⟩ | exact ⟨rfl, _, Eq.trans (World.drewN_drewN _ _ _) (congrArg (World.drewN _) (Nat.add_assoc _ _ _))⟩)) | (go_at_call 76; (with_reducible refine (spec_FpMul.calls a0_0 a0_0 t141 _ A11.out).mono ?_); rintro e w' ⟨rfl, ⟨nd, rfl⟩⟩; (try first | exact ⟨rfl, _, World.drewN_drewN _ _ _⟩ | exact ⟨rfl, _, Eq.trans (World.drewN_drewN _ _ _) (congrArg (World.drewN _) (Nat.add_assoc _ _ _))⟩)) | (go_at_call 76; (with_reducible refine (spec_FpMul.calls 3 t141 t142 _ A12.out).mono ?_); rintro e w' ⟨rfl, ⟨nd, rfl⟩⟩; (try first | exact ⟨rfl, _, World.drewN_drewN _ _ _⟩ | exact ⟨rfl, _, Eq.trans (World.drewN_drewN _ _ _) (congrArg (World.drewN _) (Nat.add_assoc _ _ _))⟩)) | (go_at_call 103; (with_reducible refine (spec_FpAdd.calls t142 1 t143 _ A13.out).mono ?_); rintro e w' ⟨rfl, ⟨nd, rfl⟩⟩; (try first | exact ⟨rfl, _, World.drewN_drewN _ _ _⟩ | exact ⟨rfl, _, Eq.trans (World.drewN_drewN _ _ _) (congrArg (World.drewN _) (Nat.add_assoc _ _ _))⟩)) | (go_at_call 76; (with_reducible refine (spec_FpMul.calls 2 a0_1 t144 _ A14.out).mono ?_); rintro e w' ⟨rfl, ⟨nd, rfl⟩⟩; (try first | exact ⟨rfl, _, World.drewN_drewN _ _ _⟩ | exact ⟨rfl, _, Eq.trans (World.drewN_drewN _ _ _) (congrArg (World.drewN _) (Nat.add_assoc _ _ _))⟩)) | (go_at_call 104; (with_reducible refine (spec_FpInv.calls k t144 t145 _ A15.out).mono ?_); rintro e w' ⟨rfl, ⟨nd, rfl⟩⟩; (try first | exact ⟨rfl, _, World.drewN_drewN _ _ _⟩ | exact ⟨rfl, _, Eq.trans (World.drewN_drewN _ _ _) (congrArg (World.drewN _) (Nat.add_assoc _ _ _))⟩)) | (go_at_call 76; (with_reducible refine (spec_FpMul.calls t143 t145 t146 _ A16.out).mono ?_); rintro e w' ⟨rfl, ⟨nd, rfl⟩⟩; (try first | exact ⟨rfl, _, World.drewN_drewN _ _ _⟩ | exact ⟨rfl, _, Eq.trans (World.drewN_drewN _ _ _) (congrArg (World.drewN _) (Nat.add_assoc _ _ _))⟩)))
   repeat (go_quiet (first | ((with_reducible refine gate_dst (N := 2) rfl ?_); refine box_event ?hg (N := 2) ?hd (cs := #[.int .i64 a0_0, .int .i64 a0_1, .bool a0_2]) (t := 25) ?hr ?_; (case hd => rfl); (case hg => rfl); (case hr => first | (go_simp; done) | (go_simp; rfl)); intro gb134 hg w17 hbox hb; have BK134 := Aside0.mk (hbox); have GW134 := bG HB hg; have GE134 := bG HB hg; replace HB := bS HB hb; clear hb hbox hg) | ((with_reducible refine gate_dst (N := 3) rfl ?_); refine box_event ?hg (N := 3) ?hd (cs := #[.int .i64 a1_0, .int .i64 a1_1, .bool a1_2]) (t := 25) ?hr ?_; (case hd => rfl); (case hg => rfl); (case hr => first | (go_simp; done) | (go_simp; rfl)); intro gb135 hg w18 hbox hb; have BK135 := Aside0.mk (hbox); have GW135 := bG HB hg; have GE135 := bG HB hg; replace HB := bS HB hb; have NB134_135 := bL BK134 hg; have NB135_134 := bR BK134 hg; replace BK134 := bB BK134 hb; clear hb hbox hg; have hnb19 := NB134_135.out; have hnc19 := NB135_134.out; have hcz20_0 : w18.cell? ⟨gb134, 0, none⟩ = some (.int .i64 a0_0) := bc BK134 0; have hcz20_1 : w18.cell? ⟨gb134, 1, none⟩ = some (.int .i64 a0_1) := bc BK134 1; have hcz20_2 : w18.cell? ⟨gb134, 2, none⟩ = some (.bool a0_2) := bc BK134 2; have hfz20_0 := blk_frozen BK134.out 0; have hfz20_1 := blk_frozen BK134.out 1; have hfz20_2 := blk_frozen BK134.out 2; have hcz21_0 : w18.cell? ⟨gb135, 0, none⟩ = some (.int .i64 a1_0) := bc BK135 0; have hcz21_1 : w18.cell? ⟨gb135, 1, none⟩ = some (.int .i64 a1_1) := bc BK135 1; have hcz21_2 : w18.cell? ⟨gb135, 2, none⟩ = some (.bool a1_2) := bc BK135 2; have hfz21_0 := blk_frozen BK135.out 0; have hfz21_1 := blk_frozen BK135.out 1; have hfz21_2 := blk_frozen BK135.out 2) | (go_at_call 103; (with_reducible refine (spec_FpAdd.calls a0_1 a1_1 t140 _ A4.out).mono ?_); rintro e w' ⟨rfl, ⟨nd, rfl⟩⟩; (try first | exact ⟨rfl, _, World.drewN_drewN _ _ _⟩ | exact ⟨rfl, _, Eq.trans (World.drewN_drewN _ _ _) (congrArg (World.drewN _) (Nat.add_assoc _ _ _))⟩)) | (go_at_call 76; (with_reducible refine (spec_FpMul.calls a0_0 a0_0 t141 _ A11.out).mono ?_); rintro e w' ⟨rfl, ⟨nd, rfl⟩⟩; (try first | exact ⟨rfl, _, World.drewN_drewN _ _ _⟩ | exact ⟨rfl, _, Eq.trans (World.drewN_drewN _ _ _) (congrArg (World.drewN _) (Nat.add_assoc _ _ _))⟩)) | (go_at_call 76; (with_reducible refine (spec_FpMul.calls 3 t141 t142 _ A12.out).mono ?_); rintro e w' ⟨rfl, ⟨nd, rfl⟩⟩; (try first | exact ⟨rfl, _, World.drewN_drewN _ _ _⟩ | exact ⟨rfl, _, Eq.trans (World.drewN_drewN _ _ _) (congrArg (World.drewN _) (Nat.add_assoc _ _ _))⟩)) | (go_at_call 103; (with_reducible refine (spec_FpAdd.calls t142 1 t143 _ A13.out).mono ?_); rintro e w' ⟨rfl, ⟨nd, rfl⟩⟩; (try first | exact ⟨rfl, _, World.drewN_drewN _ _ _⟩ | exact ⟨rfl, _, Eq.trans (World.drewN_drewN _ _ _) (congrArg (World.drewN _) (Nat.add_assoc _ _ _))⟩)) | (go_at_call 76; (with_reducible refine (spec_FpMul.calls 2 a0_1 t144 _ A14.out).mono ?_); rintro e w' ⟨rfl, ⟨nd, rfl⟩⟩; (try first | exact ⟨rfl, _, World.drewN_drewN _ _ _⟩ | exact ⟨rfl, _, Eq.trans (World.drewN_drewN _ _ _) (congrArg (World.drewN _) (Nat.add_assoc _ _ _))⟩)) | (go_at_call 104; (with_reducible refine (spec_FpInv.calls k t144 t145 _ A15.out).mono ?_); rintro e w' ⟨rfl, ⟨nd, rfl⟩⟩; (try first | exact ⟨rfl, _, World.drewN_drewN _ _ _⟩ | exact ⟨rfl, _, Eq.trans (World.drewN_drewN _ _ _) (congrArg (World.drewN _) (Nat.add_assoc _ _ _))⟩)) | (go_at_call 76; (with_reducible refine (spec_FpMul.calls t143 t145 t146 _ A16.out).mono ?_); rintro e w' ⟨rfl, ⟨nd, rfl⟩⟩; (try first | exact ⟨rfl, _, World.drewN_drewN _ _ _⟩ | exact ⟨rfl, _, Eq.trans (World.drewN_drewN _ _ _) (congrArg (World.drewN _) (Nat.add_assoc _ _ _))⟩))); try go_wp2_with (first | ((with_reducible refine gate_dst (N := 2) rfl ?_); refine box_event ?hg (N := 2) ?hd (cs := #[.int .i64 a0_0, .int .i64 a0_1, .bool a0_2]) (t := 25) ?hr ?_; (case hd => rfl); (case hg => rfl); (case hr => first | (go_simp; done) | (go_simp; rfl)); intro gb134 hg w17 hbox hb; have BK134 := Aside0.mk (hbox); have GW134 := bG HB hg; have GE134 := bG HB hg; replace HB := bS HB hb; clear hb hbox hg) | ((with_reducible refine gate_dst (N := 3) rfl ?_); refine box_event ?hg (N := 3) ?hd (cs := #[.int .i64 a1_0, .int .i64 a1_1, .bool a1_2]) (t := 25) ?hr ?_; (case hd => rfl); (case hg => rfl); (case hr => first | (go_simp; done) | (go_simp; rfl)); intro gb135 hg w18 hbox hb; have BK135 := Aside0.mk (hbox); have GW135 := bG HB hg; have GE135 := bG HB hg; replace HB := bS HB hb; have NB134_135 := bL BK134 hg; have NB135_134 := bR BK134 hg; replace BK134 := bB BK134 hb; clear hb hbox hg; have hnb19 := NB134_135.out; have hnc19 := NB135_134.out; have hcz20_0 : w18.cell? ⟨gb134, 0, none⟩ = some (.int .i64 a0_0) := bc BK134 0; have hcz20_1 : w18.cell? ⟨gb134, 1, none⟩ = some (.int .i64 a0_1) := bc BK134 1; have hcz20_2 : w18.cell? ⟨gb134, 2, none⟩ = some (.bool a0_2) := bc BK134 2; have hfz20_0 := blk_frozen BK134.out 0; have hfz20_1 := blk_frozen BK134.out 1; have hfz20_2 := blk_frozen BK134.out 2; have hcz21_0 : w18.cell? ⟨gb135, 0, none⟩ = some (.int .i64 a1_0) := bc BK135 0; have hcz21_1 : w18.cell? ⟨gb135, 1, none⟩ = some (.int .i64 a1_1) := bc BK135 1; have hcz21_2 : w18.cell? ⟨gb135, 2, none⟩ = some (.bool a1_2) := bc BK135 2; have hfz21_0 := blk_frozen BK135.out 0; have hfz21_1 := blk_frozen BK135.out 1; have hfz21_2 := blk_frozen BK135.out 2) | (go_at_call 103; (with_reducible refine (spec_FpAdd.calls a0_1 a1_1 t140 _ A4.out).mono ?_); rintro e w' ⟨rfl, ⟨nd, rfl⟩⟩; (try first | exact ⟨rfl, _, World.drewN_drewN _ _ _⟩ | exact ⟨rfl, _, Eq.trans (World.drewN_drewN _ _ _) (congrArg (World.drewN _) (Nat.add_assoc _ _ _))⟩)) | (go_at_call 76; (with_reducible refine (spec_FpMul.calls a0_0 a0_0 t141 _ A11.out).mono ?_); rintro e w' ⟨rfl, ⟨nd, rfl⟩⟩; (try first | exact ⟨rfl, _, World.drewN_drewN _ _ _⟩ | exact ⟨rfl, _, Eq.trans (World.drewN_drewN _ _ _) (congrArg (World.drewN _) (Nat.add_assoc _ _ _))⟩)) | (go_at_call 76; (with_reducible refine (spec_FpMul.calls 3 t141 t142 _ A12.out).mono ?_); rintro e w' ⟨rfl, ⟨nd, rfl⟩⟩; (try first | exact ⟨rfl, _, World.drewN_drewN _ _ _⟩ | exact ⟨rfl, _, Eq.trans (World.drewN_drewN _ _ _) (congrArg (World.drewN _) (Nat.add_assoc _ _ _))⟩)) | (go_at_call 103; (with_reducible refine (spec_FpAdd.calls t142 1 t143 _ A13.out).mono ?_); rintro e w' ⟨rfl, ⟨nd, rfl⟩⟩; (try first | exact ⟨rfl, _, World.drewN_drewN _ _ _⟩ | exact ⟨rfl, _, Eq.trans (World.drewN_drewN _ _ _) (congrArg (World.drewN _) (Nat.add_assoc _ _ _))⟩)) | (go_at_call 76; (with_reducible refine (spec_FpMul.calls 2 a0_1 t144 _ A14.out).mono ?_); rintro e w' ⟨rfl, ⟨nd, rfl⟩⟩; (try first | exact ⟨rfl, _, World.drewN_drewN _ _ _⟩ | exact ⟨rfl, _, Eq.trans (World.drewN_drewN _ _ _) (congrArg (World.drewN _) (Nat.add_assoc _ _ _))⟩)) | (go_at_call 104; (with_reducible refine (spec_FpInv.calls k t144 t145 _ A15.out).mono ?_); rintro e w' ⟨rfl, ⟨nd, rfl⟩⟩; (try first | exact ⟨rfl, _, World.drewN_drewN _ _ _⟩ | exact ⟨rfl, _, Eq.trans (World.drewN_drewN _ _ _) (congrArg (World.drewN _) (Nat.add_assoc _ _ _))⟩)) | (go_at_call 76; (with_reducible refine (spec_FpMul.calls t143 t145 t146 _ A16.out).mono ?_); rintro e w' ⟨rfl, ⟨nd, rfl⟩⟩; (try first | exact ⟨rfl, _, World.drewN_drewN _ _ _⟩ | exact ⟨rfl, _, Eq.trans (World.drewN_drewN _ _ _) (congrArg (World.drewN _) (Nat.add_assoc _ _ _))⟩))))
   go_ret2
   exact ⟨by first | rfl | (simp [errW_none, errW_some] <;> rfl) | (simp [*, errW_none, errW_some] <;> rfl), bZ HB⟩
 ·rw [if_neg c3] at H
  have c3b0 : (a0_0 == a1_0) = false := beq_eq_false_iff_ne.mpr c3
  have c3b1 : (a0_0 != a1_0) = true := bne_iff_ne.mpr c3
  replace H := Option.bind_eq_some_iff.mp H
  obtain ⟨t136, A220, H⟩ := H
  replace H : ((spec_FpSub.f a1_0 a0_0).bind fun t137 => ((spec_FpInv.f k t137).bind fun t138 => ((spec_FpMul.f t136 t138).bind fun t139 => (some (t139, true))))) = some (r1, r2) := H
  have A22 := Aside0.mk A220
  clear A220
  replace H := Option.bind_eq_some_iff.mp H
  obtain ⟨t137, A230, H⟩ := H
  replace H : ((spec_FpInv.f k t137).bind fun t138 => ((spec_FpMul.f t136 t138).bind fun t139 => (some (t139, true)))) = some (r1, r2) := H
  have A23 := Aside0.mk A230
  clear A230
  replace H := Option.bind_eq_some_iff.mp H
  obtain ⟨t138, A240, H⟩ := H
  replace H : ((spec_FpMul.f t136 t138).bind fun t139 => (some (t139, true))) = some (r1, r2) := H
  have A24 := Aside0.mk A240
  clear A240
  replace H := Option.bind_eq_some_iff.mp H
  obtain ⟨t139, A250, H⟩ := H
  replace H : (some (t139, true)) = some (r1, r2) := H
  have A25 := Aside0.mk A250
  clear A250
  simp only [Option.some.injEq, Prod.mk.injEq] at H
  obtain ⟨rfl, rfl⟩ := H
  go_enter Try.func74, Try.ntmps74
  go_wp2_with (first | ((with_reducible refine gate_dst (N := 2) rfl ?_); refine box_event ?hg (N := 2) ?hd (cs := #[.int .i64 a0_0, .int .i64 a0_1, .bool a0_2]) (t := 25) ?hr ?_; (case hd => rfl); (case hg => rfl); (case hr => first | (go_simp; done) | (go_simp; rfl)); intro gb134 hg w26 hbox hb; have BK134 := Aside0.mk (hbox); have GW134 := bG HB hg; have GE134 := bG HB hg; replace HB := bS HB hb; clear hb hbox hg) | ((with_reducible refine gate_dst (N := 3) rfl ?_); refine box_event ?hg (N := 3) ?hd (cs := #[.int .i64 a1_0, .int .i64 a1_1, .bool a1_2]) (t := 25) ?hr ?_; (case hd => rfl); (case hg => rfl); (case hr => first | (go_simp; done) | (go_simp; rfl)); intro gb135 hg w27 hbox hb; have BK135 := Aside0.mk (hbox); have GW135 := bG HB hg; have GE135 := bG HB hg; replace HB := bS HB hb; have NB134_135 := bL BK134 hg; have NB135_134 := bR BK134 hg; replace BK134 := bB BK134 hb; clear hb hbox hg; have hnb28 := NB134_135.out; have hnc28 := NB135_134.out; have hcz29_0 : w27.cell? ⟨gb134, 0, none⟩ = some (.int .i64 a0_0) := bc BK134 0; have hcz29_1 : w27.cell? ⟨gb134, 1, none⟩ = some (.int .i64 a0_1) := bc BK134 1; have hcz29_2 : w27.cell? ⟨gb134, 2, none⟩ = some (.bool a0_2) := bc BK134 2; have hfz29_0 := blk_frozen BK134.out 0; have hfz29_1 := blk_frozen BK134.out 1; have hfz29_2 := blk_frozen BK134.out 2; have hcz30_0 : w27.cell? ⟨gb135, 0, none⟩ = some (.int .i64 a1_0) := bc BK135 0; have hcz30_1 : w27.cell? ⟨gb135, 1, none⟩ = some (.int .i64 a1_1) := bc BK135 1; have hcz30_2 : w27.cell? ⟨gb135, 2, none⟩ = some (.bool a1_2) := bc BK135 2; have hfz30_0 := blk_frozen BK135.out 0; have hfz30_1 := blk_frozen BK135.out 1; have hfz30_2 := blk_frozen BK135.out 2) | (go_at_call 75; (with_reducible refine (spec_FpSub.calls a1_1 a0_1 t136 _ A22.out).mono ?_); rintro e w' ⟨rfl, ⟨nd, rfl⟩⟩; (try first | exact ⟨rfl, _, World.drewN_drewN _ _ _⟩ | exact ⟨rfl, _, Eq.trans (World.drewN_drewN _ _ _) (congrArg (World.drewN _) (Nat.add_assoc _ _ _))⟩)) | (go_at_call 75; (with_reducible refine (spec_FpSub.calls a1_0 a0_0 t137 _ A23.out).mono ?_); rintro e w' ⟨rfl, ⟨nd, rfl⟩⟩; (try first | exact ⟨rfl, _, World.drewN_drewN _ _ _⟩ | exact ⟨rfl, _, Eq.trans (World.drewN_drewN _ _ _) (congrArg (World.drewN _) (Nat.add_assoc _ _ _))⟩)) | (go_at_call 104; (with_reducible refine (spec_FpInv.calls k t137 t138 _ A24.out).mono ?_); rintro e w' ⟨rfl, ⟨nd, rfl⟩⟩; (try first | exact ⟨rfl, _, World.drewN_drewN _ _ _⟩ | exact ⟨rfl, _, Eq.trans (World.drewN_drewN _ _ _) (congrArg (World.drewN _) (Nat.add_assoc _ _ _))⟩)) | (go_at_call 76; (with_reducible refine (spec_FpMul.calls t136 t138 t139 _ A25.out).mono ?_); rintro e w' ⟨rfl, ⟨nd, rfl⟩⟩; (try first | exact ⟨rfl, _, World.drewN_drewN _ _ _⟩ | exact ⟨rfl, _, Eq.trans (World.drewN_drewN _ _ _) (congrArg (World.drewN _) (Nat.add_assoc _ _ _))⟩)))
  repeat (go_quiet (first | ((with_reducible refine gate_dst (N := 2) rfl ?_); refine box_event ?hg (N := 2) ?hd (cs := #[.int .i64 a0_0, .int .i64 a0_1, .bool a0_2]) (t := 25) ?hr ?_; (case hd => rfl); (case hg => rfl); (case hr => first | (go_simp; done) | (go_simp; rfl)); intro gb134 hg w26 hbox hb; have BK134 := Aside0.mk (hbox); have GW134 := bG HB hg; have GE134 := bG HB hg; replace HB := bS HB hb; clear hb hbox hg) | ((with_reducible refine gate_dst (N := 3) rfl ?_); refine box_event ?hg (N := 3) ?hd (cs := #[.int .i64 a1_0, .int .i64 a1_1, .bool a1_2]) (t := 25) ?hr ?_; (case hd => rfl); (case hg => rfl); (case hr => first | (go_simp; done) | (go_simp; rfl)); intro gb135 hg w27 hbox hb; have BK135 := Aside0.mk (hbox); have GW135 := bG HB hg; have GE135 := bG HB hg; replace HB := bS HB hb; have NB134_135 := bL BK134 hg; have NB135_134 := bR BK134 hg; replace BK134 := bB BK134 hb; clear hb hbox hg; have hnb28 := NB134_135.out; have hnc28 := NB135_134.out; have hcz29_0 : w27.cell? ⟨gb134, 0, none⟩ = some (.int .i64 a0_0) := bc BK134 0; have hcz29_1 : w27.cell? ⟨gb134, 1, none⟩ = some (.int .i64 a0_1) := bc BK134 1; have hcz29_2 : w27.cell? ⟨gb134, 2, none⟩ = some (.bool a0_2) := bc BK134 2; have hfz29_0 := blk_frozen BK134.out 0; have hfz29_1 := blk_frozen BK134.out 1; have hfz29_2 := blk_frozen BK134.out 2; have hcz30_0 : w27.cell? ⟨gb135, 0, none⟩ = some (.int .i64 a1_0) := bc BK135 0; have hcz30_1 : w27.cell? ⟨gb135, 1, none⟩ = some (.int .i64 a1_1) := bc BK135 1; have hcz30_2 : w27.cell? ⟨gb135, 2, none⟩ = some (.bool a1_2) := bc BK135 2; have hfz30_0 := blk_frozen BK135.out 0; have hfz30_1 := blk_frozen BK135.out 1; have hfz30_2 := blk_frozen BK135.out 2) | (go_at_call 75; (with_reducible refine (spec_FpSub.calls a1_1 a0_1 t136 _ A22.out).mono ?_); rintro e w' ⟨rfl, ⟨nd, rfl⟩⟩; (try first | exact ⟨rfl, _, World.drewN_drewN _ _ _⟩ | exact ⟨rfl, _, Eq.trans (World.drewN_drewN _ _ _) (congrArg (World.drewN _) (Nat.add_assoc _ _ _))⟩)) | (go_at_call 75; (with_reducible refine (spec_FpSub.calls a1_0 a0_0 t137 _ A23.out).mono ?_); rintro e w' ⟨rfl, ⟨nd, rfl⟩⟩; (try first | exact ⟨rfl, _, World.drewN_drewN _ _ _⟩ | exact ⟨rfl, _, Eq.trans (World.drewN_drewN _ _ _) (congrArg (World.drewN _) (Nat.add_assoc _ _ _))⟩)) | (go_at_call 104; (with_reducible refine (spec_FpInv.calls k t137 t138 _ A24.out).mono ?_); rintro e w' ⟨rfl, ⟨nd, rfl⟩⟩; (try first | exact ⟨rfl, _, World.drewN_drewN _ _ _⟩ | exact ⟨rfl, _, Eq.trans (World.drewN_drewN _ _ _) (congrArg (World.drewN _) (Nat.add_assoc _ _ _))⟩)) | (go_at_call 76; (with_reducible refine (spec_FpMul.calls t136 t138 t139 _ A25.out).mono ?_); rintro e w' ⟨rfl, ⟨nd, rfl⟩⟩; (try first | exact ⟨rfl, _, World.drewN_drewN _ _ _⟩ | exact ⟨rfl, _, Eq.trans (World.drewN_drewN _ _ _) (congrArg (World.drewN _) (Nat.add_assoc _ _ _))⟩))); try go_wp2_with (first | ((with_reducible refine gate_dst (N := 2) rfl ?_); refine box_event ?hg (N := 2) ?hd (cs := #[.int .i64 a0_0, .int .i64 a0_1, .bool a0_2]) (t := 25) ?hr ?_; (case hd => rfl); (case hg => rfl); (case hr => first | (go_simp; done) | (go_simp; rfl)); intro gb134 hg w26 hbox hb; have BK134 := Aside0.mk (hbox); have GW134 := bG HB hg; have GE134 := bG HB hg; replace HB := bS HB hb; clear hb hbox hg) | ((with_reducible refine gate_dst (N := 3) rfl ?_); refine box_event ?hg (N := 3) ?hd (cs := #[.int .i64 a1_0, .int .i64 a1_1, .bool a1_2]) (t := 25) ?hr ?_; (case hd => rfl); (case hg => rfl); (case hr => first | (go_simp; done) | (go_simp; rfl)); intro gb135 hg w27 hbox hb; have BK135 := Aside0.mk (hbox); have GW135 := bG HB hg; have GE135 := bG HB hg; replace HB := bS HB hb; have NB134_135 := bL BK134 hg; have NB135_134 := bR BK134 hg; replace BK134 := bB BK134 hb; clear hb hbox hg; have hnb28 := NB134_135.out; have hnc28 := NB135_134.out; have hcz29_0 : w27.cell? ⟨gb134, 0, none⟩ = some (.int .i64 a0_0) := bc BK134 0; have hcz29_1 : w27.cell? ⟨gb134, 1, none⟩ = some (.int .i64 a0_1) := bc BK134 1; have hcz29_2 : w27.cell? ⟨gb134, 2, none⟩ = some (.bool a0_2) := bc BK134 2; have hfz29_0 := blk_frozen BK134.out 0; have hfz29_1 := blk_frozen BK134.out 1; have hfz29_2 := blk_frozen BK134.out 2; have hcz30_0 : w27.cell? ⟨gb135, 0, none⟩ = some (.int .i64 a1_0) := bc BK135 0; have hcz30_1 : w27.cell? ⟨gb135, 1, none⟩ = some (.int .i64 a1_1) := bc BK135 1; have hcz30_2 : w27.cell? ⟨gb135, 2, none⟩ = some (.bool a1_2) := bc BK135 2; have hfz30_0 := blk_frozen BK135.out 0; have hfz30_1 := blk_frozen BK135.out 1; have hfz30_2 := blk_frozen BK135.out 2) | (go_at_call 75; (with_reducible refine (spec_FpSub.calls a1_1 a0_1 t136 _ A22.out).mono ?_); rintro e w' ⟨rfl, ⟨nd, rfl⟩⟩; (try first | exact ⟨rfl, _, World.drewN_drewN _ _ _⟩ | exact ⟨rfl, _, Eq.trans (World.drewN_drewN _ _ _) (congrArg (World.drewN _) (Nat.add_assoc _ _ _))⟩)) | (go_at_call 75; (with_reducible refine (spec_FpSub.calls a1_0 a0_0 t137 _ A23.out).mono ?_); rintro e w' ⟨rfl, ⟨nd, rfl⟩⟩; (try first | exact ⟨rfl, _, World.drewN_drewN _ _ _⟩ | exact ⟨rfl, _, Eq.trans (World.drewN_drewN _ _ _) (congrArg (World.drewN _) (Nat.add_assoc _ _ _))⟩)) | (go_at_call 104; (with_reducible refine (spec_FpInv.calls k t137 t138 _ A24.out).mono ?_); rintro e w' ⟨rfl, ⟨nd, rfl⟩⟩; (try first | exact ⟨rfl, _, World.drewN_drewN _ _ _⟩ | exact ⟨rfl, _, Eq.trans (World.drewN_drewN _ _ _) (congrArg (World.drewN _) (Nat.add_assoc _ _ _))⟩)) | (go_at_call 76; (with_reducible refine (spec_FpMul.calls t136 t138 t139 _ A25.out).mono ?_); rintro e w' ⟨rfl, ⟨nd, rfl⟩⟩; (try first | exact ⟨rfl, _, World.drewN_drewN _ _ _⟩ | exact ⟨rfl, _, Eq.trans (World.drewN_drewN _ _ _) (congrArg (World.drewN _) (Nat.add_assoc _ _ _))⟩))))
  go_ret2
  exact ⟨by first | rfl | (simp [errW_none, errW_some] <;> rfl) | (simp [*, errW_none, errW_some] <;> rfl), bZ HB⟩
/-! ### spec_PairLine: function 23 -/
def spec_PairLine.j0 : Nat → Bool → Int → Int → Bool → Int → Int → Bool → Int → Int → Bool → Int → Int → Option (Int × Int)
 | 0, _, _, _, _, _, _, _, _, _, _, _, _ => none
 | k + 1, x36, x417000, x417001, x417002, x418000, x418001, x418002, x419000, x419001, x419002, x421000, x421001 => if x36 = true then (some (x421000, x421001)) else ((spec_l07Slope.f k x417000 x417001 x417002 x418000 x418001 x418002).bind fun bt424 => (if bt424.2 = true then ((spec_FpSub.f 0 x419000).bind fun t426 => ((spec_FpSub.f t426 x417000).bind fun t427 => ((spec_FpSub.f 0 x417001).bind fun t428 => ((spec_FpMul.f bt424.1 t427).bind fun t429 => ((spec_FpSub.f t428 t429).bind fun t430 => (some (t430, x419001))))))) else (some (x421000, x421001))))
def spec_PairLine.f (k : Nat) (a0_0 : Int) (a0_1 : Int) (a0_2 : Bool) (a1_0 : Int) (a1_1 : Int) (a1_2 : Bool) (a2_0 : Int) (a2_1 : Int) (a2_2 : Bool) : Option (Int × Int) := if a0_2 = true then (spec_PairLine.j0 k true a0_0 a0_1 a0_2 a1_0 a1_1 a1_2 a2_0 a2_1 a2_2 1 0) else (if a1_2 = true then (spec_PairLine.j0 k true a0_0 a0_1 a0_2 a1_0 a1_1 a1_2 a2_0 a2_1 a2_2 1 0) else (if a2_2 = true then (spec_PairLine.j0 k true a0_0 a0_1 a0_2 a1_0 a1_1 a1_2 a2_0 a2_1 a2_2 1 0) else ((spec_PointOk.f a0_0 a0_1 a0_2).bind fun t421 => (if t421 = true then ((spec_PointOk.f a1_0 a1_1 a1_2).bind fun t422 => (if t422 = true then ((spec_PointOk.f a2_0 a2_1 a2_2).bind fun t423 => (spec_PairLine.j0 k (!t423) a0_0 a0_1 a0_2 a1_0 a1_1 a1_2 a2_0 a2_1 a2_2 1 0)) else (spec_PairLine.j0 k true a0_0 a0_1 a0_2 a1_0 a1_1 a1_2 a2_0 a2_1 a2_2 1 0))) else (spec_PairLine.j0 k true a0_0 a0_1 a0_2 a1_0 a1_1 a1_2 a2_0 a2_1 a2_2 1 0)))))
theorem spec_PairLine.mono_l : ∀ k, (∀ y0 y1 y2 y3 y4 y5 y6 y7 y8 y9 y10 y11, LeO (spec_PairLine.j0 k y0 y1 y2 y3 y4 y5 y6 y7 y8 y9 y10 y11) (spec_PairLine.j0 (k + 1) y0 y1 y2 y3 y4 y5 y6 y7 y8 y9 y10 y11))
 | 0 => fun _ _ _ _ _ _ _ _ _ _ _ _ r h => by simp [spec_PairLine.j0] at h
 | k + 1 => by
  have ih0 := spec_PairLine.mono_l k
  ·intro y0 y1 y2 y3 y4 y5 y6 y7 y8 y9 y10 y11
   unfold spec_PairLine.j0
   repeat' first
   | (with_reducible exact ih0 _ _ _ _ _ _ _ _ _ _ _ _)
   | (with_reducible exact spec_l07Slope.mono _ _ _ _ _ _ _)
   | (with_reducible exact LeO.refl _)
   | (with_reducible exact LeO.none _)
   | (with_reducible refine LeO.ite ?_ ?_)
   | (with_reducible refine LeO.bind ?_ (fun _ => ?_))
   | exact ih0 _ _ _ _ _ _ _ _ _ _ _ _
   | exact spec_l07Slope.mono _ _ _ _ _ _ _
   | exact LeO.none _
   | refine LeO.ite ?_ ?_
   | refine LeO.bind ?_ (fun _ => ?_)
theorem spec_PairLine.mono : ∀ a0 a1 a2 a3 a4 a5 a6 a7 a8 k, LeO (spec_PairLine.f k a0 a1 a2 a3 a4 a5 a6 a7 a8) (spec_PairLine.f (k + 1) a0 a1 a2 a3 a4 a5 a6 a7 a8) := by
 intro a0 a1 a2 a3 a4 a5 a6 a7 a8 k
 have ih0 := spec_PairLine.mono_l k
 unfold spec_PairLine.f
 repeat' first
   | (with_reducible exact ih0 _ _ _ _ _ _ _ _ _ _ _ _)
   | (with_reducible exact spec_l07Slope.mono _ _ _ _ _ _ _)
   | (with_reducible exact LeO.refl _)
   | (with_reducible exact LeO.none _)
   | (with_reducible refine LeO.ite ?_ ?_)
   | (with_reducible refine LeO.bind ?_ (fun _ => ?_))
   | exact ih0 _ _ _ _ _ _ _ _ _ _ _ _
   | exact spec_l07Slope.mono _ _ _ _ _ _ _
   | exact LeO.none _
   | refine LeO.ite ?_ ?_
   | refine LeO.bind ?_ (fun _ => ?_)
def spec_PairLine.T8 : Bool × List (List Nat × List Nat) := (true, [([], []), ([0], [0]), ([1], [1]), ([], []), ([], []), ([3, 4, 2], [3, 4]), ([2, 5, 5], [2, 5]), ([], []), ([7], [7]), ([6, 8], [6, 8]), ([9, 6, 0, 1, 2, 3, 4, 5, 6, 7, 8, 9], [9])])
def spec_PairLine.B8 : List Nat := [0, 1, 3, 0, 0, 31, 63, 0, 128, 511, 1023]
theorem spec_PairLine.tab8 : rtab .any (opsOf Try.f23 8) = spec_PairLine.T8 := by kernel_rfl
theorem spec_PairLine.bits8 : waitsOk spec_PairLine.T8.2 spec_PairLine.B8 = true := by kernel_rfl
set_option maxHeartbeats 8000000 in
set_option maxRecDepth 100000 in
theorem spec_PairLine.calls (k : Nat) (a0_0 : Int) (a0_1 : Int) (a0_2 : Bool) (a1_0 : Int) (a1_1 : Int) (a1_2 : Bool) (a2_0 : Int) (a2_1 : Int) (a2_2 : Bool) (r1 : Int) (r2 : Int) (w : World) (h : spec_PairLine.f k a0_0 a0_1 a0_2 a1_0 a1_1 a1_2 a2_0 a2_1 a2_2 = some (r1, r2)) :
  Calls Try.prog 23 #[.agg #[.int .i64 a0_0, .int .i64 a0_1, .bool a0_2], .agg #[.int .i64 a1_0, .int .i64 a1_1, .bool a1_2], .agg #[.int .i64 a2_0, .int .i64 a2_1, .bool a2_2]] w fun e w' => e = .returned (.agg #[.int .i64 r1, .int .i64 r2]) ∧ Below w.heap.size w w' := by
 have hu25 := Try.underlying25
 have hu31 := Try.underlying31
 have HB := Aside0.mk (Below.refl w.heap.size w)
 have H : (if a0_2 = true then (spec_PairLine.j0 k true a0_0 a0_1 a0_2 a1_0 a1_1 a1_2 a2_0 a2_1 a2_2 1 0) else (if a1_2 = true then (spec_PairLine.j0 k true a0_0 a0_1 a0_2 a1_0 a1_1 a1_2 a2_0 a2_1 a2_2 1 0) else (if a2_2 = true then (spec_PairLine.j0 k true a0_0 a0_1 a0_2 a1_0 a1_1 a1_2 a2_0 a2_1 a2_2 1 0) else ((spec_PointOk.f a0_0 a0_1 a0_2).bind fun t421 => (if t421 = true then ((spec_PointOk.f a1_0 a1_1 a1_2).bind fun t422 => (if t422 = true then ((spec_PointOk.f a2_0 a2_1 a2_2).bind fun t423 => (spec_PairLine.j0 k (!t423) a0_0 a0_1 a0_2 a1_0 a1_1 a1_2 a2_0 a2_1 a2_2 1 0)) else (spec_PairLine.j0 k true a0_0 a0_1 a0_2 a1_0 a1_1 a1_2 a2_0 a2_1 a2_2 1 0))) else (spec_PairLine.j0 k true a0_0 a0_1 a0_2 a1_0 a1_1 a1_2 a2_0 a2_1 a2_2 1 0)))))) = some (r1, r2) := h
 clear h
 have HC4 := Aside0.mk H
 clear H
 go_enter Try.func23, Try.ntmps23
 go_upto_region 2 with (first | ((with_reducible refine gate_dst (N := 3) rfl ?_); refine box_event ?hg (N := 3) ?hd (cs := #[.int .i64 a0_0, .int .i64 a0_1, .bool a0_2]) (t := 25) ?hr ?_; (case hd => rfl); (case hg => rfl); (case hr => first | (go_simp; done) | (go_simp; rfl)); intro gb416 hg w5 hbox hb; have BK416 := Aside0.mk (hbox); have GW416 := bG HB hg; have GE416 := bG HB hg; replace HB := bS HB hb; clear hb hbox hg) | ((with_reducible refine gate_dst (N := 4) rfl ?_); refine box_event ?hg (N := 4) ?hd (cs := #[.int .i64 a1_0, .int .i64 a1_1, .bool a1_2]) (t := 25) ?hr ?_; (case hd => rfl); (case hg => rfl); (case hr => first | (go_simp; done) | (go_simp; rfl)); intro gb417 hg w6 hbox hb; have BK417 := Aside0.mk (hbox); have GW417 := bG HB hg; have GE417 := bG HB hg; replace HB := bS HB hb; have NB416_417 := bL BK416 hg; have NB417_416 := bR BK416 hg; replace BK416 := bB BK416 hb; clear hb hbox hg) | ((with_reducible refine gate_dst (N := 5) rfl ?_); refine box_event ?hg (N := 5) ?hd (cs := #[.int .i64 a2_0, .int .i64 a2_1, .bool a2_2]) (t := 25) ?hr ?_; (case hd => rfl); (case hg => rfl); (case hr => first | (go_simp; done) | (go_simp; rfl)); intro gb418 hg w7 hbox hb; have BK418 := Aside0.mk (hbox); have GW418 := bG HB hg; have GE418 := bG HB hg; replace HB := bS HB hb; have NB416_418 := bL BK416 hg; have NB418_416 := bR BK416 hg; replace BK416 := bB BK416 hb; have NB417_418 := bL BK417 hg; have NB418_417 := bR BK417 hg; replace BK417 := bB BK417 hb; clear hb hbox hg) | ((with_reducible refine gate_dst (N := 6) rfl ?_); refine box_event ?hg (N := 6) ?hd (cs := #[.int .i64 0, .int .i64 0]) (t := 31) ?hr ?_; (case hd => rfl); (case hg => rfl); (case hr => first | (go_simp; done) | (go_simp; rfl)); intro gb419 hg w8 hbox hb; have BK419 := Aside0.mk (hbox); have GW419 := bG HB hg; have GE419 := bG HB hg; replace HB := bS HB hb; have NB416_419 := bL BK416 hg; have NB419_416 := bR BK416 hg; replace BK416 := bB BK416 hb; have NB417_419 := bL BK417 hg; have NB419_417 := bR BK417 hg; replace BK417 := bB BK417 hb; have NB418_419 := bL BK418 hg; have NB419_418 := bR BK418 hg; replace BK418 := bB BK418 hb; clear hb hbox hg) | ((with_reducible refine gate_dst (N := 7) rfl ?_); refine box_event ?hg (N := 7) ?hd (cs := #[.int .i64 0, .int .i64 0]) (t := 31) ?hr ?_; (case hd => rfl); (case hg => rfl); (case hr => first | (go_simp; done) | (go_simp; rfl)); intro gb420 hg w9 hbox hb; have BK420 := Aside0.mk (hbox); have GW420 := bG HB hg; have GE420 := bG HB hg; replace HB := bS HB hb; have NB416_420 := bL BK416 hg; have NB420_416 := bR BK416 hg; replace BK416 := bB BK416 hb; have NB417_420 := bL BK417 hg; have NB420_417 := bR BK417 hg; replace BK417 := bB BK417 hb; have NB418_420 := bL BK418 hg; have NB420_418 := bR BK418 hg; replace BK418 := bB BK418 hb; have NB419_420 := bL BK419 hg; have NB420_419 := bR BK419 hg; replace BK419 := bB BK419 hb; clear hb hbox hg; have hnb10 := NB420_416.out; have hnc10 := NB416_420.out; have hnb11 := NB420_417.out; have hnc11 := NB417_420.out; have hnb12 := NB420_418.out; have hnc12 := NB418_420.out; have hnb13 := NB420_419.out; have hnc13 := NB419_420.out; have hcz14_0 : w9.cell? ⟨gb420, 0, none⟩ = some (.int .i64 0) := bc BK420 0; have hcz14_1 : w9.cell? ⟨gb420, 1, none⟩ = some (.int .i64 0) := bc BK420 1; have hfz14_0 := blk_frozen BK420.out 0; have hfz14_1 := blk_frozen BK420.out 1))
 (try simp only [Act.put, List.setIfInBounds_toArray, List.set_cons_zero, List.set_cons_succ])
 go_cut [36] (fun v36 wc => ∃ (kq : Nat) (x36_3 : Bool), v36 = .bool x36_3 ∧ Aside0 (spec_PairLine.j0 kq x36_3 a0_0 a0_1 a0_2 a1_0 a1_1 a1_2 a2_0 a2_1 a2_2 1 0 = some (r1, r2)) ∧ Aside0 (kq ≤ k) ∧ Aside0 (wc.heap[gb416]? = some (.cells #[.int .i64 a0_0, .int .i64 a0_1, .bool a0_2] 25 (0, 0))) ∧ Aside0 (wc.heap[gb417]? = some (.cells #[.int .i64 a1_0, .int .i64 a1_1, .bool a1_2] 25 (0, 0))) ∧ Aside0 (wc.heap[gb418]? = some (.cells #[.int .i64 a2_0, .int .i64 a2_1, .bool a2_2] 25 (0, 0))) ∧ Aside0 (wc.heap[gb419]? = some (.cells #[.int .i64 0, .int .i64 0] 31 (0, 0))) ∧ Aside0 (wc.heap[gb420]? = some (.cells #[.int .i64 1, .int .i64 0] 31 (0, 0))) ∧ Aside0 (Below w.heap.size w wc))
 case first =>
  have H := HC4.out
  clear HC4
  by_cases c15 : a0_2 = true
  ·subst c15
   have H1 : (spec_PairLine.j0 k true a0_0 a0_1 true a1_0 a1_1 a1_2 a2_0 a2_1 a2_2 1 0) = some (r1, r2) := by rw [if_pos rfl] at H; exact H
   clear H
   have H := H1
   clear H1
   have H' := Aside0.mk H
   clear H
   have hnb16 := NB416_417.out
   have hnc16 := NB417_416.out
   have hnb17 := NB416_418.out
   have hnc17 := NB418_416.out
   have hnb18 := NB416_419.out
   have hnc18 := NB419_416.out
   have hnb19 := NB416_420.out
   have hnc19 := NB420_416.out
   have hcz20_0 : w9.cell? ⟨gb416, 0, none⟩ = some (.int .i64 a0_0) := bc BK416 0
   have hcz20_1 : w9.cell? ⟨gb416, 1, none⟩ = some (.int .i64 a0_1) := bc BK416 1
   have hcz20_2 : w9.cell? ⟨gb416, 2, none⟩ = some (.bool true) := bc BK416 2
   have hfz20_0 := blk_frozen BK416.out 0
   have hfz20_1 := blk_frozen BK416.out 1
   have hfz20_2 := blk_frozen BK416.out 2
   go_wp2
   go_meet
   case rel => exact ⟨_, (true), (by first | rfl | (simp; done) | (simp [*]; done)), H', ⟨by first | omega | exact Nat.le_refl _⟩, ⟨bP BK416⟩, ⟨bP BK417⟩, ⟨bP BK418⟩, ⟨bP BK419⟩, ⟨by (with_reducible repeat (first | refine blk_drewN ?_ _ | refine blk_drew ?_ | refine blk_alloc ?_ _)); refine blk_put (cs := #[.int .i64 1, .int .i64 0]) ?_ 1 _ rfl; (with_reducible repeat (first | refine blk_drewN ?_ _ | refine blk_drew ?_ | refine blk_alloc ?_ _)); refine blk_put (cs := #[.int .i64 0, .int .i64 0]) ?_ 0 _ rfl; (with_reducible repeat (first | refine blk_drewN ?_ _ | refine blk_drew ?_ | refine blk_alloc ?_ _)); exact BK420.out⟩, ⟨bZ HB⟩⟩
  ·replace c15 := Bool.eq_false_iff.mpr c15
   subst c15
   have H1 : (if a1_2 = true then (spec_PairLine.j0 k true a0_0 a0_1 false a1_0 a1_1 a1_2 a2_0 a2_1 a2_2 1 0) else (if a2_2 = true then (spec_PairLine.j0 k true a0_0 a0_1 false a1_0 a1_1 a1_2 a2_0 a2_1 a2_2 1 0) else ((spec_PointOk.f a0_0 a0_1 false).bind fun t421 => (if t421 = true then ((spec_PointOk.f a1_0 a1_1 a1_2).bind fun t422 => (if t422 = true then ((spec_PointOk.f a2_0 a2_1 a2_2).bind fun t423 => (spec_PairLine.j0 k (!t423) a0_0 a0_1 false a1_0 a1_1 a1_2 a2_0 a2_1 a2_2 1 0)) else (spec_PairLine.j0 k true a0_0 a0_1 false a1_0 a1_1 a1_2 a2_0 a2_1 a2_2 1 0))) else (spec_PairLine.j0 k true a0_0 a0_1 false a1_0 a1_1 a1_2 a2_0 a2_1 a2_2 1 0))))) = some (r1, r2) := by rw [if_neg (show ¬ (false = true) by decide)] at H; exact H
   clear H
   have H := H1
   clear H1
   by_cases c21 : a1_2 = true
   ·subst c21
    have H1 : (spec_PairLine.j0 k true a0_0 a0_1 false a1_0 a1_1 true a2_0 a2_1 a2_2 1 0) = some (r1, r2) := by rw [if_pos rfl] at H; exact H
    clear H
    have H := H1
    clear H1
    have H' := Aside0.mk H
    clear H
    have hnb22 := NB416_417.out
    have hnc22 := NB417_416.out
    have hnb23 := NB416_418.out
    have hnc23 := NB418_416.out
    have hnb24 := NB416_419.out
    have hnc24 := NB419_416.out
    have hnb25 := NB416_420.out
    have hnc25 := NB420_416.out
    have hcz26_0 : w9.cell? ⟨gb416, 0, none⟩ = some (.int .i64 a0_0) := bc BK416 0
    have hcz26_1 : w9.cell? ⟨gb416, 1, none⟩ = some (.int .i64 a0_1) := bc BK416 1
    have hcz26_2 : w9.cell? ⟨gb416, 2, none⟩ = some (.bool false) := bc BK416 2
    have hfz26_0 := blk_frozen BK416.out 0
    have hfz26_1 := blk_frozen BK416.out 1
    have hfz26_2 := blk_frozen BK416.out 2
    have hnb27 := NB417_418.out
    have hnc27 := NB418_417.out
    have hnb28 := NB417_419.out
    have hnc28 := NB419_417.out
    have hnb29 := NB417_420.out
    have hnc29 := NB420_417.out
    have hcz30_0 : w9.cell? ⟨gb417, 0, none⟩ = some (.int .i64 a1_0) := bc BK417 0
    have hcz30_1 : w9.cell? ⟨gb417, 1, none⟩ = some (.int .i64 a1_1) := bc BK417 1
    have hcz30_2 : w9.cell? ⟨gb417, 2, none⟩ = some (.bool true) := bc BK417 2
    have hfz30_0 := blk_frozen BK417.out 0
    have hfz30_1 := blk_frozen BK417.out 1
    have hfz30_2 := blk_frozen BK417.out 2
    go_wp2
    go_meet
    case rel => exact ⟨_, (true), (by first | rfl | (simp; done) | (simp [*]; done)), H', ⟨by first | omega | exact Nat.le_refl _⟩, ⟨bP BK416⟩, ⟨bP BK417⟩, ⟨bP BK418⟩, ⟨bP BK419⟩, ⟨by (with_reducible repeat (first | refine blk_drewN ?_ _ | refine blk_drew ?_ | refine blk_alloc ?_ _)); refine blk_put (cs := #[.int .i64 1, .int .i64 0]) ?_ 1 _ rfl; (with_reducible repeat (first | refine blk_drewN ?_ _ | refine blk_drew ?_ | refine blk_alloc ?_ _)); refine blk_put (cs := #[.int .i64 0, .int .i64 0]) ?_ 0 _ rfl; (with_reducible repeat (first | refine blk_drewN ?_ _ | refine blk_drew ?_ | refine blk_alloc ?_ _)); exact BK420.out⟩, ⟨bZ HB⟩⟩
   ·replace c21 := Bool.eq_false_iff.mpr c21
    subst c21
    have H1 : (if a2_2 = true then (spec_PairLine.j0 k true a0_0 a0_1 false a1_0 a1_1 false a2_0 a2_1 a2_2 1 0) else ((spec_PointOk.f a0_0 a0_1 false).bind fun t421 => (if t421 = true then ((spec_PointOk.f a1_0 a1_1 false).bind fun t422 => (if t422 = true then ((spec_PointOk.f a2_0 a2_1 a2_2).bind fun t423 => (spec_PairLine.j0 k (!t423) a0_0 a0_1 false a1_0 a1_1 false a2_0 a2_1 a2_2 1 0)) else (spec_PairLine.j0 k true a0_0 a0_1 false a1_0 a1_1 false a2_0 a2_1 a2_2 1 0))) else (spec_PairLine.j0 k true a0_0 a0_1 false a1_0 a1_1 false a2_0 a2_1 a2_2 1 0)))) = some (r1, r2) := by rw [if_neg (show ¬ (false = true) by decide)] at H; exact H
    clear H
    have H := H1
    clear H1
    by_cases c31 : a2_2 = true
    ·subst c31
     have H1 : (spec_PairLine.j0 k true a0_0 a0_1 false a1_0 a1_1 false a2_0 a2_1 true 1 0) = some (r1, r2) := by rw [if_pos rfl] at H; exact H
     clear H
     have H := H1
     clear H1
     have H' := Aside0.mk H
     clear H
     have hnb32 := NB416_417.out
     have hnc32 := NB417_416.out
     have hnb33 := NB416_418.out
     have hnc33 := NB418_416.out
     have hnb34 := NB416_419.out
     have hnc34 := NB419_416.out
     have hnb35 := NB416_420.out
     have hnc35 := NB420_416.out
     have hcz36_0 : w9.cell? ⟨gb416, 0, none⟩ = some (.int .i64 a0_0) := bc BK416 0
     have hcz36_1 : w9.cell? ⟨gb416, 1, none⟩ = some (.int .i64 a0_1) := bc BK416 1
     have hcz36_2 : w9.cell? ⟨gb416, 2, none⟩ = some (.bool false) := bc BK416 2
     have hfz36_0 := blk_frozen BK416.out 0
     have hfz36_1 := blk_frozen BK416.out 1
     have hfz36_2 := blk_frozen BK416.out 2
     have hnb37 := NB417_418.out
     have hnc37 := NB418_417.out
     have hnb38 := NB417_419.out
     have hnc38 := NB419_417.out
     have hnb39 := NB417_420.out
     have hnc39 := NB420_417.out
     have hcz40_0 : w9.cell? ⟨gb417, 0, none⟩ = some (.int .i64 a1_0) := bc BK417 0
     have hcz40_1 : w9.cell? ⟨gb417, 1, none⟩ = some (.int .i64 a1_1) := bc BK417 1
     have hcz40_2 : w9.cell? ⟨gb417, 2, none⟩ = some (.bool false) := bc BK417 2
     have hfz40_0 := blk_frozen BK417.out 0
     have hfz40_1 := blk_frozen BK417.out 1
     have hfz40_2 := blk_frozen BK417.out 2
     have hnb41 := NB418_419.out
     have hnc41 := NB419_418.out
     have hnb42 := NB418_420.out
     have hnc42 := NB420_418.out
     have hcz43_0 : w9.cell? ⟨gb418, 0, none⟩ = some (.int .i64 a2_0) := bc BK418 0
     have hcz43_1 : w9.cell? ⟨gb418, 1, none⟩ = some (.int .i64 a2_1) := bc BK418 1
     have hcz43_2 : w9.cell? ⟨gb418, 2, none⟩ = some (.bool true) := bc BK418 2
     have hfz43_0 := blk_frozen BK418.out 0
     have hfz43_1 := blk_frozen BK418.out 1
     have hfz43_2 := blk_frozen BK418.out 2
     go_wp2
     go_meet
     case rel => exact ⟨_, (true), (by first | rfl | (simp; done) | (simp [*]; done)), H', ⟨by first | omega | exact Nat.le_refl _⟩, ⟨bP BK416⟩, ⟨bP BK417⟩, ⟨bP BK418⟩, ⟨bP BK419⟩, ⟨by (with_reducible repeat (first | refine blk_drewN ?_ _ | refine blk_drew ?_ | refine blk_alloc ?_ _)); refine blk_put (cs := #[.int .i64 1, .int .i64 0]) ?_ 1 _ rfl; (with_reducible repeat (first | refine blk_drewN ?_ _ | refine blk_drew ?_ | refine blk_alloc ?_ _)); refine blk_put (cs := #[.int .i64 0, .int .i64 0]) ?_ 0 _ rfl; (with_reducible repeat (first | refine blk_drewN ?_ _ | refine blk_drew ?_ | refine blk_alloc ?_ _)); exact BK420.out⟩, ⟨bZ HB⟩⟩
    ·replace c31 := Bool.eq_false_iff.mpr c31
     subst c31
     have H1 : ((spec_PointOk.f a0_0 a0_1 false).bind fun t421 => (if t421 = true then ((spec_PointOk.f a1_0 a1_1 false).bind fun t422 => (if t422 = true then ((spec_PointOk.f a2_0 a2_1 false).bind fun t423 => (spec_PairLine.j0 k (!t423) a0_0 a0_1 false a1_0 a1_1 false a2_0 a2_1 false 1 0)) else (spec_PairLine.j0 k true a0_0 a0_1 false a1_0 a1_1 false a2_0 a2_1 false 1 0))) else (spec_PairLine.j0 k true a0_0 a0_1 false a1_0 a1_1 false a2_0 a2_1 false 1 0))) = some (r1, r2) := by rw [if_neg (show ¬ (false = true) by decide)] at H; exact H
     clear H
     have H := H1
     clear H1
     replace H := Option.bind_eq_some_iff.mp H
     obtain ⟨t421, A440, H⟩ := H
     replace H : (if t421 = true then ((spec_PointOk.f a1_0 a1_1 false).bind fun t422 => (if t422 = true then ((spec_PointOk.f a2_0 a2_1 false).bind fun t423 => (spec_PairLine.j0 k (!t423) a0_0 a0_1 false a1_0 a1_1 false a2_0 a2_1 false 1 0)) else (spec_PairLine.j0 k true a0_0 a0_1 false a1_0 a1_1 false a2_0 a2_1 false 1 0))) else (spec_PairLine.j0 k true a0_0 a0_1 false a1_0 a1_1 false a2_0 a2_1 false 1 0)) = some (r1, r2) := H
     have A44 := Aside0.mk A440
     clear A440
     by_cases c45 : t421 = true
     ·subst c45
      have H1 : ((spec_PointOk.f a1_0 a1_1 false).bind fun t422 => (if t422 = true then ((spec_PointOk.f a2_0 a2_1 false).bind fun t423 => (spec_PairLine.j0 k (!t423) a0_0 a0_1 false a1_0 a1_1 false a2_0 a2_1 false 1 0)) else (spec_PairLine.j0 k true a0_0 a0_1 false a1_0 a1_1 false a2_0 a2_1 false 1 0))) = some (r1, r2) := by rw [if_pos rfl] at H; exact H
      clear H
      have H := H1
      clear H1
      replace H := Option.bind_eq_some_iff.mp H
      obtain ⟨t422, A460, H⟩ := H
      replace H : (if t422 = true then ((spec_PointOk.f a2_0 a2_1 false).bind fun t423 => (spec_PairLine.j0 k (!t423) a0_0 a0_1 false a1_0 a1_1 false a2_0 a2_1 false 1 0)) else (spec_PairLine.j0 k true a0_0 a0_1 false a1_0 a1_1 false a2_0 a2_1 false 1 0)) = some (r1, r2) := H
      have A46 := Aside0.mk A460
      clear A460
      by_cases c47 : t422 = true
      ·subst c47
       have H1 : ((spec_PointOk.f a2_0 a2_1 false).bind fun t423 => (spec_PairLine.j0 k (!t423) a0_0 a0_1 false a1_0 a1_1 false a2_0 a2_1 false 1 0)) = some (r1, r2) := by rw [if_pos rfl] at H; exact H
       clear H
       have H := H1
       clear H1
       replace H := Option.bind_eq_some_iff.mp H
       obtain ⟨t423, A480, H⟩ := H
       replace H : (spec_PairLine.j0 k (!t423) a0_0 a0_1 false a1_0 a1_1 false a2_0 a2_1 false 1 0) = some (r1, r2) := H
       have A48 := Aside0.mk A480
       clear A480
       have H' := Aside0.mk H
       clear H
       have hnb49 := NB416_417.out
       have hnc49 := NB417_416.out
       have hnb50 := NB416_418.out
       have hnc50 := NB418_416.out
       have hnb51 := NB416_419.out
       have hnc51 := NB419_416.out
       have hnb52 := NB416_420.out
       have hnc52 := NB420_416.out
       have hcz53_0 : w9.cell? ⟨gb416, 0, none⟩ = some (.int .i64 a0_0) := bc BK416 0
       have hcz53_1 : w9.cell? ⟨gb416, 1, none⟩ = some (.int .i64 a0_1) := bc BK416 1
       have hcz53_2 : w9.cell? ⟨gb416, 2, none⟩ = some (.bool false) := bc BK416 2
       have hfz53_0 := blk_frozen BK416.out 0
       have hfz53_1 := blk_frozen BK416.out 1
       have hfz53_2 := blk_frozen BK416.out 2
       have hnb54 := NB417_418.out
       have hnc54 := NB418_417.out
       have hnb55 := NB417_419.out
       have hnc55 := NB419_417.out
       have hnb56 := NB417_420.out
       have hnc56 := NB420_417.out
       have hcz57_0 : w9.cell? ⟨gb417, 0, none⟩ = some (.int .i64 a1_0) := bc BK417 0
       have hcz57_1 : w9.cell? ⟨gb417, 1, none⟩ = some (.int .i64 a1_1) := bc BK417 1
       have hcz57_2 : w9.cell? ⟨gb417, 2, none⟩ = some (.bool false) := bc BK417 2
       have hfz57_0 := blk_frozen BK417.out 0
       have hfz57_1 := blk_frozen BK417.out 1
       have hfz57_2 := blk_frozen BK417.out 2
       have hnb58 := NB418_419.out
       have hnc58 := NB419_418.out
       have hnb59 := NB418_420.out
       have hnc59 := NB420_418.out
       have hcz60_0 : w9.cell? ⟨gb418, 0, none⟩ = some (.int .i64 a2_0) := bc BK418 0
       have hcz60_1 : w9.cell? ⟨gb418, 1, none⟩ = some (.int .i64 a2_1) := bc BK418 1
       have hcz60_2 : w9.cell? ⟨gb418, 2, none⟩ = some (.bool false) := bc BK418 2
       have hfz60_0 := blk_frozen BK418.out 0
       have hfz60_1 := blk_frozen BK418.out 1
       have hfz60_2 := blk_frozen BK418.out 2
       go_wp2_with (first | (go_at_call 55; (with_reducible refine (spec_PointOk.calls a0_0 a0_1 false true _ A44.out).mono ?_); rintro e w61 ⟨rfl, hb⟩; replace BK416 := bB BK416 hb; replace BK417 := bB BK417 hb; replace BK418 := bB BK418 hb; replace BK419 := bB BK419 hb; replace BK420 := Aside0.mk (blk_below (g := gb420) (o := .cells #[.int .i64 1, .int .i64 0] 31 (0, 0)) (by (with_reducible repeat (first | refine blk_drewN ?_ _ | refine blk_drew ?_ | refine blk_alloc ?_ _)); refine blk_put (cs := #[.int .i64 1, .int .i64 0]) ?_ 1 _ rfl; (with_reducible repeat (first | refine blk_drewN ?_ _ | refine blk_drew ?_ | refine blk_alloc ?_ _)); refine blk_put (cs := #[.int .i64 0, .int .i64 0]) ?_ 0 _ rfl; (with_reducible repeat (first | refine blk_drewN ?_ _ | refine blk_drew ?_ | refine blk_alloc ?_ _)); exact BK420.out) hb); replace HB := bS HB hb; (try clear hb); (try clear hb2); (try clear hk); (try clear hi); have hcz62_0 : w61.cell? ⟨gb417, 0, none⟩ = some (.int .i64 a1_0) := bc BK417 0; have hcz62_1 : w61.cell? ⟨gb417, 1, none⟩ = some (.int .i64 a1_1) := bc BK417 1; have hcz62_2 : w61.cell? ⟨gb417, 2, none⟩ = some (.bool false) := bc BK417 2; have hfz62_0 := blk_frozen BK417.out 0; have hfz62_1 := blk_frozen BK417.out 1; have hfz62_2 := blk_frozen BK417.out 2) | (go_at_call 55; (with_reducible refine (spec_PointOk.calls a1_0 a1_1 false true _ A46.out).mono ?_); rintro e w63 ⟨rfl, hb⟩; replace BK416 := bB BK416 hb; replace BK417 := bB BK417 hb; replace BK418 := bB BK418 hb; replace BK419 := bB BK419 hb; replace BK420 := bB BK420 hb; replace HB := bS HB hb; (try clear hb); (try clear hb2); (try clear hk); (try clear hi); have hcz64_0 : w63.cell? ⟨gb418, 0, none⟩ = some (.int .i64 a2_0) := bc BK418 0; have hcz64_1 : w63.cell? ⟨gb418, 1, none⟩ = some (.int .i64 a2_1) := bc BK418 1; have hcz64_2 : w63.cell? ⟨gb418, 2, none⟩ = some (.bool false) := bc BK418 2; have hfz64_0 := blk_frozen BK418.out 0; have hfz64_1 := blk_frozen BK418.out 1; have hfz64_2 := blk_frozen BK418.out 2) | (go_at_call 55; (with_reducible refine (spec_PointOk.calls a2_0 a2_1 false t423 _ A48.out).mono ?_); rintro e w65 ⟨rfl, hb⟩; replace BK416 := bB BK416 hb; replace BK417 := bB BK417 hb; replace BK418 := bB BK418 hb; replace BK419 := bB BK419 hb; replace BK420 := bB BK420 hb; replace HB := bS HB hb; (try clear hb); (try clear hb2); (try clear hk); (try clear hi)))
       go_meet
       case rel => exact ⟨_, (!t423), (by first | rfl | (simp; done) | (simp [*]; done)), H', ⟨by first | omega | exact Nat.le_refl _⟩, ⟨bP BK416⟩, ⟨bP BK417⟩, ⟨bP BK418⟩, ⟨bP BK419⟩, ⟨bP BK420⟩, ⟨bZ HB⟩⟩
      ·replace c47 := Bool.eq_false_iff.mpr c47
       subst c47
       have H1 : (spec_PairLine.j0 k true a0_0 a0_1 false a1_0 a1_1 false a2_0 a2_1 false 1 0) = some (r1, r2) := by rw [if_neg (show ¬ (false = true) by decide)] at H; exact H
       clear H
       have H := H1
       clear H1
       have H' := Aside0.mk H
       clear H
       have hnb66 := NB416_417.out
       have hnc66 := NB417_416.out
       have hnb67 := NB416_418.out
       have hnc67 := NB418_416.out
       have hnb68 := NB416_419.out
       have hnc68 := NB419_416.out
       have hnb69 := NB416_420.out
       have hnc69 := NB420_416.out
       have hcz70_0 : w9.cell? ⟨gb416, 0, none⟩ = some (.int .i64 a0_0) := bc BK416 0
       have hcz70_1 : w9.cell? ⟨gb416, 1, none⟩ = some (.int .i64 a0_1) := bc BK416 1
       have hcz70_2 : w9.cell? ⟨gb416, 2, none⟩ = some (.bool false) := bc BK416 2
       have hfz70_0 := blk_frozen BK416.out 0
       have hfz70_1 := blk_frozen BK416.out 1
       have hfz70_2 := blk_frozen BK416.out 2
       have hnb71 := NB417_418.out
       have hnc71 := NB418_417.out
       have hnb72 := NB417_419.out
       have hnc72 := NB419_417.out
       have hnb73 := NB417_420.out
       have hnc73 := NB420_417.out
       have hcz74_0 : w9.cell? ⟨gb417, 0, none⟩ = some (.int .i64 a1_0) := bc BK417 0
       have hcz74_1 : w9.cell? ⟨gb417, 1, none⟩ = some (.int .i64 a1_1) := bc BK417 1
       have hcz74_2 : w9.cell? ⟨gb417, 2, none⟩ = some (.bool false) := bc BK417 2
       have hfz74_0 := blk_frozen BK417.out 0
       have hfz74_1 := blk_frozen BK417.out 1
       have hfz74_2 := blk_frozen BK417.out 2
       have hnb75 := NB418_419.out
       have hnc75 := NB419_418.out
       have hnb76 := NB418_420.out
       have hnc76 := NB420_418.out
       have hcz77_0 : w9.cell? ⟨gb418, 0, none⟩ = some (.int .i64 a2_0) := bc BK418 0
       have hcz77_1 : w9.cell? ⟨gb418, 1, none⟩ = some (.int .i64 a2_1) := bc BK418 1
       have hcz77_2 : w9.cell? ⟨gb418, 2, none⟩ = some (.bool false) := bc BK418 2
       have hfz77_0 := blk_frozen BK418.out 0
       have hfz77_1 := blk_frozen BK418.out 1
       have hfz77_2 := blk_frozen BK418.out 2
       go_wp2_with (first | (go_at_call 55; (with_reducible refine (spec_PointOk.calls a0_0 a0_1 false true _ A44.out).mono ?_); rintro e w78 ⟨rfl, hb⟩; replace BK416 := bB BK416 hb; replace BK417 := bB BK417 hb; replace BK418 := bB BK418 hb; replace BK419 := bB BK419 hb; replace BK420 := Aside0.mk (blk_below (g := gb420) (o := .cells #[.int .i64 1, .int .i64 0] 31 (0, 0)) (by (with_reducible repeat (first | refine blk_drewN ?_ _ | refine blk_drew ?_ | refine blk_alloc ?_ _)); refine blk_put (cs := #[.int .i64 1, .int .i64 0]) ?_ 1 _ rfl; (with_reducible repeat (first | refine blk_drewN ?_ _ | refine blk_drew ?_ | refine blk_alloc ?_ _)); refine blk_put (cs := #[.int .i64 0, .int .i64 0]) ?_ 0 _ rfl; (with_reducible repeat (first | refine blk_drewN ?_ _ | refine blk_drew ?_ | refine blk_alloc ?_ _)); exact BK420.out) hb); replace HB := bS HB hb; (try clear hb); (try clear hb2); (try clear hk); (try clear hi); have hcz79_0 : w78.cell? ⟨gb417, 0, none⟩ = some (.int .i64 a1_0) := bc BK417 0; have hcz79_1 : w78.cell? ⟨gb417, 1, none⟩ = some (.int .i64 a1_1) := bc BK417 1; have hcz79_2 : w78.cell? ⟨gb417, 2, none⟩ = some (.bool false) := bc BK417 2; have hfz79_0 := blk_frozen BK417.out 0; have hfz79_1 := blk_frozen BK417.out 1; have hfz79_2 := blk_frozen BK417.out 2) | (go_at_call 55; (with_reducible refine (spec_PointOk.calls a1_0 a1_1 false false _ A46.out).mono ?_); rintro e w80 ⟨rfl, hb⟩; replace BK416 := bB BK416 hb; replace BK417 := bB BK417 hb; replace BK418 := bB BK418 hb; replace BK419 := bB BK419 hb; replace BK420 := bB BK420 hb; replace HB := bS HB hb; (try clear hb); (try clear hb2); (try clear hk); (try clear hi)))
       go_meet
       case rel => exact ⟨_, (true), (by first | rfl | (simp; done) | (simp [*]; done)), H', ⟨by first | omega | exact Nat.le_refl _⟩, ⟨bP BK416⟩, ⟨bP BK417⟩, ⟨bP BK418⟩, ⟨bP BK419⟩, ⟨bP BK420⟩, ⟨bZ HB⟩⟩
     ·replace c45 := Bool.eq_false_iff.mpr c45
      subst c45
      have H1 : (spec_PairLine.j0 k true a0_0 a0_1 false a1_0 a1_1 false a2_0 a2_1 false 1 0) = some (r1, r2) := by rw [if_neg (show ¬ (false = true) by decide)] at H; exact H
      clear H
      have H := H1
      clear H1
      have H' := Aside0.mk H
      clear H
      have hnb81 := NB416_417.out
      have hnc81 := NB417_416.out
      have hnb82 := NB416_418.out
      have hnc82 := NB418_416.out
      have hnb83 := NB416_419.out
      have hnc83 := NB419_416.out
      have hnb84 := NB416_420.out
      have hnc84 := NB420_416.out
      have hcz85_0 : w9.cell? ⟨gb416, 0, none⟩ = some (.int .i64 a0_0) := bc BK416 0
      have hcz85_1 : w9.cell? ⟨gb416, 1, none⟩ = some (.int .i64 a0_1) := bc BK416 1
      have hcz85_2 : w9.cell? ⟨gb416, 2, none⟩ = some (.bool false) := bc BK416 2
      have hfz85_0 := blk_frozen BK416.out 0
      have hfz85_1 := blk_frozen BK416.out 1
      have hfz85_2 := blk_frozen BK416.out 2
      have hnb86 := NB417_418.out
      have hnc86 := NB418_417.out
      have hnb87 := NB417_419.out
      have hnc87 := NB419_417.out
      have hnb88 := NB417_420.out
      have hnc88 := NB420_417.out
      have hcz89_0 : w9.cell? ⟨gb417, 0, none⟩ = some (.int .i64 a1_0) := bc BK417 0
      have hcz89_1 : w9.cell? ⟨gb417, 1, none⟩ = some (.int .i64 a1_1) := bc BK417 1
      have hcz89_2 : w9.cell? ⟨gb417, 2, none⟩ = some (.bool false) := bc BK417 2
      have hfz89_0 := blk_frozen BK417.out 0
      have hfz89_1 := blk_frozen BK417.out 1
      have hfz89_2 := blk_frozen BK417.out 2
      have hnb90 := NB418_419.out
      have hnc90 := NB419_418.out
      have hnb91 := NB418_420.out
      have hnc91 := NB420_418.out
      have hcz92_0 : w9.cell? ⟨gb418, 0, none⟩ = some (.int .i64 a2_0) := bc BK418 0
      have hcz92_1 : w9.cell? ⟨gb418, 1, none⟩ = some (.int .i64 a2_1) := bc BK418 1
      have hcz92_2 : w9.cell? ⟨gb418, 2, none⟩ = some (.bool false) := bc BK418 2
      have hfz92_0 := blk_frozen BK418.out 0
      have hfz92_1 := blk_frozen BK418.out 1
      have hfz92_2 := blk_frozen BK418.out 2
      go_wp2_with (first | (go_at_call 55; (with_reducible refine (spec_PointOk.calls a0_0 a0_1 false false _ A44.out).mono ?_); rintro e w93 ⟨rfl, hb⟩; replace BK416 := bB BK416 hb; replace BK417 := bB BK417 hb; replace BK418 := bB BK418 hb; replace BK419 := bB BK419 hb; replace BK420 := Aside0.mk (blk_below (g := gb420) (o := .cells #[.int .i64 1, .int .i64 0] 31 (0, 0)) (by (with_reducible repeat (first | refine blk_drewN ?_ _ | refine blk_drew ?_ | refine blk_alloc ?_ _)); refine blk_put (cs := #[.int .i64 1, .int .i64 0]) ?_ 1 _ rfl; (with_reducible repeat (first | refine blk_drewN ?_ _ | refine blk_drew ?_ | refine blk_alloc ?_ _)); refine blk_put (cs := #[.int .i64 0, .int .i64 0]) ?_ 0 _ rfl; (with_reducible repeat (first | refine blk_drewN ?_ _ | refine blk_drew ?_ | refine blk_alloc ?_ _)); exact BK420.out) hb); replace HB := bS HB hb; (try clear hb); (try clear hb2); (try clear hk); (try clear hi)))
      go_meet
      case rel => exact ⟨_, (true), (by first | rfl | (simp; done) | (simp [*]; done)), H', ⟨by first | omega | exact Nat.le_refl _⟩, ⟨bP BK416⟩, ⟨bP BK417⟩, ⟨bP BK418⟩, ⟨bP BK419⟩, ⟨bP BK420⟩, ⟨bZ HB⟩⟩
 case rest =>
  clear HC4
  try clear c1
  try clear c2
  try clear p2
  try clear c3
  try clear c4
  try clear c5
  try clear c6
  try clear c7
  try clear c8
  try clear c9
  try clear c10
  try clear c11
  try clear c12
  try clear c13
  try clear c15
  try clear c16
  try clear c17
  try clear c18
  try clear c19
  try clear c21
  try clear c22
  try clear c23
  try clear c24
  try clear c25
  try clear c27
  try clear c28
  try clear c29
  try clear c31
  try clear c32
  try clear c33
  try clear c34
  try clear c35
  try clear c37
  try clear c38
  try clear c39
  try clear c41
  try clear c42
  try clear c45
  try clear c47
  try clear c49
  try clear c50
  try clear c51
  try clear c52
  try clear c54
  try clear c55
  try clear c56
  try clear c58
  try clear c59
  try clear c66
  try clear c67
  try clear c68
  try clear c69
  try clear c71
  try clear c72
  try clear c73
  try clear c75
  try clear c76
  try clear c81
  try clear c82
  try clear c83
  try clear c84
  try clear c86
  try clear c87
  try clear c88
  try clear c90
  try clear c91
  try clear hcz14_0
  try clear hcz14_1
  try clear hcz20_0
  try clear hcz20_1
  try clear hcz20_2
  try clear hcz26_0
  try clear hcz26_1
  try clear hcz26_2
  try clear hcz30_0
  try clear hcz30_1
  try clear hcz30_2
  try clear hcz36_0
  try clear hcz36_1
  try clear hcz36_2
  try clear hcz40_0
  try clear hcz40_1
  try clear hcz40_2
  try clear hcz43_0
  try clear hcz43_1
  try clear hcz43_2
  try clear hcz53_0
  try clear hcz53_1
  try clear hcz53_2
  try clear hcz57_0
  try clear hcz57_1
  try clear hcz57_2
  try clear hcz60_0
  try clear hcz60_1
  try clear hcz60_2
  try clear hcz62_0
  try clear hcz62_1
  try clear hcz62_2
  try clear hcz64_0
  try clear hcz64_1
  try clear hcz64_2
  try clear hcz70_0
  try clear hcz70_1
  try clear hcz70_2
  try clear hcz74_0
  try clear hcz74_1
  try clear hcz74_2
  try clear hcz77_0
  try clear hcz77_1
  try clear hcz77_2
  try clear hcz79_0
  try clear hcz79_1
  try clear hcz79_2
  try clear hcz85_0
  try clear hcz85_1
  try clear hcz85_2
  try clear hcz89_0
  try clear hcz89_1
  try clear hcz89_2
  try clear hcz92_0
  try clear hcz92_1
  try clear hcz92_2
  try clear hfz14_0
  try clear hfz14_1
  try clear hfz20_0
  try clear hfz20_1
  try clear hfz20_2
  try clear hfz26_0
  try clear hfz26_1
  try clear hfz26_2
  try clear hfz30_0
  try clear hfz30_1
  try clear hfz30_2
  try clear hfz36_0
  try clear hfz36_1
  try clear hfz36_2
  try clear hfz40_0
  try clear hfz40_1
  try clear hfz40_2
  try clear hfz43_0
  try clear hfz43_1
  try clear hfz43_2
  try clear hfz53_0
  try clear hfz53_1
  try clear hfz53_2
  try clear hfz57_0
  try clear hfz57_1
  try clear hfz57_2
  try clear hfz60_0
  try clear hfz60_1
  try clear hfz60_2
  try clear hfz62_0
  try clear hfz62_1
  try clear hfz62_2
  try clear hfz64_0
  try clear hfz64_1
  try clear hfz64_2
  try clear hfz70_0
  try clear hfz70_1
  try clear hfz70_2
  try clear hfz74_0
  try clear hfz74_1
  try clear hfz74_2
  try clear hfz77_0
  try clear hfz77_1
  try clear hfz77_2
  try clear hfz79_0
  try clear hfz79_1
  try clear hfz79_2
  try clear hfz85_0
  try clear hfz85_1
  try clear hfz85_2
  try clear hfz89_0
  try clear hfz89_1
  try clear hfz89_2
  try clear hfz92_0
  try clear hfz92_1
  try clear hfz92_2
  obtain ⟨kq, x36_3, rfl, HA, HJ3, BK416, BK417, BK418, BK419, BK420, HB⟩ := hcut
  cases kq with
  | zero => exact absurd HA.out (by simp [spec_PairLine.j0])
  | succ kj3 =>
   have H := HA.out
   clear HA
   simp only [spec_PairLine.j0] at H
   by_cases c94 : x36_3 = true
   ·subst c94
    have H1 : (some (1, 0)) = some (r1, r2) := by rw [if_pos rfl] at H; exact H
    clear H
    have H := H1
    clear H1
    simp only [Option.some.injEq, Prod.mk.injEq] at H
    obtain ⟨rfl, rfl⟩ := H
    have hnb95 := NB420_416.out
    have hnc95 := NB416_420.out
    have hnb96 := NB420_417.out
    have hnc96 := NB417_420.out
    have hnb97 := NB420_418.out
    have hnc97 := NB418_420.out
    have hnb98 := NB420_419.out
    have hnc98 := NB419_420.out
    have hcz99_0 : wc.cell? ⟨gb420, 0, none⟩ = some (.int .i64 1) := bc BK420 0
    have hcz99_1 : wc.cell? ⟨gb420, 1, none⟩ = some (.int .i64 0) := bc BK420 1
    have hfz99_0 := blk_frozen BK420.out 0
    have hfz99_1 := blk_frozen BK420.out 1
    have hnb100 := NB419_416.out
    have hnc100 := NB416_419.out
    have hnb101 := NB419_417.out
    have hnc101 := NB417_419.out
    have hnb102 := NB419_418.out
    have hnc102 := NB418_419.out
    have hcz103_0 : wc.cell? ⟨gb419, 0, none⟩ = some (.int .i64 0) := bc BK419 0
    have hcz103_1 : wc.cell? ⟨gb419, 1, none⟩ = some (.int .i64 0) := bc BK419 1
    have hfz103_0 := blk_frozen BK419.out 0
    have hfz103_1 := blk_frozen BK419.out 1
    go_wp2
    refine bodyPost_ret (results_cell_row rfl _ _ gb419 31 #[.int .i64 1, .int .i64 0] (0, 0) _ rfl (by (with_reducible repeat (first | refine blk_drewN ?_ _ | refine blk_drew ?_ | refine blk_alloc ?_ _)); refine blk_put (cs := #[.int .i64 1, .int .i64 0]) ?_ 1 _ rfl; (with_reducible repeat (first | refine blk_drewN ?_ _ | refine blk_drew ?_ | refine blk_alloc ?_ _)); refine blk_put (cs := #[.int .i64 0, .int .i64 0]) ?_ 0 _ rfl; (with_reducible repeat (first | refine blk_drewN ?_ _ | refine blk_drew ?_ | refine blk_alloc ?_ _)); exact BK419.out) Try.underlying31 rfl (by kernel_rfl)) rfl ?_
    exact ⟨by first | rfl | (simp [errW_none, errW_some] <;> rfl) | (simp [*, errW_none, errW_some] <;> rfl), bZ HB⟩
   ·replace c94 := Bool.eq_false_iff.mpr c94
    subst c94
    have H1 : ((spec_l07Slope.f kj3 a0_0 a0_1 a0_2 a1_0 a1_1 a1_2).bind fun bt424 => (if bt424.2 = true then ((spec_FpSub.f 0 a2_0).bind fun t426 => ((spec_FpSub.f t426 a0_0).bind fun t427 => ((spec_FpSub.f 0 a0_1).bind fun t428 => ((spec_FpMul.f bt424.1 t427).bind fun t429 => ((spec_FpSub.f t428 t429).bind fun t430 => (some (t430, a2_1))))))) else (some (1, 0)))) = some (r1, r2) := by rw [if_neg (show ¬ (false = true) by decide)] at H; exact H
    clear H
    have H := H1
    clear H1
    replace H := Option.bind_eq_some_iff.mp H
    obtain ⟨⟨t424, t425⟩, A1040, H⟩ := H
    replace H : (if t425 = true then ((spec_FpSub.f 0 a2_0).bind fun t426 => ((spec_FpSub.f t426 a0_0).bind fun t427 => ((spec_FpSub.f 0 a0_1).bind fun t428 => ((spec_FpMul.f t424 t427).bind fun t429 => ((spec_FpSub.f t428 t429).bind fun t430 => (some (t430, a2_1))))))) else (some (1, 0))) = some (r1, r2) := H
    have A104 := Aside0.mk A1040
    clear A1040
    by_cases c105 : t425 = true
    ·subst c105
     have H1 : ((spec_FpSub.f 0 a2_0).bind fun t426 => ((spec_FpSub.f t426 a0_0).bind fun t427 => ((spec_FpSub.f 0 a0_1).bind fun t428 => ((spec_FpMul.f t424 t427).bind fun t429 => ((spec_FpSub.f t428 t429).bind fun t430 => (some (t430, a2_1))))))) = some (r1, r2) := by rw [if_pos rfl] at H; exact H
     clear H
     have H := H1
     clear H1
     replace H := Option.bind_eq_some_iff.mp H
     obtain ⟨t426, A1060, H⟩ := H
     replace H : ((spec_FpSub.f t426 a0_0).bind fun t427 => ((spec_FpSub.f 0 a0_1).bind fun t428 => ((spec_FpMul.f t424 t427).bind fun t429 => ((spec_FpSub.f t428 t429).bind fun t430 => (some (t430, a2_1)))))) = some (r1, r2) := H
     have A106 := Aside0.mk A1060
     clear A1060
     replace H := Option.bind_eq_some_iff.mp H
     obtain ⟨t427, A1070, H⟩ := H
     replace H : ((spec_FpSub.f 0 a0_1).bind fun t428 => ((spec_FpMul.f t424 t427).bind fun t429 => ((spec_FpSub.f t428 t429).bind fun t430 => (some (t430, a2_1))))) = some (r1, r2) := H
     have A107 := Aside0.mk A1070
     clear A1070
     replace H := Option.bind_eq_some_iff.mp H
     obtain ⟨t428, A1080, H⟩ := H
     replace H : ((spec_FpMul.f t424 t427).bind fun t429 => ((spec_FpSub.f t428 t429).bind fun t430 => (some (t430, a2_1)))) = some (r1, r2) := H
     have A108 := Aside0.mk A1080
     clear A1080
     replace H := Option.bind_eq_some_iff.mp H
     obtain ⟨t429, A1090, H⟩ := H
     replace H : ((spec_FpSub.f t428 t429).bind fun t430 => (some (t430, a2_1))) = some (r1, r2) := H
     have A109 := Aside0.mk A1090
     clear A1090
     replace H := Option.bind_eq_some_iff.mp H
     obtain ⟨t430, A1100, H⟩ := H
     replace H : (some (t430, a2_1)) = some (r1, r2) := H
     have A110 := Aside0.mk A1100
     clear A1100
     simp only [Option.some.injEq, Prod.mk.injEq] at H
     obtain ⟨rfl, rfl⟩ := H
     have hnb111 := NB416_417.out
     have hnc111 := NB417_416.out
     have hnb112 := NB416_418.out
     have hnc112 := NB418_416.out
     have hnb113 := NB416_419.out
     have hnc113 := NB419_416.out
     have hnb114 := NB416_420.out
     have hnc114 := NB420_416.out
     have hcz115_0 : wc.cell? ⟨gb416, 0, none⟩ = some (.int .i64 a0_0) := bc BK416 0
     have hcz115_1 : wc.cell? ⟨gb416, 1, none⟩ = some (.int .i64 a0_1) := bc BK416 1
     have hcz115_2 : wc.cell? ⟨gb416, 2, none⟩ = some (.bool a0_2) := bc BK416 2
     have hfz115_0 := blk_frozen BK416.out 0
     have hfz115_1 := blk_frozen BK416.out 1
     have hfz115_2 := blk_frozen BK416.out 2
     have hnb116 := NB417_418.out
     have hnc116 := NB418_417.out
     have hnb117 := NB417_419.out
     have hnc117 := NB419_417.out
     have hnb118 := NB417_420.out
     have hnc118 := NB420_417.out
     have hcz119_0 : wc.cell? ⟨gb417, 0, none⟩ = some (.int .i64 a1_0) := bc BK417 0
     have hcz119_1 : wc.cell? ⟨gb417, 1, none⟩ = some (.int .i64 a1_1) := bc BK417 1
     have hcz119_2 : wc.cell? ⟨gb417, 2, none⟩ = some (.bool a1_2) := bc BK417 2
     have hfz119_0 := blk_frozen BK417.out 0
     have hfz119_1 := blk_frozen BK417.out 1
     have hfz119_2 := blk_frozen BK417.out 2
     try go_wp2_with (first | ((with_reducible refine gate_callee (f := 74) rfl ?_); refine goesL_ (some 41) rfl rfl Try.func74 (by kernel_rfl) rfl #[.agg #[.int .i64 a0_0, .int .i64 a0_1, .bool a0_2], .agg #[.int .i64 a1_0, .int .i64 a1_1, .bool a1_2]] rfl (by (try simp only [List.map_toArray, List.map_cons, List.map_nil]); first | done | rfl | (simp only [List.length_drop, List.length_take]; rfl)) ?_; (with_reducible refine (spec_l07Slope.calls kj3 a0_0 a0_1 a0_2 a1_0 a1_1 a1_2 t424 true _ A104.out).mono ?_); rintro e w120 ⟨rfl, hb⟩; refine ⟨_, rfl, ?_⟩; replace BK416 := bB BK416 hb; replace BK417 := bB BK417 hb; replace BK418 := bB BK418 hb; replace BK419 := bB BK419 hb; replace BK420 := bB BK420 hb; replace HB := bS HB hb; (try clear hb); (try clear hb2); (try clear hk); (try clear hi)))
     replace BK416 := Aside0.mk (blk_drew BK416.out)
     replace BK417 := Aside0.mk (blk_drew BK417.out)
     replace BK418 := Aside0.mk (blk_drew BK418.out)
     replace BK419 := Aside0.mk (blk_drew BK419.out)
     replace BK420 := Aside0.mk (blk_drew BK420.out)
     replace HB := Aside0.mk (below_drew1 HB.out)
     refine start_ (n := 7) (S := fun w' => w'.cell? ⟨gb418, 0, none⟩ = some (.int .i64 a2_0) ∧ w'.cell? ⟨gb418, 1, none⟩ = some (.int .i64 a2_1) ∧ w'.cell? ⟨gb418, 2, none⟩ = some (.bool a2_2) ∧ w'.cell? ⟨gb416, 0, none⟩ = some (.int .i64 a0_0) ∧ w'.cell? ⟨gb416, 1, none⟩ = some (.int .i64 a0_1) ∧ w'.cell? ⟨gb416, 2, none⟩ = some (.bool a0_2)) (ds := []) #[false, false, false, false, false, false, false] (by kernel_rfl) rfl rfl ⟨bc BK418 0, bc BK418 1, bc BK418 2, bc BK416 0, bc BK416 1, bc BK416 2⟩ (fun hHeld => ?_)
     generalize w120.drew = w121 at BK416 BK417 BK418 BK419 BK420 HB hHeld ⊢
     refine pure_ (i := 0) (N := some 47) (v := ?_) (a' := ?_) #[true, false, false, false, false, false, false] rfl rfl (by kernel_rfl) (fun _ _ _ h => h) (Or.inl ⟨by rfl, ?_⟩) ?_ ?_
     rotate_left
     ·intro w'
      go_simp
      with_reducible rfl
     rotate_left
     ·simp only [Act.put, List.setIfInBounds_toArray, List.set_cons_zero, List.set_cons_succ, i64_w, i32_w]
      rfl
     refine pure_ (i := 3) (N := some 50) (v := ?_) (a' := ?_) #[true, false, false, true, false, false, false] rfl rfl (by kernel_rfl) (fun _ _ _ h => h) (Or.inl ⟨by rfl, ?_⟩) ?_ ?_
     rotate_left
     ·intro w'
      go_simp
      with_reducible rfl
     rotate_left
     ·simp only [Act.put, List.setIfInBounds_toArray, List.set_cons_zero, List.set_cons_succ, i64_w, i32_w]
      rfl
     refine take_ (i := 1) (N := some 48) (v := ?_) (a' := ?_) #[true, true, false, true, false, false, false] rfl rfl (by kernel_rfl) (fun _ _ _ h => h) (Or.inl ⟨by rfl, ?_⟩) hHeld ?_ ?_
     rotate_left
     ·rintro w' ⟨s0, s1, s2, s3, s4, s5⟩
      go_simp
      with_reducible rfl
     rotate_left
     ·simp only [Act.put, List.setIfInBounds_toArray, List.set_cons_zero, List.set_cons_succ, i64_w, i32_w]
      rfl
     refine take_ (i := 4) (N := some 51) (v := ?_) (a' := ?_) #[true, true, false, true, true, false, false] rfl rfl (by kernel_rfl) (fun _ _ _ h => h) (Or.inl ⟨by rfl, ?_⟩) hHeld ?_ ?_
     rotate_left
     ·rintro w' ⟨s0, s1, s2, s3, s4, s5⟩
      go_simp
      with_reducible rfl
     rotate_left
     ·simp only [Act.put, List.setIfInBounds_toArray, List.set_cons_zero, List.set_cons_succ, i64_w, i32_w]
      rfl
     refine one_ (i := 2) (N := some 49) #[true, true, true, true, true, false, false] rfl rfl (by kernel_rfl) (by decide) (fun K hK => ?_)
     refine goes_ Try.func75 (by kernel_rfl) rfl #[.int .i64 0, .int .i64 a2_0] (by rfl) rfl rfl (by (try simp only [List.map_toArray, List.map_cons, List.map_nil]); first | done | rfl | (simp only [List.length_drop, List.length_take]; rfl)) ?_
     with_reducible refine (spec_FpSub.calls 0 a2_0 t426 _ A106.out).mono ?_
     rintro e w' ⟨rfl, ⟨nd, rfl⟩⟩
     refine ⟨_, rfl, ?_⟩
     refine hK.out _ _ ⟨bc BK418 0, bc BK418 1, bc BK418 2, bc BK416 0, bc BK416 1, bc BK416 2⟩ (fun hHeld => ?_)
     clear hK K
     refine norm_ (a' := ?_) ?_ ?_
     rotate_left
     ·show Act.put _ (some 49) _ = _
      simp only [Act.put, List.setIfInBounds_toArray, List.set_cons_zero, List.set_cons_succ, i64_w, i32_w]
      rfl
     refine one_ (i := 5) (N := some 52) #[true, true, true, true, true, true, false] rfl rfl (by kernel_rfl) (by decide) (fun K hK => ?_)
     refine goes_ Try.func75 (by kernel_rfl) rfl #[.int .i64 t426, .int .i64 a0_0] (by rfl) rfl rfl (by (try simp only [List.map_toArray, List.map_cons, List.map_nil]); first | done | rfl | (simp only [List.length_drop, List.length_take]; rfl)) ?_
     with_reducible refine (spec_FpSub.calls t426 a0_0 t427 _ A107.out).mono ?_
     rintro e w' ⟨rfl, ⟨nd, rfl⟩⟩
     refine ⟨_, rfl, ?_⟩
     refine hK.out _ _ ⟨bc BK418 0, bc BK418 1, bc BK418 2, bc BK416 0, bc BK416 1, bc BK416 2⟩ (fun hHeld => ?_)
     clear hK K
     refine norm_ (a' := ?_) ?_ ?_
     rotate_left
     ·show Act.put _ (some 52) _ = _
      simp only [Act.put, List.setIfInBounds_toArray, List.set_cons_zero, List.set_cons_succ, i64_w, i32_w]
      rfl
     refine pure_ (i := 6) (N := some 10) (v := ?_) (a' := ?_) #[true, true, true, true, true, true, true] rfl rfl (by kernel_rfl) (fun _ _ _ h => h) (Or.inl ⟨by rfl, ?_⟩) ?_ ?_
     rotate_left
     ·intro w'
      go_simp
      with_reducible rfl
     rotate_left
     ·simp only [Act.put, List.setIfInBounds_toArray, List.set_cons_zero, List.set_cons_succ, i64_w, i32_w]
      rfl
     refine done_ (by kernel_rfl) ?_
     try go_wp2
     (try simp only [World.drewN_drewN]); (try (rw [drewN_self w121]; generalize hq_ : World.drewN w121 _ = w121; replace BK416 : Aside0 (w121.heap[gb416]? = some (.cells #[.int .i64 a0_0, .int .i64 a0_1, .bool a0_2] 25 (0, 0))) := ⟨by rw [← hq_]; exact (bP BK416)⟩; replace BK417 : Aside0 (w121.heap[gb417]? = some (.cells #[.int .i64 a1_0, .int .i64 a1_1, .bool a1_2] 25 (0, 0))) := ⟨by rw [← hq_]; exact (bP BK417)⟩; replace BK418 : Aside0 (w121.heap[gb418]? = some (.cells #[.int .i64 a2_0, .int .i64 a2_1, .bool a2_2] 25 (0, 0))) := ⟨by rw [← hq_]; exact (bP BK418)⟩; replace BK419 : Aside0 (w121.heap[gb419]? = some (.cells #[.int .i64 0, .int .i64 0] 31 (0, 0))) := ⟨by rw [← hq_]; exact (bP BK419)⟩; replace BK420 : Aside0 (w121.heap[gb420]? = some (.cells #[.int .i64 1, .int .i64 0] 31 (0, 0))) := ⟨by rw [← hq_]; exact (bP BK420)⟩; replace HB : Aside0 (Below w.heap.size w w121) := ⟨by rw [← hq_]; exact (bZ HB)⟩; clear hq_))
     replace BK416 := Aside0.mk (blk_drew BK416.out)
     replace BK417 := Aside0.mk (blk_drew BK417.out)
     replace BK418 := Aside0.mk (blk_drew BK418.out)
     replace BK419 := Aside0.mk (blk_drew BK419.out)
     replace BK420 := Aside0.mk (blk_drew BK420.out)
     replace HB := Aside0.mk (below_drew1 HB.out)
     refine start_ (n := 11) (S := fun w' => w'.cell? ⟨gb416, 0, none⟩ = some (.int .i64 a0_0) ∧ w'.cell? ⟨gb416, 1, none⟩ = some (.int .i64 a0_1) ∧ w'.cell? ⟨gb416, 2, none⟩ = some (.bool a0_2) ∧ w'.cell? ⟨gb418, 0, none⟩ = some (.int .i64 a2_0) ∧ w'.cell? ⟨gb418, 1, none⟩ = some (.int .i64 a2_1) ∧ w'.cell? ⟨gb418, 2, none⟩ = some (.bool a2_2)) (ds := []) #[false, false, false, false, false, false, false, false, false, false, false] (by kernel_rfl) rfl rfl ⟨bc BK416 0, bc BK416 1, bc BK416 2, bc BK418 0, bc BK418 1, bc BK418 2⟩ (fun hHeld => ?_); refine with_tabW spec_PairLine.tab8 spec_PairLine.bits8 (fun HT_ HW_ => ?_)
     generalize w121.drew = w122 at BK416 BK417 BK418 BK419 BK420 HB hHeld ⊢
     refine pure_ (i := 0) (N := some 53) (v := ?_) (a' := ?_) #[true, false, false, false, false, false, false, false, false, false, false] rfl rfl (any_of HT_.out (by kernel_rfl)) (fun _ _ _ h => h) (Or.inl ⟨by rfl, ?_⟩) ?_ ?_
     rotate_left
     ·intro w'
      go_simp
      with_reducible rfl
     rotate_left
     ·simp only [Act.put, List.setIfInBounds_toArray, List.set_cons_zero, List.set_cons_succ, i64_w, i32_w]
      rfl
     refine pure_ (i := 3) (N := some 56) (v := ?_) (a' := ?_) #[true, false, false, true, false, false, false, false, false, false, false] rfl rfl (any_of HT_.out (by kernel_rfl)) (fun _ _ _ h => h) (Or.inl ⟨by rfl, ?_⟩) ?_ ?_
     rotate_left
     ·intro w'
      go_simp
      with_reducible rfl
     rotate_left
     ·simp only [Act.put, List.setIfInBounds_toArray, List.set_cons_zero, List.set_cons_succ, i64_w, i32_w]
      rfl
     refine pure_ (i := 4) (N := some 57) (v := ?_) (a' := ?_) #[true, false, false, true, true, false, false, false, false, false, false] rfl rfl (any_of HT_.out (by kernel_rfl)) (fun _ _ _ h => h) (Or.inl ⟨by rfl, ?_⟩) ?_ ?_
     rotate_left
     ·intro w'
      go_simp
      with_reducible rfl
     rotate_left
     ·simp only [Act.put, List.setIfInBounds_toArray, List.set_cons_zero, List.set_cons_succ, i64_w, i32_w]
      rfl
     refine pure_ (i := 7) (N := some 60) (v := ?_) (a' := ?_) #[true, false, false, true, true, false, false, true, false, false, false] rfl rfl (any_of HT_.out (by kernel_rfl)) (fun _ _ _ h => h) (Or.inl ⟨by rfl, ?_⟩) ?_ ?_
     rotate_left
     ·intro w'
      go_simp
      with_reducible rfl
     rotate_left
     ·simp only [Act.put, List.setIfInBounds_toArray, List.set_cons_zero, List.set_cons_succ, i64_w, i32_w]
      rfl
     refine take_ (i := 1) (N := some 54) (v := ?_) (a' := ?_) #[true, true, false, true, true, false, false, true, false, false, false] rfl rfl (take_ofW HT_.out HW_.out (by kernel_rfl)) (fun _ _ _ h => h) (Or.inl ⟨by rfl, ?_⟩) hHeld ?_ ?_
     rotate_left
     ·rintro w' ⟨s0, s1, s2, s3, s4, s5⟩
      go_simp
      with_reducible rfl
     rotate_left
     ·simp only [Act.put, List.setIfInBounds_toArray, List.set_cons_zero, List.set_cons_succ, i64_w, i32_w]
      rfl
     refine take_ (i := 8) (N := some 61) (v := ?_) (a' := ?_) #[true, true, false, true, true, false, false, true, true, false, false] rfl rfl (take_ofW HT_.out HW_.out (by kernel_rfl)) (fun _ _ _ h => h) (Or.inl ⟨by rfl, ?_⟩) hHeld ?_ ?_
     rotate_left
     ·rintro w' ⟨s0, s1, s2, s3, s4, s5⟩
      go_simp
      with_reducible rfl
     rotate_left
     ·simp only [Act.put, List.setIfInBounds_toArray, List.set_cons_zero, List.set_cons_succ, i64_w, i32_w]
      rfl
     refine one_ (i := 2) (N := some 55) #[true, true, true, true, true, false, false, true, true, false, false] rfl rfl (one_of HT_.out (by kernel_rfl)) (by decide) (fun K hK => ?_)
     refine goes_ Try.func75 (by kernel_rfl) rfl #[.int .i64 0, .int .i64 a0_1] (by rfl) rfl rfl (by (try simp only [List.map_toArray, List.map_cons, List.map_nil]); first | done | rfl | (simp only [List.length_drop, List.length_take]; rfl)) ?_
     with_reducible refine (spec_FpSub.calls 0 a0_1 t428 _ A108.out).mono ?_
     rintro e w' ⟨rfl, ⟨nd, rfl⟩⟩
     refine ⟨_, rfl, ?_⟩
     refine hK.out _ _ ⟨bc BK416 0, bc BK416 1, bc BK416 2, bc BK418 0, bc BK418 1, bc BK418 2⟩ (fun hHeld => ?_)
     clear hK K
     refine norm_ (a' := ?_) ?_ ?_
     rotate_left
     ·show Act.put _ (some 55) _ = _
      simp only [Act.put, List.setIfInBounds_toArray, List.set_cons_zero, List.set_cons_succ, i64_w, i32_w]
      rfl
     refine one_ (i := 5) (N := some 58) #[true, true, true, true, true, true, false, true, true, false, false] rfl rfl (one_of HT_.out (by kernel_rfl)) (by decide) (fun K hK => ?_)
     refine goes_ Try.func76 (by kernel_rfl) rfl #[.int .i64 t424, .int .i64 t427] (by rfl) rfl rfl (by (try simp only [List.map_toArray, List.map_cons, List.map_nil]); first | done | rfl | (simp only [List.length_drop, List.length_take]; rfl)) ?_
     with_reducible refine (spec_FpMul.calls t424 t427 t429 _ A109.out).mono ?_
     rintro e w' ⟨rfl, ⟨nd, rfl⟩⟩
     refine ⟨_, rfl, ?_⟩
     refine hK.out _ _ ⟨bc BK416 0, bc BK416 1, bc BK416 2, bc BK418 0, bc BK418 1, bc BK418 2⟩ (fun hHeld => ?_)
     clear hK K
     refine norm_ (a' := ?_) ?_ ?_
     rotate_left
     ·show Act.put _ (some 58) _ = _
      simp only [Act.put, List.setIfInBounds_toArray, List.set_cons_zero, List.set_cons_succ, i64_w, i32_w]
      rfl
     refine one_ (i := 6) (N := some 59) #[true, true, true, true, true, true, true, true, true, false, false] rfl rfl (one_of HT_.out (by kernel_rfl)) (by decide) (fun K hK => ?_)
     refine goes_ Try.func75 (by kernel_rfl) rfl #[.int .i64 t428, .int .i64 t429] (by rfl) rfl rfl (by (try simp only [List.map_toArray, List.map_cons, List.map_nil]); first | done | rfl | (simp only [List.length_drop, List.length_take]; rfl)) ?_
     with_reducible refine (spec_FpSub.calls t428 t429 t430 _ A110.out).mono ?_
     rintro e w' ⟨rfl, ⟨nd, rfl⟩⟩
     refine ⟨_, rfl, ?_⟩
     refine hK.out _ _ ⟨bc BK416 0, bc BK416 1, bc BK416 2, bc BK418 0, bc BK418 1, bc BK418 2⟩ (fun hHeld => ?_)
     clear hK K
     refine norm_ (a' := ?_) ?_ ?_
     rotate_left
     ·show Act.put _ (some 59) _ = _
      simp only [Act.put, List.setIfInBounds_toArray, List.set_cons_zero, List.set_cons_succ, i64_w, i32_w]
      rfl
     refine pure_ (i := 9) (N := some 62) (v := ?_) (a' := ?_) #[true, true, true, true, true, true, true, true, true, true, false] rfl rfl (any_of HT_.out (by kernel_rfl)) (fun _ _ _ h => h) (Or.inl ⟨by rfl, ?_⟩) ?_ ?_
     rotate_left
     ·intro w'
      go_simp
      with_reducible rfl
     rotate_left
     ·simp only [Act.put, List.setIfInBounds_toArray, List.set_cons_zero, List.set_cons_succ, i64_w, i32_w]
      rfl
     refine one_ (i := 10) (N := none) #[true, true, true, true, true, true, true, true, true, true, true] rfl rfl (one_of HT_.out (by kernel_rfl)) (by decide) (fun K hK => ?_)
     have hs123 : w122.cell? ⟨gb419, 0, none⟩ = some (.int .i64 0) := bc BK419 0
     have hfs123 := blk_frozen BK419.out 0
     have hns123_0 := NB416_419.out
     have hns123_1 := NB417_419.out
     have hns123_2 := NB418_419.out
     have hns123_4 := NB420_419.out
     have hms123_0 := NB419_416.out
     have hms123_1 := NB419_417.out
     have hms123_2 := NB419_418.out
     have hms123_4 := NB419_420.out
     have hs124 : w122.cell? ⟨gb419, 1, none⟩ = some (.int .i64 0) := bc BK419 1
     have hfs124 := blk_frozen BK419.out 1
     have hns124_0 := NB416_419.out
     have hns124_1 := NB417_419.out
     have hns124_2 := NB418_419.out
     have hns124_4 := NB420_419.out
     have hms124_0 := NB419_416.out
     have hms124_1 := NB419_417.out
     have hms124_2 := NB419_418.out
     have hms124_4 := NB419_420.out
     refine skip_ (w1 := ?_) (by rfl) rfl ?_ ?_
     rotate_left
     ·go_simp
      rfl
     refine hK.out _ _ ⟨((cell_far (p := ⟨gb419, _, none⟩) NB416_419.out _).trans (((cell_far (p := ⟨gb419, _, none⟩) NB416_419.out _).trans (hHeld.1)))), ((cell_far (p := ⟨gb419, _, none⟩) NB416_419.out _).trans (((cell_far (p := ⟨gb419, _, none⟩) NB416_419.out _).trans (hHeld.2.1)))), ((cell_far (p := ⟨gb419, _, none⟩) NB416_419.out _).trans (((cell_far (p := ⟨gb419, _, none⟩) NB416_419.out _).trans (hHeld.2.2.1)))), ((cell_far (p := ⟨gb419, _, none⟩) NB418_419.out _).trans (((cell_far (p := ⟨gb419, _, none⟩) NB418_419.out _).trans (hHeld.2.2.2.1)))), ((cell_far (p := ⟨gb419, _, none⟩) NB418_419.out _).trans (((cell_far (p := ⟨gb419, _, none⟩) NB418_419.out _).trans (hHeld.2.2.2.2.1)))), ((cell_far (p := ⟨gb419, _, none⟩) NB418_419.out _).trans (((cell_far (p := ⟨gb419, _, none⟩) NB418_419.out _).trans (hHeld.2.2.2.2.2))))⟩ (fun hHeld => ?_)
     clear hK K
     refine done_ (done_of HT_.out (by kernel_rfl)) ?_
     try go_wp2
     refine bodyPost_ret (results_cell_row rfl _ _ gb419 31 #[.int .i64 t430, .int .i64 a2_1] (0, 0) _ rfl (by (with_reducible repeat (first | refine blk_drewN ?_ _ | refine blk_drew ?_ | refine blk_alloc ?_ _)); refine blk_put (cs := #[.int .i64 t430, .int .i64 0]) ?_ 1 _ rfl; (with_reducible repeat (first | refine blk_drewN ?_ _ | refine blk_drew ?_ | refine blk_alloc ?_ _)); refine blk_put (cs := #[.int .i64 0, .int .i64 0]) ?_ 0 _ rfl; (with_reducible repeat (first | refine blk_drewN ?_ _ | refine blk_drew ?_ | refine blk_alloc ?_ _)); exact BK419.out) Try.underlying31 rfl (by kernel_rfl)) rfl ?_
     exact ⟨by first | rfl | (simp [errW_none, errW_some] <;> rfl) | (simp [*, errW_none, errW_some] <;> rfl), bZ HB⟩
    ·replace c105 := Bool.eq_false_iff.mpr c105
     subst c105
     have H1 : (some (1, 0)) = some (r1, r2) := by rw [if_neg (show ¬ (false = true) by decide)] at H; exact H
     clear H
     have H := H1
     clear H1
     simp only [Option.some.injEq, Prod.mk.injEq] at H
     obtain ⟨rfl, rfl⟩ := H
     have hnb125 := NB416_417.out
     have hnc125 := NB417_416.out
     have hnb126 := NB416_418.out
     have hnc126 := NB418_416.out
     have hnb127 := NB416_419.out
     have hnc127 := NB419_416.out
     have hnb128 := NB416_420.out
     have hnc128 := NB420_416.out
     have hcz129_0 : wc.cell? ⟨gb416, 0, none⟩ = some (.int .i64 a0_0) := bc BK416 0
     have hcz129_1 : wc.cell? ⟨gb416, 1, none⟩ = some (.int .i64 a0_1) := bc BK416 1
     have hcz129_2 : wc.cell? ⟨gb416, 2, none⟩ = some (.bool a0_2) := bc BK416 2
     have hfz129_0 := blk_frozen BK416.out 0
     have hfz129_1 := blk_frozen BK416.out 1
     have hfz129_2 := blk_frozen BK416.out 2
     have hnb130 := NB417_418.out
     have hnc130 := NB418_417.out
     have hnb131 := NB417_419.out
     have hnc131 := NB419_417.out
     have hnb132 := NB417_420.out
     have hnc132 := NB420_417.out
     have hcz133_0 : wc.cell? ⟨gb417, 0, none⟩ = some (.int .i64 a1_0) := bc BK417 0
     have hcz133_1 : wc.cell? ⟨gb417, 1, none⟩ = some (.int .i64 a1_1) := bc BK417 1
     have hcz133_2 : wc.cell? ⟨gb417, 2, none⟩ = some (.bool a1_2) := bc BK417 2
     have hfz133_0 := blk_frozen BK417.out 0
     have hfz133_1 := blk_frozen BK417.out 1
     have hfz133_2 := blk_frozen BK417.out 2
     go_wp2_with (first | ((with_reducible refine gate_callee (f := 74) rfl ?_); refine goesL_ (some 41) rfl rfl Try.func74 (by kernel_rfl) rfl #[.agg #[.int .i64 a0_0, .int .i64 a0_1, .bool a0_2], .agg #[.int .i64 a1_0, .int .i64 a1_1, .bool a1_2]] rfl (by (try simp only [List.map_toArray, List.map_cons, List.map_nil]); first | done | rfl | (simp only [List.length_drop, List.length_take]; rfl)) ?_; (with_reducible refine (spec_l07Slope.calls kj3 a0_0 a0_1 a0_2 a1_0 a1_1 a1_2 t424 false _ A104.out).mono ?_); rintro e w134 ⟨rfl, hb⟩; refine ⟨_, rfl, ?_⟩; replace BK416 := bB BK416 hb; replace BK417 := bB BK417 hb; replace BK418 := bB BK418 hb; replace BK419 := bB BK419 hb; replace BK420 := bB BK420 hb; replace HB := bS HB hb; (try clear hb); (try clear hb2); (try clear hk); (try clear hi); have hnb135 := NB420_418.out; have hnc135 := NB418_420.out; have hnb136 := NB420_419.out; have hnc136 := NB419_420.out; have hcz137_0 : w134.cell? ⟨gb420, 0, none⟩ = some (.int .i64 1) := bc BK420 0; have hcz137_1 : w134.cell? ⟨gb420, 1, none⟩ = some (.int .i64 0) := bc BK420 1; have hfz137_0 := blk_frozen BK420.out 0; have hfz137_1 := blk_frozen BK420.out 1; have hnb138 := NB419_418.out; have hnc138 := NB418_419.out; have hcz139_0 : w134.cell? ⟨gb419, 0, none⟩ = some (.int .i64 0) := bc BK419 0; have hcz139_1 : w134.cell? ⟨gb419, 1, none⟩ = some (.int .i64 0) := bc BK419 1; have hfz139_0 := blk_frozen BK419.out 0; have hfz139_1 := blk_frozen BK419.out 1))
     refine bodyPost_ret (results_cell_row rfl _ _ gb419 31 #[.int .i64 1, .int .i64 0] (0, 0) _ rfl (by (with_reducible repeat (first | refine blk_drewN ?_ _ | refine blk_drew ?_ | refine blk_alloc ?_ _)); refine blk_put (cs := #[.int .i64 1, .int .i64 0]) ?_ 1 _ rfl; (with_reducible repeat (first | refine blk_drewN ?_ _ | refine blk_drew ?_ | refine blk_alloc ?_ _)); refine blk_put (cs := #[.int .i64 0, .int .i64 0]) ?_ 0 _ rfl; (with_reducible repeat (first | refine blk_drewN ?_ _ | refine blk_drew ?_ | refine blk_alloc ?_ _)); exact BK419.out) Try.underlying31 rfl (by kernel_rfl)) rfl ?_
     exact ⟨by first | rfl | (simp [errW_none, errW_some] <;> rfl) | (simp [*, errW_none, errW_some] <;> rfl), bZ HB⟩
/-! ### spec_l07Zero: function 78 -/
def spec_l07Zero.f  : Option (Int × Int × Bool) := some (0, 0, true)
set_option maxHeartbeats 8000000 in
set_option maxRecDepth 100000 in
theorem spec_l07Zero.calls  (r1 : Int) (r2 : Int) (r3 : Bool) (w : World) (h : spec_l07Zero.f  = some (r1, r2, r3)) :
  Calls Try.prog 78 #[] w fun e w' => e = .returned (.agg #[.int .i64 r1, .int .i64 r2, .bool r3]) ∧ Below w.heap.size w w' := by
 have hu25 := Try.underlying25
 have HB := Aside0.mk (Below.refl w.heap.size w)
 have H : (some (0, 0, true)) = some (r1, r2, r3) := h
 clear h
 simp only [Option.some.injEq, Prod.mk.injEq] at H
 obtain ⟨rfl, rfl, rfl⟩ := H
 go_enter Try.func78, Try.ntmps78
 go_wp2_with (first | ((with_reducible refine gate_dst (N := 0) rfl ?_); refine box_event ?hg (N := 0) ?hd (cs := #[.int .i64 0, .int .i64 0, .bool false]) (t := 25) ?hr ?_; (case hd => rfl); (case hg => rfl); (case hr => first | (go_simp; done) | (go_simp; rfl)); intro gb119 hg w1 hbox hb; have BK119 := Aside0.mk (hbox); have GW119 := bG HB hg; have GE119 := bG HB hg; replace HB := bS HB hb; clear hb hbox hg; have hcz2_0 : w1.cell? ⟨gb119, 0, none⟩ = some (.int .i64 0) := bc BK119 0; have hcz2_1 : w1.cell? ⟨gb119, 1, none⟩ = some (.int .i64 0) := bc BK119 1; have hcz2_2 : w1.cell? ⟨gb119, 2, none⟩ = some (.bool false) := bc BK119 2; have hfz2_0 := blk_frozen BK119.out 0; have hfz2_1 := blk_frozen BK119.out 1; have hfz2_2 := blk_frozen BK119.out 2))
 refine bodyPost_ret (results_cell_row rfl _ _ gb119 25 #[.int .i64 0, .int .i64 0, .bool true] (0, 0) _ rfl (by (with_reducible repeat (first | refine blk_drewN ?_ _ | refine blk_drew ?_ | refine blk_alloc ?_ _)); refine blk_put (cs := #[.int .i64 0, .int .i64 0, .bool false]) ?_ 2 _ rfl; (with_reducible repeat (first | refine blk_drewN ?_ _ | refine blk_drew ?_ | refine blk_alloc ?_ _)); refine blk_put (cs := #[.int .i64 0, .int .i64 0, .bool false]) ?_ 1 _ rfl; (with_reducible repeat (first | refine blk_drewN ?_ _ | refine blk_drew ?_ | refine blk_alloc ?_ _)); refine blk_put (cs := #[.int .i64 0, .int .i64 0, .bool false]) ?_ 0 _ rfl; (with_reducible repeat (first | refine blk_drewN ?_ _ | refine blk_drew ?_ | refine blk_alloc ?_ _)); exact BK119.out) Try.underlying25 rfl (by kernel_rfl)) rfl ?_
 exact ⟨by first | rfl | (simp [errW_none, errW_some] <;> rfl) | (simp [*, errW_none, errW_some] <;> rfl), bZ HB⟩
/-! ### spec_l07Add: function 80 -/
def spec_l07Add.f (k : Nat) (a0_0 : Int) (a0_1 : Int) (a0_2 : Bool) (a1_0 : Int) (a1_1 : Int) (a1_2 : Bool) : Option (Int × Int × Bool) := if a0_2 = true then (some (a1_0, a1_1, a1_2)) else (if a1_2 = true then (some (a0_0, a0_1, a0_2)) else ((spec_l07Slope.f k a0_0 a0_1 a0_2 a1_0 a1_1 a1_2).bind fun bt150 => (if bt150.2 = true then ((spec_FpMul.f bt150.1 bt150.1).bind fun t155 => ((spec_FpSub.f t155 a0_0).bind fun t156 => ((spec_FpSub.f t156 a1_0).bind fun t157 => ((spec_FpSub.f a0_0 t157).bind fun t158 => ((spec_FpMul.f bt150.1 t158).bind fun t159 => ((spec_FpSub.f t159 a0_1).bind fun t160 => (some (t157, t160, false)))))))) else ((spec_l07Zero.f).bind fun bt152 => (some (bt152.1, bt152.2.1, bt152.2.2))))))
theorem spec_l07Add.mono : ∀ a0 a1 a2 a3 a4 a5 k, LeO (spec_l07Add.f k a0 a1 a2 a3 a4 a5) (spec_l07Add.f (k + 1) a0 a1 a2 a3 a4 a5) := by
 intro a0 a1 a2 a3 a4 a5 k
 unfold spec_l07Add.f
 repeat' first
   | (with_reducible exact spec_l07Slope.mono _ _ _ _ _ _ _)
   | (with_reducible exact LeO.refl _)
   | (with_reducible exact LeO.none _)
   | (with_reducible refine LeO.ite ?_ ?_)
   | (with_reducible refine LeO.bind ?_ (fun _ => ?_))
   | exact spec_l07Slope.mono _ _ _ _ _ _ _
   | exact LeO.none _
   | refine LeO.ite ?_ ?_
   | refine LeO.bind ?_ (fun _ => ?_)
def spec_l07Add.T8 : Bool × List (List Nat × List Nat) := (true, [([], []), ([], []), ([0, 1], [0, 1]), ([], []), ([3], [3]), ([2, 4, 2], [2, 4]), ([], []), ([6], [6]), ([5, 7, 5], [5, 7]), ([8, 8, 0, 1, 2, 3, 4, 5, 6, 7, 8], [8])])
def spec_l07Add.B8 : List Nat := [0, 0, 3, 0, 8, 31, 0, 64, 255, 511]
theorem spec_l07Add.tab8 : rtab .any (opsOf Try.f80 8) = spec_l07Add.T8 := by kernel_rfl
theorem spec_l07Add.bits8 : waitsOk spec_l07Add.T8.2 spec_l07Add.B8 = true := by kernel_rfl
def spec_l07Add.T9 : Bool × List (List Nat × List Nat) := (true, [([], []), ([], []), ([], []), ([2], [2]), ([], []), ([3, 4], [3, 4]), ([1, 5, 5], [1, 5]), ([], []), ([7], [7]), ([6, 8, 6], [6, 8]), ([0, 9], [0, 9]), ([10, 9, 0, 1, 2, 3, 4, 5, 6, 7, 8, 9, 10], [10])])
def spec_l07Add.B9 : List Nat := [0, 0, 0, 4, 0, 28, 62, 0, 128, 510, 1023, 2047]
theorem spec_l07Add.tab9 : rtab .any (opsOf Try.f80 9) = spec_l07Add.T9 := by kernel_rfl
theorem spec_l07Add.bits9 : waitsOk spec_l07Add.T9.2 spec_l07Add.B9 = true := by kernel_rfl
set_option maxHeartbeats 8000000 in
set_option maxRecDepth 100000 in
theorem spec_l07Add.calls (k : Nat) (a0_0 : Int) (a0_1 : Int) (a0_2 : Bool) (a1_0 : Int) (a1_1 : Int) (a1_2 : Bool) (r1 : Int) (r2 : Int) (r3 : Bool) (w : World) (h : spec_l07Add.f k a0_0 a0_1 a0_2 a1_0 a1_1 a1_2 = some (r1, r2, r3)) :
  Calls Try.prog 80 #[.agg #[.int .i64 a0_0, .int .i64 a0_1, .bool a0_2], .agg #[.int .i64 a1_0, .int .i64 a1_1, .bool a1_2]] w fun e w' => e = .returned (.agg #[.int .i64 r1, .int .i64 r2, .bool r3]) ∧ Below w.heap.size w w' := by
 have hu25 := Try.underlying25
 have HB := Aside0.mk (Below.refl w.heap.size w)
 have H : (if a0_2 = true then (some (a1_0, a1_1, a1_2)) else (if a1_2 = true then (some (a0_0, a0_1, a0_2)) else ((spec_l07Slope.f k a0_0 a0_1 a0_2 a1_0 a1_1 a1_2).bind fun bt150 => (if bt150.2 = true then ((spec_FpMul.f bt150.1 bt150.1).bind fun t155 => ((spec_FpSub.f t155 a0_0).bind fun t156 => ((spec_FpSub.f t156 a1_0).bind fun t157 => ((spec_FpSub.f a0_0 t157).bind fun t158 => ((spec_FpMul.f bt150.1 t158).bind fun t159 => ((spec_FpSub.f t159 a0_1).bind fun t160 => (some (t157, t160, false)))))))) else ((spec_l07Zero.f).bind fun bt152 => (some (bt152.1, bt152.2.1, bt152.2.2))))))) = some (r1, r2, r3) := h
 clear h
 by_cases c3 : a0_2 = true
 ·subst c3
  have H1 : (some (a1_0, a1_1, a1_2)) = some (r1, r2, r3) := by rw [if_pos rfl] at H; exact H
  clear H
  have H := H1
  clear H1
  simp only [Option.some.injEq, Prod.mk.injEq] at H
  obtain ⟨rfl, rfl, rfl⟩ := H
  go_enter Try.func80, Try.ntmps80
  go_wp2_with (first | ((with_reducible refine gate_dst (N := 2) rfl ?_); refine box_event ?hg (N := 2) ?hd (cs := #[.int .i64 a0_0, .int .i64 a0_1, .bool true]) (t := 25) ?hr ?_; (case hd => rfl); (case hg => rfl); (case hr => first | (go_simp; done) | (go_simp; rfl)); intro gb147 hg w4 hbox hb; have BK147 := Aside0.mk (hbox); have GW147 := bG HB hg; have GE147 := bG HB hg; replace HB := bS HB hb; clear hb hbox hg) | ((with_reducible refine gate_dst (N := 3) rfl ?_); refine box_event ?hg (N := 3) ?hd (cs := #[.int .i64 a1_0, .int .i64 a1_1, .bool a1_2]) (t := 25) ?hr ?_; (case hd => rfl); (case hg => rfl); (case hr => first | (go_simp; done) | (go_simp; rfl)); intro gb148 hg w5 hbox hb; have BK148 := Aside0.mk (hbox); have GW148 := bG HB hg; have GE148 := bG HB hg; replace HB := bS HB hb; have NB147_148 := bL BK147 hg; have NB148_147 := bR BK147 hg; replace BK147 := bB BK147 hb; clear hb hbox hg) | ((with_reducible refine gate_dst (N := 4) rfl ?_); refine box_event ?hg (N := 4) ?hd (cs := #[.int .i64 0, .int .i64 0, .bool false]) (t := 25) ?hr ?_; (case hd => rfl); (case hg => rfl); (case hr => first | (go_simp; done) | (go_simp; rfl)); intro gb149 hg w6 hbox hb; have BK149 := Aside0.mk (hbox); have GW149 := bG HB hg; have GE149 := bG HB hg; replace HB := bS HB hb; have NB147_149 := bL BK147 hg; have NB149_147 := bR BK147 hg; replace BK147 := bB BK147 hb; have NB148_149 := bL BK148 hg; have NB149_148 := bR BK148 hg; replace BK148 := bB BK148 hb; clear hb hbox hg; have hnb7 := NB147_148.out; have hnc7 := NB148_147.out; have hnb8 := NB147_149.out; have hnc8 := NB149_147.out; have hcz9_0 : w6.cell? ⟨gb147, 0, none⟩ = some (.int .i64 a0_0) := bc BK147 0; have hcz9_1 : w6.cell? ⟨gb147, 1, none⟩ = some (.int .i64 a0_1) := bc BK147 1; have hcz9_2 : w6.cell? ⟨gb147, 2, none⟩ = some (.bool true) := bc BK147 2; have hfz9_0 := blk_frozen BK147.out 0; have hfz9_1 := blk_frozen BK147.out 1; have hfz9_2 := blk_frozen BK147.out 2; have hnb10 := NB148_149.out; have hnc10 := NB149_148.out; have hcz11_0 : w6.cell? ⟨gb148, 0, none⟩ = some (.int .i64 a1_0) := bc BK148 0; have hcz11_1 : w6.cell? ⟨gb148, 1, none⟩ = some (.int .i64 a1_1) := bc BK148 1; have hcz11_2 : w6.cell? ⟨gb148, 2, none⟩ = some (.bool a1_2) := bc BK148 2; have hfz11_0 := blk_frozen BK148.out 0; have hfz11_1 := blk_frozen BK148.out 1; have hfz11_2 := blk_frozen BK148.out 2; have hcz12_0 : w6.cell? ⟨gb149, 0, none⟩ = some (.int .i64 0) := bc BK149 0; have hcz12_1 : w6.cell? ⟨gb149, 1, none⟩ = some (.int .i64 0) := bc BK149 1; have hcz12_2 : w6.cell? ⟨gb149, 2, none⟩ = some (.bool false) := bc BK149 2; have hfz12_0 := blk_frozen BK149.out 0; have hfz12_1 := blk_frozen BK149.out 1; have hfz12_2 := blk_frozen BK149.out 2))
  refine bodyPost_ret (results_cell_row rfl _ _ gb149 25 #[.int .i64 a1_0, .int .i64 a1_1, .bool a1_2] (0, 0) _ rfl (by (with_reducible repeat (first | refine blk_drewN ?_ _ | refine blk_drew ?_ | refine blk_alloc ?_ _)); refine blk_put (cs := #[.int .i64 a1_0, .int .i64 a1_1, .bool false]) ?_ 2 _ rfl; (with_reducible repeat (first | refine blk_drewN ?_ _ | refine blk_drew ?_ | refine blk_alloc ?_ _)); refine blk_put (cs := #[.int .i64 a1_0, .int .i64 0, .bool false]) ?_ 1 _ rfl; (with_reducible repeat (first | refine blk_drewN ?_ _ | refine blk_drew ?_ | refine blk_alloc ?_ _)); refine blk_put (cs := #[.int .i64 0, .int .i64 0, .bool false]) ?_ 0 _ rfl; (with_reducible repeat (first | refine blk_drewN ?_ _ | refine blk_drew ?_ | refine blk_alloc ?_ _)); exact BK149.out) Try.underlying25 rfl (by kernel_rfl)) rfl ?_
  exact ⟨by first | rfl | (simp [errW_none, errW_some] <;> rfl) | (simp [*, errW_none, errW_some] <;> rfl), bZ HB⟩
 ·replace c3 := Bool.eq_false_iff.mpr c3
  subst c3
  have H1 : (if a1_2 = true then (some (a0_0, a0_1, false)) else ((spec_l07Slope.f k a0_0 a0_1 false a1_0 a1_1 a1_2).bind fun bt150 => (if bt150.2 = true then ((spec_FpMul.f bt150.1 bt150.1).bind fun t155 => ((spec_FpSub.f t155 a0_0).bind fun t156 => ((spec_FpSub.f t156 a1_0).bind fun t157 => ((spec_FpSub.f a0_0 t157).bind fun t158 => ((spec_FpMul.f bt150.1 t158).bind fun t159 => ((spec_FpSub.f t159 a0_1).bind fun t160 => (some (t157, t160, false)))))))) else ((spec_l07Zero.f).bind fun bt152 => (some (bt152.1, bt152.2.1, bt152.2.2)))))) = some (r1, r2, r3) := by rw [if_neg (show ¬ (false = true) by decide)] at H; exact H
  clear H
  have H := H1
  clear H1
  by_cases c13 : a1_2 = true
  ·subst c13
   have H1 : (some (a0_0, a0_1, false)) = some (r1, r2, r3) := by rw [if_pos rfl] at H; exact H
   clear H
   have H := H1
   clear H1
   simp only [Option.some.injEq, Prod.mk.injEq] at H
   obtain ⟨rfl, rfl, rfl⟩ := H
   go_enter Try.func80, Try.ntmps80
   go_wp2_with (first | ((with_reducible refine gate_dst (N := 2) rfl ?_); refine box_event ?hg (N := 2) ?hd (cs := #[.int .i64 a0_0, .int .i64 a0_1, .bool false]) (t := 25) ?hr ?_; (case hd => rfl); (case hg => rfl); (case hr => first | (go_simp; done) | (go_simp; rfl)); intro gb147 hg w14 hbox hb; have BK147 := Aside0.mk (hbox); have GW147 := bG HB hg; have GE147 := bG HB hg; replace HB := bS HB hb; clear hb hbox hg) | ((with_reducible refine gate_dst (N := 3) rfl ?_); refine box_event ?hg (N := 3) ?hd (cs := #[.int .i64 a1_0, .int .i64 a1_1, .bool true]) (t := 25) ?hr ?_; (case hd => rfl); (case hg => rfl); (case hr => first | (go_simp; done) | (go_simp; rfl)); intro gb148 hg w15 hbox hb; have BK148 := Aside0.mk (hbox); have GW148 := bG HB hg; have GE148 := bG HB hg; replace HB := bS HB hb; have NB147_148 := bL BK147 hg; have NB148_147 := bR BK147 hg; replace BK147 := bB BK147 hb; clear hb hbox hg) | ((with_reducible refine gate_dst (N := 4) rfl ?_); refine box_event ?hg (N := 4) ?hd (cs := #[.int .i64 0, .int .i64 0, .bool false]) (t := 25) ?hr ?_; (case hd => rfl); (case hg => rfl); (case hr => first | (go_simp; done) | (go_simp; rfl)); intro gb149 hg w16 hbox hb; have BK149 := Aside0.mk (hbox); have GW149 := bG HB hg; have GE149 := bG HB hg; replace HB := bS HB hb; have NB147_149 := bL BK147 hg; have NB149_147 := bR BK147 hg; replace BK147 := bB BK147 hb; have NB148_149 := bL BK148 hg; have NB149_148 := bR BK148 hg; replace BK148 := bB BK148 hb; clear hb hbox hg; have hnb17 := NB147_148.out; have hnc17 := NB148_147.out; have hnb18 := NB147_149.out; have hnc18 := NB149_147.out; have hcz19_0 : w16.cell? ⟨gb147, 0, none⟩ = some (.int .i64 a0_0) := bc BK147 0; have hcz19_1 : w16.cell? ⟨gb147, 1, none⟩ = some (.int .i64 a0_1) := bc BK147 1; have hcz19_2 : w16.cell? ⟨gb147, 2, none⟩ = some (.bool false) := bc BK147 2; have hfz19_0 := blk_frozen BK147.out 0; have hfz19_1 := blk_frozen BK147.out 1; have hfz19_2 := blk_frozen BK147.out 2; have hnb20 := NB148_149.out; have hnc20 := NB149_148.out; have hcz21_0 : w16.cell? ⟨gb148, 0, none⟩ = some (.int .i64 a1_0) := bc BK148 0; have hcz21_1 : w16.cell? ⟨gb148, 1, none⟩ = some (.int .i64 a1_1) := bc BK148 1; have hcz21_2 : w16.cell? ⟨gb148, 2, none⟩ = some (.bool true) := bc BK148 2; have hfz21_0 := blk_frozen BK148.out 0; have hfz21_1 := blk_frozen BK148.out 1; have hfz21_2 := blk_frozen BK148.out 2; have hcz22_0 : w16.cell? ⟨gb149, 0, none⟩ = some (.int .i64 0) := bc BK149 0; have hcz22_1 : w16.cell? ⟨gb149, 1, none⟩ = some (.int .i64 0) := bc BK149 1; have hcz22_2 : w16.cell? ⟨gb149, 2, none⟩ = some (.bool false) := bc BK149 2; have hfz22_0 := blk_frozen BK149.out 0; have hfz22_1 := blk_frozen BK149.out 1; have hfz22_2 := blk_frozen BK149.out 2))
   refine bodyPost_ret (results_cell_row rfl _ _ gb149 25 #[.int .i64 a0_0, .int .i64 a0_1, .bool false] (0, 0) _ rfl (by (with_reducible repeat (first | refine blk_drewN ?_ _ | refine blk_drew ?_ | refine blk_alloc ?_ _)); refine blk_put (cs := #[.int .i64 a0_0, .int .i64 a0_1, .bool false]) ?_ 2 _ rfl; (with_reducible repeat (first | refine blk_drewN ?_ _ | refine blk_drew ?_ | refine blk_alloc ?_ _)); refine blk_put (cs := #[.int .i64 a0_0, .int .i64 0, .bool false]) ?_ 1 _ rfl; (with_reducible repeat (first | refine blk_drewN ?_ _ | refine blk_drew ?_ | refine blk_alloc ?_ _)); refine blk_put (cs := #[.int .i64 0, .int .i64 0, .bool false]) ?_ 0 _ rfl; (with_reducible repeat (first | refine blk_drewN ?_ _ | refine blk_drew ?_ | refine blk_alloc ?_ _)); exact BK149.out) Try.underlying25 rfl (by kernel_rfl)) rfl ?_
   exact ⟨by first | rfl | (simp [errW_none, errW_some] <;> rfl) | (simp [*, errW_none, errW_some] <;> rfl), bZ HB⟩
  ·replace c13 := Bool.eq_false_iff.mpr c13
   subst c13
   have H1 : ((spec_l07Slope.f k a0_0 a0_1 false a1_0 a1_1 false).bind fun bt150 => (if bt150.2 = true then ((spec_FpMul.f bt150.1 bt150.1).bind fun t155 => ((spec_FpSub.f t155 a0_0).bind fun t156 => ((spec_FpSub.f t156 a1_0).bind fun t157 => ((spec_FpSub.f a0_0 t157).bind fun t158 => ((spec_FpMul.f bt150.1 t158).bind fun t159 => ((spec_FpSub.f t159 a0_1).bind fun t160 => (some (t157, t160, false)))))))) else ((spec_l07Zero.f).bind fun bt152 => (some (bt152.1, bt152.2.1, bt152.2.2))))) = some (r1, r2, r3) := by rw [if_neg (show ¬ (false = true) by decide)] at H; exact H
   clear H
   have H := H1
   clear H1
   replace H := Option.bind_eq_some_iff.mp H
   obtain ⟨⟨t150, t151⟩, A230, H⟩ := H
   replace H : (if t151 = true then ((spec_FpMul.f t150 t150).bind fun t155 => ((spec_FpSub.f t155 a0_0).bind fun t156 => ((spec_FpSub.f t156 a1_0).bind fun t157 => ((spec_FpSub.f a0_0 t157).bind fun t158 => ((spec_FpMul.f t150 t158).bind fun t159 => ((spec_FpSub.f t159 a0_1).bind fun t160 => (some (t157, t160, false)))))))) else ((spec_l07Zero.f).bind fun bt152 => (some (bt152.1, bt152.2.1, bt152.2.2)))) = some (r1, r2, r3) := H
   have A23 := Aside0.mk A230
   clear A230
   by_cases c24 : t151 = true
   ·subst c24
    have H1 : ((spec_FpMul.f t150 t150).bind fun t155 => ((spec_FpSub.f t155 a0_0).bind fun t156 => ((spec_FpSub.f t156 a1_0).bind fun t157 => ((spec_FpSub.f a0_0 t157).bind fun t158 => ((spec_FpMul.f t150 t158).bind fun t159 => ((spec_FpSub.f t159 a0_1).bind fun t160 => (some (t157, t160, false)))))))) = some (r1, r2, r3) := by rw [if_pos rfl] at H; exact H
    clear H
    have H := H1
    clear H1
    replace H := Option.bind_eq_some_iff.mp H
    obtain ⟨t155, A250, H⟩ := H
    replace H : ((spec_FpSub.f t155 a0_0).bind fun t156 => ((spec_FpSub.f t156 a1_0).bind fun t157 => ((spec_FpSub.f a0_0 t157).bind fun t158 => ((spec_FpMul.f t150 t158).bind fun t159 => ((spec_FpSub.f t159 a0_1).bind fun t160 => (some (t157, t160, false))))))) = some (r1, r2, r3) := H
    have A25 := Aside0.mk A250
    clear A250
    replace H := Option.bind_eq_some_iff.mp H
    obtain ⟨t156, A260, H⟩ := H
    replace H : ((spec_FpSub.f t156 a1_0).bind fun t157 => ((spec_FpSub.f a0_0 t157).bind fun t158 => ((spec_FpMul.f t150 t158).bind fun t159 => ((spec_FpSub.f t159 a0_1).bind fun t160 => (some (t157, t160, false)))))) = some (r1, r2, r3) := H
    have A26 := Aside0.mk A260
    clear A260
    replace H := Option.bind_eq_some_iff.mp H
    obtain ⟨t157, A270, H⟩ := H
    replace H : ((spec_FpSub.f a0_0 t157).bind fun t158 => ((spec_FpMul.f t150 t158).bind fun t159 => ((spec_FpSub.f t159 a0_1).bind fun t160 => (some (t157, t160, false))))) = some (r1, r2, r3) := H
    have A27 := Aside0.mk A270
    clear A270
    replace H := Option.bind_eq_some_iff.mp H
    obtain ⟨t158, A280, H⟩ := H
    replace H : ((spec_FpMul.f t150 t158).bind fun t159 => ((spec_FpSub.f t159 a0_1).bind fun t160 => (some (t157, t160, false)))) = some (r1, r2, r3) := H
    have A28 := Aside0.mk A280
    clear A280
    replace H := Option.bind_eq_some_iff.mp H
    obtain ⟨t159, A290, H⟩ := H
    replace H : ((spec_FpSub.f t159 a0_1).bind fun t160 => (some (t157, t160, false))) = some (r1, r2, r3) := H
    have A29 := Aside0.mk A290
    clear A290
    replace H := Option.bind_eq_some_iff.mp H
    obtain ⟨t160, A300, H⟩ := H
    replace H : (some (t157, t160, false)) = some (r1, r2, r3) := H
    have A30 := Aside0.mk A300
    clear A300
    simp only [Option.some.injEq, Prod.mk.injEq] at H
    obtain ⟨rfl, rfl, rfl⟩ := H
    go_enter Try.func80, Try.ntmps80
    try go_wp2_with (first | ((with_reducible refine gate_dst (N := 2) rfl ?_); refine box_event ?hg (N := 2) ?hd (cs := #[.int .i64 a0_0, .int .i64 a0_1, .bool false]) (t := 25) ?hr ?_; (case hd => rfl); (case hg => rfl); (case hr => first | (go_simp; done) | (go_simp; rfl)); intro gb147 hg w31 hbox hb; have BK147 := Aside0.mk (hbox); have GW147 := bG HB hg; have GE147 := bG HB hg; replace HB := bS HB hb; clear hb hbox hg) | ((with_reducible refine gate_dst (N := 3) rfl ?_); refine box_event ?hg (N := 3) ?hd (cs := #[.int .i64 a1_0, .int .i64 a1_1, .bool false]) (t := 25) ?hr ?_; (case hd => rfl); (case hg => rfl); (case hr => first | (go_simp; done) | (go_simp; rfl)); intro gb148 hg w32 hbox hb; have BK148 := Aside0.mk (hbox); have GW148 := bG HB hg; have GE148 := bG HB hg; replace HB := bS HB hb; have NB147_148 := bL BK147 hg; have NB148_147 := bR BK147 hg; replace BK147 := bB BK147 hb; clear hb hbox hg) | ((with_reducible refine gate_dst (N := 4) rfl ?_); refine box_event ?hg (N := 4) ?hd (cs := #[.int .i64 0, .int .i64 0, .bool false]) (t := 25) ?hr ?_; (case hd => rfl); (case hg => rfl); (case hr => first | (go_simp; done) | (go_simp; rfl)); intro gb149 hg w33 hbox hb; have BK149 := Aside0.mk (hbox); have GW149 := bG HB hg; have GE149 := bG HB hg; replace HB := bS HB hb; have NB147_149 := bL BK147 hg; have NB149_147 := bR BK147 hg; replace BK147 := bB BK147 hb; have NB148_149 := bL BK148 hg; have NB149_148 := bR BK148 hg; replace BK148 := bB BK148 hb; clear hb hbox hg; have hnb34 := NB147_148.out; have hnc34 := NB148_147.out; have hnb35 := NB147_149.out; have hnc35 := NB149_147.out; have hcz36_0 : w33.cell? ⟨gb147, 0, none⟩ = some (.int .i64 a0_0) := bc BK147 0; have hcz36_1 : w33.cell? ⟨gb147, 1, none⟩ = some (.int .i64 a0_1) := bc BK147 1; have hcz36_2 : w33.cell? ⟨gb147, 2, none⟩ = some (.bool false) := bc BK147 2; have hfz36_0 := blk_frozen BK147.out 0; have hfz36_1 := blk_frozen BK147.out 1; have hfz36_2 := blk_frozen BK147.out 2; have hnb37 := NB148_149.out; have hnc37 := NB149_148.out; have hcz38_0 : w33.cell? ⟨gb148, 0, none⟩ = some (.int .i64 a1_0) := bc BK148 0; have hcz38_1 : w33.cell? ⟨gb148, 1, none⟩ = some (.int .i64 a1_1) := bc BK148 1; have hcz38_2 : w33.cell? ⟨gb148, 2, none⟩ = some (.bool false) := bc BK148 2; have hfz38_0 := blk_frozen BK148.out 0; have hfz38_1 := blk_frozen BK148.out 1; have hfz38_2 := blk_frozen BK148.out 2) | ((with_reducible refine gate_callee (f := 74) rfl ?_); refine goesL_ (some 17) rfl rfl Try.func74 (by kernel_rfl) rfl #[.agg #[.int .i64 a0_0, .int .i64 a0_1, .bool false], .agg #[.int .i64 a1_0, .int .i64 a1_1, .bool false]] rfl (by (try simp only [List.map_toArray, List.map_cons, List.map_nil]); first | done | rfl | (simp only [List.length_drop, List.length_take]; rfl)) ?_; (with_reducible refine (spec_l07Slope.calls k a0_0 a0_1 false a1_0 a1_1 false t150 true _ A23.out).mono ?_); rintro e w39 ⟨rfl, hb⟩; refine ⟨_, rfl, ?_⟩; replace BK147 := bB BK147 hb; replace BK148 := bB BK148 hb; replace BK149 := bB BK149 hb; replace HB := bS HB hb; (try clear hb); (try clear hb2); (try clear hk); (try clear hi)))
    replace BK147 := Aside0.mk (blk_drew BK147.out)
    replace BK148 := Aside0.mk (blk_drew BK148.out)
    replace BK149 := Aside0.mk (blk_drew BK149.out)
    replace HB := Aside0.mk (below_drew1 HB.out)
    refine start_ (n := 10) (S := fun w' => w'.cell? ⟨gb147, 0, none⟩ = some (.int .i64 a0_0) ∧ w'.cell? ⟨gb147, 1, none⟩ = some (.int .i64 a0_1) ∧ w'.cell? ⟨gb147, 2, none⟩ = some (.bool false) ∧ w'.cell? ⟨gb148, 0, none⟩ = some (.int .i64 a1_0) ∧ w'.cell? ⟨gb148, 1, none⟩ = some (.int .i64 a1_1) ∧ w'.cell? ⟨gb148, 2, none⟩ = some (.bool false)) (ds := []) #[false, false, false, false, false, false, false, false, false, false] (by kernel_rfl) rfl rfl ⟨bc BK147 0, bc BK147 1, bc BK147 2, bc BK148 0, bc BK148 1, bc BK148 2⟩ (fun hHeld => ?_); refine with_tabW spec_l07Add.tab8 spec_l07Add.bits8 (fun HT_ HW_ => ?_)
    generalize w39.drew = w40 at BK147 BK148 BK149 HB hHeld ⊢
    refine pure_ (i := 0) (N := some 23) (v := ?_) (a' := ?_) #[true, false, false, false, false, false, false, false, false, false] rfl rfl (any_of HT_.out (by kernel_rfl)) (fun _ _ _ h => h) (Or.inl ⟨by rfl, ?_⟩) ?_ ?_
    rotate_left
    ·intro w'
     go_simp
     with_reducible rfl
    rotate_left
    ·simp only [Act.put, List.setIfInBounds_toArray, List.set_cons_zero, List.set_cons_succ, i64_w, i32_w]
     rfl
    refine pure_ (i := 1) (N := some 24) (v := ?_) (a' := ?_) #[true, true, false, false, false, false, false, false, false, false] rfl rfl (any_of HT_.out (by kernel_rfl)) (fun _ _ _ h => h) (Or.inl ⟨by rfl, ?_⟩) ?_ ?_
    rotate_left
    ·intro w'
     go_simp
     with_reducible rfl
    rotate_left
    ·simp only [Act.put, List.setIfInBounds_toArray, List.set_cons_zero, List.set_cons_succ, i64_w, i32_w]
     rfl
    refine pure_ (i := 3) (N := some 26) (v := ?_) (a' := ?_) #[true, true, false, true, false, false, false, false, false, false] rfl rfl (any_of HT_.out (by kernel_rfl)) (fun _ _ _ h => h) (Or.inl ⟨by rfl, ?_⟩) ?_ ?_
    rotate_left
    ·intro w'
     go_simp
     with_reducible rfl
    rotate_left
    ·simp only [Act.put, List.setIfInBounds_toArray, List.set_cons_zero, List.set_cons_succ, i64_w, i32_w]
     rfl
    refine pure_ (i := 6) (N := some 29) (v := ?_) (a' := ?_) #[true, true, false, true, false, false, true, false, false, false] rfl rfl (any_of HT_.out (by kernel_rfl)) (fun _ _ _ h => h) (Or.inl ⟨by rfl, ?_⟩) ?_ ?_
    rotate_left
    ·intro w'
     go_simp
     with_reducible rfl
    rotate_left
    ·simp only [Act.put, List.setIfInBounds_toArray, List.set_cons_zero, List.set_cons_succ, i64_w, i32_w]
     rfl
    refine take_ (i := 4) (N := some 27) (v := ?_) (a' := ?_) #[true, true, false, true, true, false, true, false, false, false] rfl rfl (take_ofW HT_.out HW_.out (by kernel_rfl)) (fun _ _ _ h => h) (Or.inl ⟨by rfl, ?_⟩) hHeld ?_ ?_
    rotate_left
    ·rintro w' ⟨s0, s1, s2, s3, s4, s5⟩
     go_simp
     with_reducible rfl
    rotate_left
    ·simp only [Act.put, List.setIfInBounds_toArray, List.set_cons_zero, List.set_cons_succ, i64_w, i32_w]
     rfl
    refine take_ (i := 7) (N := some 30) (v := ?_) (a' := ?_) #[true, true, false, true, true, false, true, true, false, false] rfl rfl (take_ofW HT_.out HW_.out (by kernel_rfl)) (fun _ _ _ h => h) (Or.inl ⟨by rfl, ?_⟩) hHeld ?_ ?_
    rotate_left
    ·rintro w' ⟨s0, s1, s2, s3, s4, s5⟩
     go_simp
     with_reducible rfl
    rotate_left
    ·simp only [Act.put, List.setIfInBounds_toArray, List.set_cons_zero, List.set_cons_succ, i64_w, i32_w]
     rfl
    refine one_ (i := 2) (N := some 25) #[true, true, true, true, true, false, true, true, false, false] rfl rfl (one_of HT_.out (by kernel_rfl)) (by decide) (fun K hK => ?_)
    refine goes_ Try.func76 (by kernel_rfl) rfl #[.int .i64 t150, .int .i64 t150] (by rfl) rfl rfl (by (try simp only [List.map_toArray, List.map_cons, List.map_nil]); first | done | rfl | (simp only [List.length_drop, List.length_take]; rfl)) ?_
    with_reducible refine (spec_FpMul.calls t150 t150 t155 _ A25.out).mono ?_
    rintro e w' ⟨rfl, ⟨nd, rfl⟩⟩
    refine ⟨_, rfl, ?_⟩
    refine hK.out _ _ ⟨bc BK147 0, bc BK147 1, bc BK147 2, bc BK148 0, bc BK148 1, bc BK148 2⟩ (fun hHeld => ?_)
    clear hK K
    refine norm_ (a' := ?_) ?_ ?_
    rotate_left
    ·show Act.put _ (some 25) _ = _
     simp only [Act.put, List.setIfInBounds_toArray, List.set_cons_zero, List.set_cons_succ, i64_w, i32_w]
     rfl
    refine one_ (i := 5) (N := some 28) #[true, true, true, true, true, true, true, true, false, false] rfl rfl (one_of HT_.out (by kernel_rfl)) (by decide) (fun K hK => ?_)
    refine goes_ Try.func75 (by kernel_rfl) rfl #[.int .i64 t155, .int .i64 a0_0] (by rfl) rfl rfl (by (try simp only [List.map_toArray, List.map_cons, List.map_nil]); first | done | rfl | (simp only [List.length_drop, List.length_take]; rfl)) ?_
    with_reducible refine (spec_FpSub.calls t155 a0_0 t156 _ A26.out).mono ?_
    rintro e w' ⟨rfl, ⟨nd, rfl⟩⟩
    refine ⟨_, rfl, ?_⟩
    refine hK.out _ _ ⟨bc BK147 0, bc BK147 1, bc BK147 2, bc BK148 0, bc BK148 1, bc BK148 2⟩ (fun hHeld => ?_)
    clear hK K
    refine norm_ (a' := ?_) ?_ ?_
    rotate_left
    ·show Act.put _ (some 28) _ = _
     simp only [Act.put, List.setIfInBounds_toArray, List.set_cons_zero, List.set_cons_succ, i64_w, i32_w]
     rfl
    refine one_ (i := 8) (N := some 31) #[true, true, true, true, true, true, true, true, true, false] rfl rfl (one_of HT_.out (by kernel_rfl)) (by decide) (fun K hK => ?_)
    refine goes_ Try.func75 (by kernel_rfl) rfl #[.int .i64 t156, .int .i64 a1_0] (by rfl) rfl rfl (by (try simp only [List.map_toArray, List.map_cons, List.map_nil]); first | done | rfl | (simp only [List.length_drop, List.length_take]; rfl)) ?_
    with_reducible refine (spec_FpSub.calls t156 a1_0 t157 _ A27.out).mono ?_
    rintro e w' ⟨rfl, ⟨nd, rfl⟩⟩
    refine ⟨_, rfl, ?_⟩
    refine hK.out _ _ ⟨bc BK147 0, bc BK147 1, bc BK147 2, bc BK148 0, bc BK148 1, bc BK148 2⟩ (fun hHeld => ?_)
    clear hK K
    refine norm_ (a' := ?_) ?_ ?_
    rotate_left
    ·show Act.put _ (some 31) _ = _
     simp only [Act.put, List.setIfInBounds_toArray, List.set_cons_zero, List.set_cons_succ, i64_w, i32_w]
     rfl
    refine pure_ (i := 9) (N := some 7) (v := ?_) (a' := ?_) #[true, true, true, true, true, true, true, true, true, true] rfl rfl (any_of HT_.out (by kernel_rfl)) (fun _ _ _ h => h) (Or.inl ⟨by rfl, ?_⟩) ?_ ?_
    rotate_left
    ·intro w'
     go_simp
     with_reducible rfl
    rotate_left
    ·simp only [Act.put, List.setIfInBounds_toArray, List.set_cons_zero, List.set_cons_succ, i64_w, i32_w]
     rfl
    refine done_ (done_of HT_.out (by kernel_rfl)) ?_
    try go_wp2
    (try simp only [World.drewN_drewN]); (try (rw [drewN_self w40]; generalize hq_ : World.drewN w40 _ = w40; replace BK147 : Aside0 (w40.heap[gb147]? = some (.cells #[.int .i64 a0_0, .int .i64 a0_1, .bool false] 25 (0, 0))) := ⟨by rw [← hq_]; exact (bP BK147)⟩; replace BK148 : Aside0 (w40.heap[gb148]? = some (.cells #[.int .i64 a1_0, .int .i64 a1_1, .bool false] 25 (0, 0))) := ⟨by rw [← hq_]; exact (bP BK148)⟩; replace BK149 : Aside0 (w40.heap[gb149]? = some (.cells #[.int .i64 0, .int .i64 0, .bool false] 25 (0, 0))) := ⟨by rw [← hq_]; exact (bP BK149)⟩; replace HB : Aside0 (Below w.heap.size w w40) := ⟨by rw [← hq_]; exact (bZ HB)⟩; clear hq_))
    replace BK147 := Aside0.mk (blk_drew BK147.out)
    replace BK148 := Aside0.mk (blk_drew BK148.out)
    replace BK149 := Aside0.mk (blk_drew BK149.out)
    replace HB := Aside0.mk (below_drew1 HB.out)
    refine start_ (n := 12) (S := fun w' => w'.cell? ⟨gb147, 0, none⟩ = some (.int .i64 a0_0) ∧ w'.cell? ⟨gb147, 1, none⟩ = some (.int .i64 a0_1) ∧ w'.cell? ⟨gb147, 2, none⟩ = some (.bool false)) (ds := []) #[false, false, false, false, false, false, false, false, false, false, false, false] (by kernel_rfl) rfl rfl ⟨bc BK147 0, bc BK147 1, bc BK147 2⟩ (fun hHeld => ?_); refine with_tabW spec_l07Add.tab9 spec_l07Add.bits9 (fun HT_ HW_ => ?_)
    generalize w40.drew = w41 at BK147 BK148 BK149 HB hHeld ⊢
    refine pure_ (i := 0) (N := some 32) (v := ?_) (a' := ?_) #[true, false, false, false, false, false, false, false, false, false, false, false] rfl rfl (any_of HT_.out (by kernel_rfl)) (fun _ _ _ h => h) (Or.inl ⟨by rfl, ?_⟩) ?_ ?_
    rotate_left
    ·intro w'
     go_simp
     with_reducible rfl
    rotate_left
    ·simp only [Act.put, List.setIfInBounds_toArray, List.set_cons_zero, List.set_cons_succ, i64_w, i32_w]
     rfl
    refine pure_ (i := 1) (N := some 33) (v := ?_) (a' := ?_) #[true, true, false, false, false, false, false, false, false, false, false, false] rfl rfl (any_of HT_.out (by kernel_rfl)) (fun _ _ _ h => h) (Or.inl ⟨by rfl, ?_⟩) ?_ ?_
    rotate_left
    ·intro w'
     go_simp
     with_reducible rfl
    rotate_left
    ·simp only [Act.put, List.setIfInBounds_toArray, List.set_cons_zero, List.set_cons_succ, i64_w, i32_w]
     rfl
    refine pure_ (i := 2) (N := some 34) (v := ?_) (a' := ?_) #[true, true, true, false, false, false, false, false, false, false, false, false] rfl rfl (any_of HT_.out (by kernel_rfl)) (fun _ _ _ h => h) (Or.inl ⟨by rfl, ?_⟩) ?_ ?_
    rotate_left
    ·intro w'
     go_simp
     with_reducible rfl
    rotate_left
    ·simp only [Act.put, List.setIfInBounds_toArray, List.set_cons_zero, List.set_cons_succ, i64_w, i32_w]
     rfl
    refine pure_ (i := 4) (N := some 36) (v := ?_) (a' := ?_) #[true, true, true, false, true, false, false, false, false, false, false, false] rfl rfl (any_of HT_.out (by kernel_rfl)) (fun _ _ _ h => h) (Or.inl ⟨by rfl, ?_⟩) ?_ ?_
    rotate_left
    ·intro w'
     go_simp
     with_reducible rfl
    rotate_left
    ·simp only [Act.put, List.setIfInBounds_toArray, List.set_cons_zero, List.set_cons_succ, i64_w, i32_w]
     rfl
    refine pure_ (i := 7) (N := some 39) (v := ?_) (a' := ?_) #[true, true, true, false, true, false, false, true, false, false, false, false] rfl rfl (any_of HT_.out (by kernel_rfl)) (fun _ _ _ h => h) (Or.inl ⟨by rfl, ?_⟩) ?_ ?_
    rotate_left
    ·intro w'
     go_simp
     with_reducible rfl
    rotate_left
    ·simp only [Act.put, List.setIfInBounds_toArray, List.set_cons_zero, List.set_cons_succ, i64_w, i32_w]
     rfl
    refine take_ (i := 3) (N := some 35) (v := ?_) (a' := ?_) #[true, true, true, true, true, false, false, true, false, false, false, false] rfl rfl (take_ofW HT_.out HW_.out (by kernel_rfl)) (fun _ _ _ h => h) (Or.inl ⟨by rfl, ?_⟩) hHeld ?_ ?_
    rotate_left
    ·rintro w' ⟨s0, s1, s2⟩
     go_simp
     with_reducible rfl
    rotate_left
    ·simp only [Act.put, List.setIfInBounds_toArray, List.set_cons_zero, List.set_cons_succ, i64_w, i32_w]
     rfl
    refine take_ (i := 8) (N := some 40) (v := ?_) (a' := ?_) #[true, true, true, true, true, false, false, true, true, false, false, false] rfl rfl (take_ofW HT_.out HW_.out (by kernel_rfl)) (fun _ _ _ h => h) (Or.inl ⟨by rfl, ?_⟩) hHeld ?_ ?_
    rotate_left
    ·rintro w' ⟨s0, s1, s2⟩
     go_simp
     with_reducible rfl
    rotate_left
    ·simp only [Act.put, List.setIfInBounds_toArray, List.set_cons_zero, List.set_cons_succ, i64_w, i32_w]
     rfl
    refine one_ (i := 5) (N := some 37) #[true, true, true, true, true, true, false, true, true, false, false, false] rfl rfl (one_of HT_.out (by kernel_rfl)) (by decide) (fun K hK => ?_)
    refine goes_ Try.func75 (by kernel_rfl) rfl #[.int .i64 a0_0, .int .i64 t157] (by rfl) rfl rfl (by (try simp only [List.map_toArray, List.map_cons, List.map_nil]); first | done | rfl | (simp only [List.length_drop, List.length_take]; rfl)) ?_
    with_reducible refine (spec_FpSub.calls a0_0 t157 t158 _ A28.out).mono ?_
    rintro e w' ⟨rfl, ⟨nd, rfl⟩⟩
    refine ⟨_, rfl, ?_⟩
    refine hK.out _ _ ⟨bc BK147 0, bc BK147 1, bc BK147 2⟩ (fun hHeld => ?_)
    clear hK K
    refine norm_ (a' := ?_) ?_ ?_
    rotate_left
    ·show Act.put _ (some 37) _ = _
     simp only [Act.put, List.setIfInBounds_toArray, List.set_cons_zero, List.set_cons_succ, i64_w, i32_w]
     rfl
    refine one_ (i := 6) (N := some 38) #[true, true, true, true, true, true, true, true, true, false, false, false] rfl rfl (one_of HT_.out (by kernel_rfl)) (by decide) (fun K hK => ?_)
    refine goes_ Try.func76 (by kernel_rfl) rfl #[.int .i64 t150, .int .i64 t158] (by rfl) rfl rfl (by (try simp only [List.map_toArray, List.map_cons, List.map_nil]); first | done | rfl | (simp only [List.length_drop, List.length_take]; rfl)) ?_
    with_reducible refine (spec_FpMul.calls t150 t158 t159 _ A29.out).mono ?_
    rintro e w' ⟨rfl, ⟨nd, rfl⟩⟩
    refine ⟨_, rfl, ?_⟩
    refine hK.out _ _ ⟨bc BK147 0, bc BK147 1, bc BK147 2⟩ (fun hHeld => ?_)
    clear hK K
    refine norm_ (a' := ?_) ?_ ?_
    rotate_left
    ·show Act.put _ (some 38) _ = _
     simp only [Act.put, List.setIfInBounds_toArray, List.set_cons_zero, List.set_cons_succ, i64_w, i32_w]
     rfl
    refine one_ (i := 9) (N := some 41) #[true, true, true, true, true, true, true, true, true, true, false, false] rfl rfl (one_of HT_.out (by kernel_rfl)) (by decide) (fun K hK => ?_)
    refine goes_ Try.func75 (by kernel_rfl) rfl #[.int .i64 t159, .int .i64 a0_1] (by rfl) rfl rfl (by (try simp only [List.map_toArray, List.map_cons, List.map_nil]); first | done | rfl | (simp only [List.length_drop, List.length_take]; rfl)) ?_
    with_reducible refine (spec_FpSub.calls t159 a0_1 t160 _ A30.out).mono ?_
    rintro e w' ⟨rfl, ⟨nd, rfl⟩⟩
    refine ⟨_, rfl, ?_⟩
    refine hK.out _ _ ⟨bc BK147 0, bc BK147 1, bc BK147 2⟩ (fun hHeld => ?_)
    clear hK K
    refine norm_ (a' := ?_) ?_ ?_
    rotate_left
    ·show Act.put _ (some 41) _ = _
     simp only [Act.put, List.setIfInBounds_toArray, List.set_cons_zero, List.set_cons_succ, i64_w, i32_w]
     rfl
    refine pure_ (i := 10) (N := some 42) (v := ?_) (a' := ?_) #[true, true, true, true, true, true, true, true, true, true, true, false] rfl rfl (any_of HT_.out (by kernel_rfl)) (fun _ _ _ h => h) (Or.inl ⟨by rfl, ?_⟩) ?_ ?_
    rotate_left
    ·intro w'
     go_simp
     with_reducible rfl
    rotate_left
    ·simp only [Act.put, List.setIfInBounds_toArray, List.set_cons_zero, List.set_cons_succ, i64_w, i32_w]
     rfl
    refine one_ (i := 11) (N := none) #[true, true, true, true, true, true, true, true, true, true, true, true] rfl rfl (one_of HT_.out (by kernel_rfl)) (by decide) (fun K hK => ?_)
    have hs42 : w41.cell? ⟨gb149, 0, none⟩ = some (.int .i64 0) := bc BK149 0
    have hfs42 := blk_frozen BK149.out 0
    have hns42_0 := NB147_149.out
    have hns42_1 := NB148_149.out
    have hms42_0 := NB149_147.out
    have hms42_1 := NB149_148.out
    have hs43 : w41.cell? ⟨gb149, 1, none⟩ = some (.int .i64 0) := bc BK149 1
    have hfs43 := blk_frozen BK149.out 1
    have hns43_0 := NB147_149.out
    have hns43_1 := NB148_149.out
    have hms43_0 := NB149_147.out
    have hms43_1 := NB149_148.out
    have hs44 : w41.cell? ⟨gb149, 2, none⟩ = some (.bool false) := bc BK149 2
    have hfs44 := blk_frozen BK149.out 2
    have hns44_0 := NB147_149.out
    have hns44_1 := NB148_149.out
    have hms44_0 := NB149_147.out
    have hms44_1 := NB149_148.out
    refine skip_ (w1 := ?_) (by rfl) rfl ?_ ?_
    rotate_left
    ·go_simp
     rfl
    refine hK.out _ _ ⟨((cell_far (p := ⟨gb149, _, none⟩) NB147_149.out _).trans (((cell_far (p := ⟨gb149, _, none⟩) NB147_149.out _).trans (((cell_far (p := ⟨gb149, _, none⟩) NB147_149.out _).trans (hHeld.1)))))), ((cell_far (p := ⟨gb149, _, none⟩) NB147_149.out _).trans (((cell_far (p := ⟨gb149, _, none⟩) NB147_149.out _).trans (((cell_far (p := ⟨gb149, _, none⟩) NB147_149.out _).trans (hHeld.2.1)))))), ((cell_far (p := ⟨gb149, _, none⟩) NB147_149.out _).trans (((cell_far (p := ⟨gb149, _, none⟩) NB147_149.out _).trans (((cell_far (p := ⟨gb149, _, none⟩) NB147_149.out _).trans (hHeld.2.2))))))⟩ (fun hHeld => ?_)
    clear hK K
    refine done_ (done_of HT_.out (by kernel_rfl)) ?_
    try go_wp2
    refine bodyPost_ret (results_cell_row rfl _ _ gb149 25 #[.int .i64 t157, .int .i64 t160, .bool false] (0, 0) _ rfl (by (with_reducible repeat (first | refine blk_drewN ?_ _ | refine blk_drew ?_ | refine blk_alloc ?_ _)); refine blk_put (cs := #[.int .i64 t157, .int .i64 t160, .bool false]) ?_ 2 _ rfl; (with_reducible repeat (first | refine blk_drewN ?_ _ | refine blk_drew ?_ | refine blk_alloc ?_ _)); refine blk_put (cs := #[.int .i64 t157, .int .i64 0, .bool false]) ?_ 1 _ rfl; (with_reducible repeat (first | refine blk_drewN ?_ _ | refine blk_drew ?_ | refine blk_alloc ?_ _)); refine blk_put (cs := #[.int .i64 0, .int .i64 0, .bool false]) ?_ 0 _ rfl; (with_reducible repeat (first | refine blk_drewN ?_ _ | refine blk_drew ?_ | refine blk_alloc ?_ _)); exact BK149.out) Try.underlying25 rfl (by kernel_rfl)) rfl ?_
    exact ⟨by first | rfl | (simp [errW_none, errW_some] <;> rfl) | (simp [*, errW_none, errW_some] <;> rfl), bZ HB⟩
   ·replace c24 := Bool.eq_false_iff.mpr c24
    subst c24
    have H1 : ((spec_l07Zero.f).bind fun bt152 => (some (bt152.1, bt152.2.1, bt152.2.2))) = some (r1, r2, r3) := by rw [if_neg (show ¬ (false = true) by decide)] at H; exact H
    clear H
    have H := H1
    clear H1
    replace H := Option.bind_eq_some_iff.mp H
    obtain ⟨⟨t152, t153, t154⟩, A450, H⟩ := H
    replace H : (some (t152, t153, t154)) = some (r1, r2, r3) := H
    have A45 := Aside0.mk A450
    clear A450
    simp only [Option.some.injEq, Prod.mk.injEq] at H
    obtain ⟨rfl, rfl, rfl⟩ := H
    go_enter Try.func80, Try.ntmps80
    go_wp2_with (first | ((with_reducible refine gate_dst (N := 2) rfl ?_); refine box_event ?hg (N := 2) ?hd (cs := #[.int .i64 a0_0, .int .i64 a0_1, .bool false]) (t := 25) ?hr ?_; (case hd => rfl); (case hg => rfl); (case hr => first | (go_simp; done) | (go_simp; rfl)); intro gb147 hg w46 hbox hb; have BK147 := Aside0.mk (hbox); have GW147 := bG HB hg; have GE147 := bG HB hg; replace HB := bS HB hb; clear hb hbox hg) | ((with_reducible refine gate_dst (N := 3) rfl ?_); refine box_event ?hg (N := 3) ?hd (cs := #[.int .i64 a1_0, .int .i64 a1_1, .bool false]) (t := 25) ?hr ?_; (case hd => rfl); (case hg => rfl); (case hr => first | (go_simp; done) | (go_simp; rfl)); intro gb148 hg w47 hbox hb; have BK148 := Aside0.mk (hbox); have GW148 := bG HB hg; have GE148 := bG HB hg; replace HB := bS HB hb; have NB147_148 := bL BK147 hg; have NB148_147 := bR BK147 hg; replace BK147 := bB BK147 hb; clear hb hbox hg) | ((with_reducible refine gate_dst (N := 4) rfl ?_); refine box_event ?hg (N := 4) ?hd (cs := #[.int .i64 0, .int .i64 0, .bool false]) (t := 25) ?hr ?_; (case hd => rfl); (case hg => rfl); (case hr => first | (go_simp; done) | (go_simp; rfl)); intro gb149 hg w48 hbox hb; have BK149 := Aside0.mk (hbox); have GW149 := bG HB hg; have GE149 := bG HB hg; replace HB := bS HB hb; have NB147_149 := bL BK147 hg; have NB149_147 := bR BK147 hg; replace BK147 := bB BK147 hb; have NB148_149 := bL BK148 hg; have NB149_148 := bR BK148 hg; replace BK148 := bB BK148 hb; clear hb hbox hg; have hnb49 := NB147_148.out; have hnc49 := NB148_147.out; have hnb50 := NB147_149.out; have hnc50 := NB149_147.out; have hcz51_0 : w48.cell? ⟨gb147, 0, none⟩ = some (.int .i64 a0_0) := bc BK147 0; have hcz51_1 : w48.cell? ⟨gb147, 1, none⟩ = some (.int .i64 a0_1) := bc BK147 1; have hcz51_2 : w48.cell? ⟨gb147, 2, none⟩ = some (.bool false) := bc BK147 2; have hfz51_0 := blk_frozen BK147.out 0; have hfz51_1 := blk_frozen BK147.out 1; have hfz51_2 := blk_frozen BK147.out 2; have hnb52 := NB148_149.out; have hnc52 := NB149_148.out; have hcz53_0 : w48.cell? ⟨gb148, 0, none⟩ = some (.int .i64 a1_0) := bc BK148 0; have hcz53_1 : w48.cell? ⟨gb148, 1, none⟩ = some (.int .i64 a1_1) := bc BK148 1; have hcz53_2 : w48.cell? ⟨gb148, 2, none⟩ = some (.bool false) := bc BK148 2; have hfz53_0 := blk_frozen BK148.out 0; have hfz53_1 := blk_frozen BK148.out 1; have hfz53_2 := blk_frozen BK148.out 2) | ((with_reducible refine gate_callee (f := 74) rfl ?_); refine goesL_ (some 17) rfl rfl Try.func74 (by kernel_rfl) rfl #[.agg #[.int .i64 a0_0, .int .i64 a0_1, .bool false], .agg #[.int .i64 a1_0, .int .i64 a1_1, .bool false]] rfl (by (try simp only [List.map_toArray, List.map_cons, List.map_nil]); first | done | rfl | (simp only [List.length_drop, List.length_take]; rfl)) ?_; (with_reducible refine (spec_l07Slope.calls k a0_0 a0_1 false a1_0 a1_1 false t150 false _ A23.out).mono ?_); rintro e w54 ⟨rfl, hb⟩; refine ⟨_, rfl, ?_⟩; replace BK147 := bB BK147 hb; replace BK148 := bB BK148 hb; replace BK149 := bB BK149 hb; replace HB := bS HB hb; (try clear hb); (try clear hb2); (try clear hk); (try clear hi)) | ((with_reducible refine gate_callee (f := 78) rfl ?_); refine goesL_ (some 22) rfl rfl Try.func78 (by kernel_rfl) rfl #[] rfl (by (try simp only [List.map_toArray, List.map_cons, List.map_nil]); first | done | rfl | (simp only [List.length_drop, List.length_take]; rfl)) ?_; (with_reducible refine (spec_l07Zero.calls  t152 t153 t154 _ A45.out).mono ?_); rintro e w55 ⟨rfl, hb⟩; refine ⟨_, rfl, ?_⟩; replace BK147 := bB BK147 hb; replace BK148 := bB BK148 hb; replace BK149 := bB BK149 hb; replace HB := bS HB hb; (try clear hb); (try clear hb2); (try clear hk); (try clear hi); have hcz56_0 : w55.cell? ⟨gb149, 0, none⟩ = some (.int .i64 0) := bc BK149 0; have hcz56_1 : w55.cell? ⟨gb149, 1, none⟩ = some (.int .i64 0) := bc BK149 1; have hcz56_2 : w55.cell? ⟨gb149, 2, none⟩ = some (.bool false) := bc BK149 2; have hfz56_0 := blk_frozen BK149.out 0; have hfz56_1 := blk_frozen BK149.out 1; have hfz56_2 := blk_frozen BK149.out 2))
    refine bodyPost_ret (results_cell_row rfl _ _ gb149 25 #[.int .i64 t152, .int .i64 t153, .bool t154] (0, 0) _ rfl (by (with_reducible repeat (first | refine blk_drewN ?_ _ | refine blk_drew ?_ | refine blk_alloc ?_ _)); refine blk_put (cs := #[.int .i64 t152, .int .i64 t153, .bool false]) ?_ 2 _ rfl; (with_reducible repeat (first | refine blk_drewN ?_ _ | refine blk_drew ?_ | refine blk_alloc ?_ _)); refine blk_put (cs := #[.int .i64 t152, .int .i64 0, .bool false]) ?_ 1 _ rfl; (with_reducible repeat (first | refine blk_drewN ?_ _ | refine blk_drew ?_ | refine blk_alloc ?_ _)); refine blk_put (cs := #[.int .i64 0, .int .i64 0, .bool false]) ?_ 0 _ rfl; (with_reducible repeat (first | refine blk_drewN ?_ _ | refine blk_drew ?_ | refine blk_alloc ?_ _)); exact BK149.out) Try.underlying25 rfl (by kernel_rfl)) rfl ?_
    exact ⟨by first | rfl | (simp [errW_none, errW_some] <;> rfl) | (simp [*, errW_none, errW_some] <;> rfl), bZ HB⟩
/-! ### spec_PointAdd: function 53 -/
def spec_PointAdd.j0 : Nat → Bool → Int → Int → Bool → Int → Int → Bool → Option (Int × Int × Bool)
 | 0, _, _, _, _, _, _, _ => none
 | k + 1, x12, x432000, x432001, x432002, x433000, x433001, x433002 => if x12 = true then ((spec_l07Zero.f).bind fun bt436 => (some (bt436.1, bt436.2.1, bt436.2.2))) else ((spec_l07Add.f k x432000 x432001 x432002 x433000 x433001 x433002).bind fun bt439 => (some (bt439.1, bt439.2.1, bt439.2.2)))
def spec_PointAdd.f (k : Nat) (a0_0 : Int) (a0_1 : Int) (a0_2 : Bool) (a1_0 : Int) (a1_1 : Int) (a1_2 : Bool) : Option (Int × Int × Bool) := (spec_PointOk.f a0_0 a0_1 a0_2).bind fun t434 => (if t434 = true then ((spec_PointOk.f a1_0 a1_1 a1_2).bind fun t435 => (spec_PointAdd.j0 k (!t435) a0_0 a0_1 a0_2 a1_0 a1_1 a1_2)) else (spec_PointAdd.j0 k true a0_0 a0_1 a0_2 a1_0 a1_1 a1_2))
theorem spec_PointAdd.mono_l : ∀ k, (∀ y0 y1 y2 y3 y4 y5 y6, LeO (spec_PointAdd.j0 k y0 y1 y2 y3 y4 y5 y6) (spec_PointAdd.j0 (k + 1) y0 y1 y2 y3 y4 y5 y6))
 | 0 => fun _ _ _ _ _ _ _ r h => by simp [spec_PointAdd.j0] at h
 | k + 1 => by
  have ih0 := spec_PointAdd.mono_l k
  ·intro y0 y1 y2 y3 y4 y5 y6
   unfold spec_PointAdd.j0
   repeat' first
   | (with_reducible exact ih0 _ _ _ _ _ _ _)
   | (with_reducible exact spec_l07Add.mono _ _ _ _ _ _ _)
   | (with_reducible exact LeO.refl _)
   | (with_reducible exact LeO.none _)
   | (with_reducible refine LeO.ite ?_ ?_)
   | (with_reducible refine LeO.bind ?_ (fun _ => ?_))
   | exact ih0 _ _ _ _ _ _ _
   | exact spec_l07Add.mono _ _ _ _ _ _ _
   | exact LeO.none _
   | refine LeO.ite ?_ ?_
   | refine LeO.bind ?_ (fun _ => ?_)
theorem spec_PointAdd.mono : ∀ a0 a1 a2 a3 a4 a5 k, LeO (spec_PointAdd.f k a0 a1 a2 a3 a4 a5) (spec_PointAdd.f (k + 1) a0 a1 a2 a3 a4 a5) := by
 intro a0 a1 a2 a3 a4 a5 k
 have ih0 := spec_PointAdd.mono_l k
 unfold spec_PointAdd.f
 repeat' first
   | (with_reducible exact ih0 _ _ _ _ _ _ _)
   | (with_reducible exact spec_l07Add.mono _ _ _ _ _ _ _)
   | (with_reducible exact LeO.refl _)
   | (with_reducible exact LeO.none _)
   | (with_reducible refine LeO.ite ?_ ?_)
   | (with_reducible refine LeO.bind ?_ (fun _ => ?_))
   | exact ih0 _ _ _ _ _ _ _
   | exact spec_l07Add.mono _ _ _ _ _ _ _
   | exact LeO.none _
   | refine LeO.ite ?_ ?_
   | refine LeO.bind ?_ (fun _ => ?_)
set_option maxHeartbeats 8000000 in
set_option maxRecDepth 100000 in
theorem spec_PointAdd.calls (k : Nat) (a0_0 : Int) (a0_1 : Int) (a0_2 : Bool) (a1_0 : Int) (a1_1 : Int) (a1_2 : Bool) (r1 : Int) (r2 : Int) (r3 : Bool) (w : World) (h : spec_PointAdd.f k a0_0 a0_1 a0_2 a1_0 a1_1 a1_2 = some (r1, r2, r3)) :
  Calls Try.prog 53 #[.agg #[.int .i64 a0_0, .int .i64 a0_1, .bool a0_2], .agg #[.int .i64 a1_0, .int .i64 a1_1, .bool a1_2]] w fun e w' => e = .returned (.agg #[.int .i64 r1, .int .i64 r2, .bool r3]) ∧ Below w.heap.size w w' := by
 have hu25 := Try.underlying25
 have HB := Aside0.mk (Below.refl w.heap.size w)
 have H : ((spec_PointOk.f a0_0 a0_1 a0_2).bind fun t434 => (if t434 = true then ((spec_PointOk.f a1_0 a1_1 a1_2).bind fun t435 => (spec_PointAdd.j0 k (!t435) a0_0 a0_1 a0_2 a1_0 a1_1 a1_2)) else (spec_PointAdd.j0 k true a0_0 a0_1 a0_2 a1_0 a1_1 a1_2))) = some (r1, r2, r3) := h
 clear h
 have HC3 := Aside0.mk H
 clear H
 go_enter Try.func53, Try.ntmps53
 go_upto_region 1 with (first | ((with_reducible refine gate_dst (N := 2) rfl ?_); refine box_event ?hg (N := 2) ?hd (cs := #[.int .i64 a0_0, .int .i64 a0_1, .bool a0_2]) (t := 25) ?hr ?_; (case hd => rfl); (case hg => rfl); (case hr => first | (go_simp; done) | (go_simp; rfl)); intro gb431 hg w4 hbox hb; have BK431 := Aside0.mk (hbox); have GW431 := bG HB hg; have GE431 := bG HB hg; replace HB := bS HB hb; clear hb hbox hg) | ((with_reducible refine gate_dst (N := 3) rfl ?_); refine box_event ?hg (N := 3) ?hd (cs := #[.int .i64 a1_0, .int .i64 a1_1, .bool a1_2]) (t := 25) ?hr ?_; (case hd => rfl); (case hg => rfl); (case hr => first | (go_simp; done) | (go_simp; rfl)); intro gb432 hg w5 hbox hb; have BK432 := Aside0.mk (hbox); have GW432 := bG HB hg; have GE432 := bG HB hg; replace HB := bS HB hb; have NB431_432 := bL BK431 hg; have NB432_431 := bR BK431 hg; replace BK431 := bB BK431 hb; clear hb hbox hg) | ((with_reducible refine gate_dst (N := 4) rfl ?_); refine box_event ?hg (N := 4) ?hd (cs := #[.int .i64 0, .int .i64 0, .bool false]) (t := 25) ?hr ?_; (case hd => rfl); (case hg => rfl); (case hr => first | (go_simp; done) | (go_simp; rfl)); intro gb433 hg w6 hbox hb; have BK433 := Aside0.mk (hbox); have GW433 := bG HB hg; have GE433 := bG HB hg; replace HB := bS HB hb; have NB431_433 := bL BK431 hg; have NB433_431 := bR BK431 hg; replace BK431 := bB BK431 hb; have NB432_433 := bL BK432 hg; have NB433_432 := bR BK432 hg; replace BK432 := bB BK432 hb; clear hb hbox hg))
 (try simp only [Act.put, List.setIfInBounds_toArray, List.set_cons_zero, List.set_cons_succ])
 go_cut [12] (fun v12 wc => ∃ (kq : Nat) (x12_2 : Bool), v12 = .bool x12_2 ∧ Aside0 (spec_PointAdd.j0 kq x12_2 a0_0 a0_1 a0_2 a1_0 a1_1 a1_2 = some (r1, r2, r3)) ∧ Aside0 (kq ≤ k) ∧ Aside0 (wc.heap[gb431]? = some (.cells #[.int .i64 a0_0, .int .i64 a0_1, .bool a0_2] 25 (0, 0))) ∧ Aside0 (wc.heap[gb432]? = some (.cells #[.int .i64 a1_0, .int .i64 a1_1, .bool a1_2] 25 (0, 0))) ∧ Aside0 (wc.heap[gb433]? = some (.cells #[.int .i64 0, .int .i64 0, .bool false] 25 (0, 0))) ∧ Aside0 (Below w.heap.size w wc))
 case first =>
  have H := HC3.out
  clear HC3
  replace H := Option.bind_eq_some_iff.mp H
  obtain ⟨t434, A70, H⟩ := H
  replace H : (if t434 = true then ((spec_PointOk.f a1_0 a1_1 a1_2).bind fun t435 => (spec_PointAdd.j0 k (!t435) a0_0 a0_1 a0_2 a1_0 a1_1 a1_2)) else (spec_PointAdd.j0 k true a0_0 a0_1 a0_2 a1_0 a1_1 a1_2)) = some (r1, r2, r3) := H
  have A7 := Aside0.mk A70
  clear A70
  by_cases c8 : t434 = true
  ·subst c8
   have H1 : ((spec_PointOk.f a1_0 a1_1 a1_2).bind fun t435 => (spec_PointAdd.j0 k (!t435) a0_0 a0_1 a0_2 a1_0 a1_1 a1_2)) = some (r1, r2, r3) := by rw [if_pos rfl] at H; exact H
   clear H
   have H := H1
   clear H1
   replace H := Option.bind_eq_some_iff.mp H
   obtain ⟨t435, A90, H⟩ := H
   replace H : (spec_PointAdd.j0 k (!t435) a0_0 a0_1 a0_2 a1_0 a1_1 a1_2) = some (r1, r2, r3) := H
   have A9 := Aside0.mk A90
   clear A90
   have H' := Aside0.mk H
   clear H
   have hnb10 := NB431_432.out
   have hnc10 := NB432_431.out
   have hnb11 := NB431_433.out
   have hnc11 := NB433_431.out
   have hcz12_0 : w6.cell? ⟨gb431, 0, none⟩ = some (.int .i64 a0_0) := bc BK431 0
   have hcz12_1 : w6.cell? ⟨gb431, 1, none⟩ = some (.int .i64 a0_1) := bc BK431 1
   have hcz12_2 : w6.cell? ⟨gb431, 2, none⟩ = some (.bool a0_2) := bc BK431 2
   have hfz12_0 := blk_frozen BK431.out 0
   have hfz12_1 := blk_frozen BK431.out 1
   have hfz12_2 := blk_frozen BK431.out 2
   go_wp2_with (first | ((with_reducible refine gate_callee (f := 55) rfl ?_); refine goesL_ (some 6) rfl rfl Try.func55 (by kernel_rfl) rfl #[.agg #[.int .i64 a0_0, .int .i64 a0_1, .bool a0_2]] rfl (by (try simp only [List.map_toArray, List.map_cons, List.map_nil]); first | done | rfl | (simp only [List.length_drop, List.length_take]; rfl)) ?_; (with_reducible refine (spec_PointOk.calls a0_0 a0_1 a0_2 true _ A7.out).mono ?_); rintro e w13 ⟨rfl, hb⟩; refine ⟨_, rfl, ?_⟩; replace BK431 := bB BK431 hb; replace BK432 := bB BK432 hb; replace BK433 := bB BK433 hb; replace HB := bS HB hb; (try clear hb); (try clear hb2); (try clear hk); (try clear hi); have hnb14 := NB432_433.out; have hnc14 := NB433_432.out; have hcz15_0 : w13.cell? ⟨gb432, 0, none⟩ = some (.int .i64 a1_0) := bc BK432 0; have hcz15_1 : w13.cell? ⟨gb432, 1, none⟩ = some (.int .i64 a1_1) := bc BK432 1; have hcz15_2 : w13.cell? ⟨gb432, 2, none⟩ = some (.bool a1_2) := bc BK432 2; have hfz15_0 := blk_frozen BK432.out 0; have hfz15_1 := blk_frozen BK432.out 1; have hfz15_2 := blk_frozen BK432.out 2) | (go_at_call 55; (with_reducible refine (spec_PointOk.calls a1_0 a1_1 a1_2 t435 _ A9.out).mono ?_); rintro e w16 ⟨rfl, hb⟩; replace BK431 := bB BK431 hb; replace BK432 := bB BK432 hb; replace BK433 := bB BK433 hb; replace HB := bS HB hb; (try clear hb); (try clear hb2); (try clear hk); (try clear hi)))
   go_meet
   case rel => exact ⟨_, (!t435), (by first | rfl | (simp; done) | (simp [*]; done)), H', ⟨by first | omega | exact Nat.le_refl _⟩, ⟨bP BK431⟩, ⟨bP BK432⟩, ⟨bP BK433⟩, ⟨bZ HB⟩⟩
  ·replace c8 := Bool.eq_false_iff.mpr c8
   subst c8
   have H1 : (spec_PointAdd.j0 k true a0_0 a0_1 a0_2 a1_0 a1_1 a1_2) = some (r1, r2, r3) := by rw [if_neg (show ¬ (false = true) by decide)] at H; exact H
   clear H
   have H := H1
   clear H1
   have H' := Aside0.mk H
   clear H
   have hnb17 := NB431_432.out
   have hnc17 := NB432_431.out
   have hnb18 := NB431_433.out
   have hnc18 := NB433_431.out
   have hcz19_0 : w6.cell? ⟨gb431, 0, none⟩ = some (.int .i64 a0_0) := bc BK431 0
   have hcz19_1 : w6.cell? ⟨gb431, 1, none⟩ = some (.int .i64 a0_1) := bc BK431 1
   have hcz19_2 : w6.cell? ⟨gb431, 2, none⟩ = some (.bool a0_2) := bc BK431 2
   have hfz19_0 := blk_frozen BK431.out 0
   have hfz19_1 := blk_frozen BK431.out 1
   have hfz19_2 := blk_frozen BK431.out 2
   go_wp2_with (first | ((with_reducible refine gate_callee (f := 55) rfl ?_); refine goesL_ (some 6) rfl rfl Try.func55 (by kernel_rfl) rfl #[.agg #[.int .i64 a0_0, .int .i64 a0_1, .bool a0_2]] rfl (by (try simp only [List.map_toArray, List.map_cons, List.map_nil]); first | done | rfl | (simp only [List.length_drop, List.length_take]; rfl)) ?_; (with_reducible refine (spec_PointOk.calls a0_0 a0_1 a0_2 false _ A7.out).mono ?_); rintro e w20 ⟨rfl, hb⟩; refine ⟨_, rfl, ?_⟩; replace BK431 := bB BK431 hb; replace BK432 := bB BK432 hb; replace BK433 := bB BK433 hb; replace HB := bS HB hb; (try clear hb); (try clear hb2); (try clear hk); (try clear hi)))
   go_meet
   case rel => exact ⟨_, (true), (by first | rfl | (simp; done) | (simp [*]; done)), H', ⟨by first | omega | exact Nat.le_refl _⟩, ⟨bP BK431⟩, ⟨bP BK432⟩, ⟨bP BK433⟩, ⟨bZ HB⟩⟩
 case rest =>
  clear HC3
  try clear c1
  try clear p2
  try clear c5
  try clear c8
  try clear c10
  try clear c11
  try clear c14
  try clear c17
  try clear c18
  try clear hcz12_0
  try clear hcz12_1
  try clear hcz12_2
  try clear hcz15_0
  try clear hcz15_1
  try clear hcz15_2
  try clear hcz19_0
  try clear hcz19_1
  try clear hcz19_2
  try clear hfz12_0
  try clear hfz12_1
  try clear hfz12_2
  try clear hfz15_0
  try clear hfz15_1
  try clear hfz15_2
  try clear hfz19_0
  try clear hfz19_1
  try clear hfz19_2
  obtain ⟨kq, x12_2, rfl, HA, HJ2, BK431, BK432, BK433, HB⟩ := hcut
  cases kq with
  | zero => exact absurd HA.out (by simp [spec_PointAdd.j0])
  | succ kj2 =>
   have H := HA.out
   clear HA
   simp only [spec_PointAdd.j0] at H
   by_cases c21 : x12_2 = true
   ·subst c21
    have H1 : ((spec_l07Zero.f).bind fun bt436 => (some (bt436.1, bt436.2.1, bt436.2.2))) = some (r1, r2, r3) := by rw [if_pos rfl] at H; exact H
    clear H
    have H := H1
    clear H1
    replace H := Option.bind_eq_some_iff.mp H
    obtain ⟨⟨t436, t437, t438⟩, A220, H⟩ := H
    replace H : (some (t436, t437, t438)) = some (r1, r2, r3) := H
    have A22 := Aside0.mk A220
    clear A220
    simp only [Option.some.injEq, Prod.mk.injEq] at H
    obtain ⟨rfl, rfl, rfl⟩ := H
    go_wp2_with (first | ((with_reducible refine gate_callee (f := 78) rfl ?_); refine goesL_ (some 13) rfl rfl Try.func78 (by kernel_rfl) rfl #[] rfl (by (try simp only [List.map_toArray, List.map_cons, List.map_nil]); first | done | rfl | (simp only [List.length_drop, List.length_take]; rfl)) ?_; (with_reducible refine (spec_l07Zero.calls  t436 t437 t438 _ A22.out).mono ?_); rintro e w23 ⟨rfl, hb⟩; refine ⟨_, rfl, ?_⟩; replace BK431 := bB BK431 hb; replace BK432 := bB BK432 hb; replace BK433 := bB BK433 hb; replace HB := bS HB hb; (try clear hb); (try clear hb2); (try clear hk); (try clear hi); have hnb24 := NB433_431.out; have hnc24 := NB431_433.out; have hnb25 := NB433_432.out; have hnc25 := NB432_433.out; have hcz26_0 : w23.cell? ⟨gb433, 0, none⟩ = some (.int .i64 0) := bc BK433 0; have hcz26_1 : w23.cell? ⟨gb433, 1, none⟩ = some (.int .i64 0) := bc BK433 1; have hcz26_2 : w23.cell? ⟨gb433, 2, none⟩ = some (.bool false) := bc BK433 2; have hfz26_0 := blk_frozen BK433.out 0; have hfz26_1 := blk_frozen BK433.out 1; have hfz26_2 := blk_frozen BK433.out 2))
    refine bodyPost_ret (results_cell_row rfl _ _ gb433 25 #[.int .i64 t436, .int .i64 t437, .bool t438] (0, 0) _ rfl (by (with_reducible repeat (first | refine blk_drewN ?_ _ | refine blk_drew ?_ | refine blk_alloc ?_ _)); refine blk_put (cs := #[.int .i64 t436, .int .i64 t437, .bool false]) ?_ 2 _ rfl; (with_reducible repeat (first | refine blk_drewN ?_ _ | refine blk_drew ?_ | refine blk_alloc ?_ _)); refine blk_put (cs := #[.int .i64 t436, .int .i64 0, .bool false]) ?_ 1 _ rfl; (with_reducible repeat (first | refine blk_drewN ?_ _ | refine blk_drew ?_ | refine blk_alloc ?_ _)); refine blk_put (cs := #[.int .i64 0, .int .i64 0, .bool false]) ?_ 0 _ rfl; (with_reducible repeat (first | refine blk_drewN ?_ _ | refine blk_drew ?_ | refine blk_alloc ?_ _)); exact BK433.out) Try.underlying25 rfl (by kernel_rfl)) rfl ?_
    exact ⟨by first | rfl | (simp [errW_none, errW_some] <;> rfl) | (simp [*, errW_none, errW_some] <;> rfl), bZ HB⟩
   ·replace c21 := Bool.eq_false_iff.mpr c21
    subst c21
    have H1 : ((spec_l07Add.f kj2 a0_0 a0_1 a0_2 a1_0 a1_1 a1_2).bind fun bt439 => (some (bt439.1, bt439.2.1, bt439.2.2))) = some (r1, r2, r3) := by rw [if_neg (show ¬ (false = true) by decide)] at H; exact H
    clear H
    have H := H1
    clear H1
    replace H := Option.bind_eq_some_iff.mp H
    obtain ⟨⟨t439, t440, t441⟩, A270, H⟩ := H
    replace H : (some (t439, t440, t441)) = some (r1, r2, r3) := H
    have A27 := Aside0.mk A270
    clear A270
    simp only [Option.some.injEq, Prod.mk.injEq] at H
    obtain ⟨rfl, rfl, rfl⟩ := H
    have hnb28 := NB431_432.out
    have hnc28 := NB432_431.out
    have hnb29 := NB431_433.out
    have hnc29 := NB433_431.out
    have hcz30_0 : wc.cell? ⟨gb431, 0, none⟩ = some (.int .i64 a0_0) := bc BK431 0
    have hcz30_1 : wc.cell? ⟨gb431, 1, none⟩ = some (.int .i64 a0_1) := bc BK431 1
    have hcz30_2 : wc.cell? ⟨gb431, 2, none⟩ = some (.bool a0_2) := bc BK431 2
    have hfz30_0 := blk_frozen BK431.out 0
    have hfz30_1 := blk_frozen BK431.out 1
    have hfz30_2 := blk_frozen BK431.out 2
    have hnb31 := NB432_433.out
    have hnc31 := NB433_432.out
    have hcz32_0 : wc.cell? ⟨gb432, 0, none⟩ = some (.int .i64 a1_0) := bc BK432 0
    have hcz32_1 : wc.cell? ⟨gb432, 1, none⟩ = some (.int .i64 a1_1) := bc BK432 1
    have hcz32_2 : wc.cell? ⟨gb432, 2, none⟩ = some (.bool a1_2) := bc BK432 2
    have hfz32_0 := blk_frozen BK432.out 0
    have hfz32_1 := blk_frozen BK432.out 1
    have hfz32_2 := blk_frozen BK432.out 2
    go_wp2_with (first | ((with_reducible refine gate_callee (f := 80) rfl ?_); refine goesL_ (some 16) rfl rfl Try.func80 (by kernel_rfl) rfl #[.agg #[.int .i64 a0_0, .int .i64 a0_1, .bool a0_2], .agg #[.int .i64 a1_0, .int .i64 a1_1, .bool a1_2]] rfl (by (try simp only [List.map_toArray, List.map_cons, List.map_nil]); first | done | rfl | (simp only [List.length_drop, List.length_take]; rfl)) ?_; (with_reducible refine (spec_l07Add.calls kj2 a0_0 a0_1 a0_2 a1_0 a1_1 a1_2 t439 t440 t441 _ A27.out).mono ?_); rintro e w33 ⟨rfl, hb⟩; refine ⟨_, rfl, ?_⟩; replace BK431 := bB BK431 hb; replace BK432 := bB BK432 hb; replace BK433 := bB BK433 hb; replace HB := bS HB hb; (try clear hb); (try clear hb2); (try clear hk); (try clear hi); have hcz34_0 : w33.cell? ⟨gb433, 0, none⟩ = some (.int .i64 0) := bc BK433 0; have hcz34_1 : w33.cell? ⟨gb433, 1, none⟩ = some (.int .i64 0) := bc BK433 1; have hcz34_2 : w33.cell? ⟨gb433, 2, none⟩ = some (.bool false) := bc BK433 2; have hfz34_0 := blk_frozen BK433.out 0; have hfz34_1 := blk_frozen BK433.out 1; have hfz34_2 := blk_frozen BK433.out 2))
    refine bodyPost_ret (results_cell_row rfl _ _ gb433 25 #[.int .i64 t439, .int .i64 t440, .bool t441] (0, 0) _ rfl (by (with_reducible repeat (first | refine blk_drewN ?_ _ | refine blk_drew ?_ | refine blk_alloc ?_ _)); refine blk_put (cs := #[.int .i64 t439, .int .i64 t440, .bool false]) ?_ 2 _ rfl; (with_reducible repeat (first | refine blk_drewN ?_ _ | refine blk_drew ?_ | refine blk_alloc ?_ _)); refine blk_put (cs := #[.int .i64 t439, .int .i64 0, .bool false]) ?_ 1 _ rfl; (with_reducible repeat (first | refine blk_drewN ?_ _ | refine blk_drew ?_ | refine blk_alloc ?_ _)); refine blk_put (cs := #[.int .i64 0, .int .i64 0, .bool false]) ?_ 0 _ rfl; (with_reducible repeat (first | refine blk_drewN ?_ _ | refine blk_drew ?_ | refine blk_alloc ?_ _)); exact BK433.out) Try.underlying25 rfl (by kernel_rfl)) rfl ?_
    exact ⟨by first | rfl | (simp [errW_none, errW_some] <;> rfl) | (simp [*, errW_none, errW_some] <;> rfl), bZ HB⟩
end Go.Proofs.Ytmbjefdkjdemhaa.Pf
end
