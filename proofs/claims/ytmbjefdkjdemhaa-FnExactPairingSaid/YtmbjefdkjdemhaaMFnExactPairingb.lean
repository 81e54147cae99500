/- What is proved here: part 2 of 5 of the proof of the given statement FnExactPairing: the contracts of the Go functions that it reaches, the plain facts on lists and numbers, and (in the last part) the statement itself. No conditions beyond the given ones. -/
import Derived.Test.YtmbjefdkjdemhaaMFnExactPairingwSlim
import Derived.Test.YtmbjefdkjdemhaaMFnExactPairinga

section
namespace Go.Proofs.Ytmbjefdkjdemhaa.Pf
open Go.RowKit Go.Proofs.YtmbjefdkjdemhaaW.PrintWords Go.Proofs.YtmbjefdkjdemhaaW.PrintLast Go.Proofs.YtmbjefdkjdemhaaW.PrintMore
attribute [local go_sem] max2_int min2_int max_two min_two max_three min_three max_four min_four   -- for this text's walks alone
set_option linter.unusedVariables false
set_option linter.unusedSimpArgs false
/-! ### impl_Miller: function 40 -/
def impl_Miller.l0 : Nat → Int → Int → Int → Bool → Int → Int → Bool → Int → Int → Int → Int → Bool → Option (Int × Int)
 | 0, _, _, _, _, _, _, _, _, _, _, _, _ => none
 | k + 1, x7, x347000, x347001, x347002, x348000, x348001, x348002, x350000, x350001, x351000, x351001, x351002 => if x7 ≥ 0 then ((impl_TwoMul.f x350000 x350001 x350000 x350001).bind fun bt352 => ((impl_PairLine.f k x351000 x351001 x351002 x351000 x351001 x351002 x348000 x348001 x348002).bind fun bt354 => ((impl_TwoMul.f bt352.1 bt352.2 bt354.1 bt354.2).bind fun bt356 => ((impl_PointAdd.f k x351000 x351001 x351002 x351000 x351001 x351002).bind fun bt358 => (if 0 ≤ (IntKind.u64.wrap (x7)) then (if (Go.bits .and .i64 (shr .i64 1009 (IntKind.u64.wrap (x7))) 1) = 1 then ((impl_PairLine.f k bt358.1 bt358.2.1 bt358.2.2 x347000 x347001 x347002 x348000 x348001 x348002).bind fun bt361 => ((impl_TwoMul.f bt356.1 bt356.2 bt361.1 bt361.2).bind fun bt363 => ((impl_PointAdd.f k bt358.1 bt358.2.1 bt358.2.2 x347000 x347001 x347002).bind fun bt365 => (impl_Miller.l0 k (wrap64 (x7 - 1)) x347000 x347001 x347002 x348000 x348001 x348002 bt363.1 bt363.2 bt365.1 bt365.2.1 bt365.2.2)))) else (impl_Miller.l0 k (wrap64 (x7 - 1)) x347000 x347001 x347002 x348000 x348001 x348002 bt356.1 bt356.2 bt358.1 bt358.2.1 bt358.2.2)) else (none)))))) else (some (x350000, x350001))
def impl_Miller.f (k : Nat) (a0_0 : Int) (a0_1 : Int) (a0_2 : Bool) (a1_0 : Int) (a1_1 : Int) (a1_2 : Bool) : Option (Int × Int) := (bits_Len.f k 1009).bind fun t351 => (impl_Miller.l0 k (wrap64 (t351 - 2)) a0_0 a0_1 a0_2 a1_0 a1_1 a1_2 1 0 a0_0 a0_1 a0_2)
theorem impl_Miller.mono_l : ∀ k, (∀ y0 y1 y2 y3 y4 y5 y6 y7 y8 y9 y10 y11, LeO (impl_Miller.l0 k y0 y1 y2 y3 y4 y5 y6 y7 y8 y9 y10 y11) (impl_Miller.l0 (k + 1) y0 y1 y2 y3 y4 y5 y6 y7 y8 y9 y10 y11))
 | 0 => fun _ _ _ _ _ _ _ _ _ _ _ _ r h => by simp [impl_Miller.l0] at h
 | k + 1 => by
  have ih0 := impl_Miller.mono_l k
  ·intro y0 y1 y2 y3 y4 y5 y6 y7 y8 y9 y10 y11
   unfold impl_Miller.l0
   repeat' first
   | (with_reducible exact ih0 _ _ _ _ _ _ _ _ _ _ _ _)
   | (with_reducible exact bits_Len.mono _ _)
   | (with_reducible exact impl_PairLine.mono _ _ _ _ _ _ _ _ _ _)
   | (with_reducible exact impl_PointAdd.mono _ _ _ _ _ _ _)
   | (with_reducible exact LeO.refl _)
   | (with_reducible exact LeO.none _)
   | (with_reducible refine LeO.ite ?_ ?_)
   | (with_reducible refine LeO.bind ?_ (fun _ => ?_))
   | exact ih0 _ _ _ _ _ _ _ _ _ _ _ _
   | exact bits_Len.mono _ _
   | exact impl_PairLine.mono _ _ _ _ _ _ _ _ _ _
   | exact impl_PointAdd.mono _ _ _ _ _ _ _
   | exact LeO.none _
   | refine LeO.ite ?_ ?_
   | refine LeO.bind ?_ (fun _ => ?_)
theorem impl_Miller.mono : ∀ a0 a1 a2 a3 a4 a5 k, LeO (impl_Miller.f k a0 a1 a2 a3 a4 a5) (impl_Miller.f (k + 1) a0 a1 a2 a3 a4 a5) := by
 intro a0 a1 a2 a3 a4 a5 k
 have ih0 := impl_Miller.mono_l k
 unfold impl_Miller.f
 repeat' first
   | (with_reducible exact ih0 _ _ _ _ _ _ _ _ _ _ _ _)
   | (with_reducible exact bits_Len.mono _ _)
   | (with_reducible exact impl_PairLine.mono _ _ _ _ _ _ _ _ _ _)
   | (with_reducible exact impl_PointAdd.mono _ _ _ _ _ _ _)
   | (with_reducible exact LeO.refl _)
   | (with_reducible exact LeO.none _)
   | (with_reducible refine LeO.ite ?_ ?_)
   | (with_reducible refine LeO.bind ?_ (fun _ => ?_))
   | exact ih0 _ _ _ _ _ _ _ _ _ _ _ _
   | exact bits_Len.mono _ _
   | exact impl_PairLine.mono _ _ _ _ _ _ _ _ _ _
   | exact impl_PointAdd.mono _ _ _ _ _ _ _
   | exact LeO.none _
   | refine LeO.ite ?_ ?_
   | refine LeO.bind ?_ (fun _ => ?_)
def impl_Miller.T6 : Bool × List (List Nat × List Nat) := (true, [([], []), ([], []), ([0, 1], [0, 1]), ([], []), ([], []), ([], []), ([3, 4, 5, 2], [3, 4, 5]), ([2, 6, 6], [2, 6]), ([7, 7, 0, 1, 2, 3, 4, 5, 6, 7], [7])])
def impl_Miller.B6 : List Nat := [0, 0, 3, 0, 0, 0, 63, 127, 255]
theorem impl_Miller.tab6 : rtab .any (opsOf Try.f40 6) = impl_Miller.T6 := by kernel_rfl
theorem impl_Miller.bits6 : waitsOk impl_Miller.T6.2 impl_Miller.B6 = true := by kernel_rfl
set_option maxHeartbeats 8000000 in
set_option maxRecDepth 100000 in
theorem impl_Miller.calls (k : Nat) (a0_0 : Int) (a0_1 : Int) (a0_2 : Bool) (a1_0 : Int) (a1_1 : Int) (a1_2 : Bool) (r1 : Int) (r2 : Int) (w : World) (h : impl_Miller.f k a0_0 a0_1 a0_2 a1_0 a1_1 a1_2 = some (r1, r2)) :
  Calls Try.prog 40 #[.agg #[.int .i64 a0_0, .int .i64 a0_1, .bool a0_2], .agg #[.int .i64 a1_0, .int .i64 a1_1, .bool a1_2]] w fun e w' => e = .returned (.agg #[.int .i64 r1, .int .i64 r2]) ∧ Below w.heap.size w w' := by
 have hu25 := Try.underlying25
 have hu31 := Try.underlying31
 have HB := Aside0.mk (Below.refl w.heap.size w)
 have H : ((bits_Len.f k 1009).bind fun t351 => (impl_Miller.l0 k (wrap64 (t351 - 2)) a0_0 a0_1 a0_2 a1_0 a1_1 a1_2 1 0 a0_0 a0_1 a0_2)) = some (r1, r2) := h
 clear h
 replace H := Option.bind_eq_some_iff.mp H
 obtain ⟨t351, A30, H⟩ := H
 replace H : (impl_Miller.l0 k (wrap64 (t351 - 2)) a0_0 a0_1 a0_2 a1_0 a1_1 a1_2 1 0 a0_0 a0_1 a0_2) = some (r1, r2) := H
 have A3 := Aside0.mk A30
 clear A30
 have H' := Aside0.mk H
 clear H
 go_enter Try.func40, Try.ntmps40
 go_wp2_with (first | ((with_reducible refine gate_dst (N := 2) rfl ?_); refine box_event ?hg (N := 2) ?hd (cs := #[.int .i64 a0_0, .int .i64 a0_1, .bool a0_2]) (t := 25) ?hr ?_; (case hd => rfl); (case hg => rfl); (case hr => first | (go_simp; done) | (go_simp; rfl)); intro gb346 hg w4 hbox hb; have BK346 := Aside0.mk (hbox); have GW346 := bG HB hg; have GE346 := bG HB hg; replace HB := bS HB hb; clear hb hbox hg) | ((with_reducible refine gate_dst (N := 3) rfl ?_); refine box_event ?hg (N := 3) ?hd (cs := #[.int .i64 a1_0, .int .i64 a1_1, .bool a1_2]) (t := 25) ?hr ?_; (case hd => rfl); (case hg => rfl); (case hr => first | (go_simp; done) | (go_simp; rfl)); intro gb347 hg w5 hbox hb; have BK347 := Aside0.mk (hbox); have GW347 := bG HB hg; have GE347 := bG HB hg; replace HB := bS HB hb; have NB346_347 := bL BK346 hg; have NB347_346 := bR BK346 hg; replace BK346 := bB BK346 hb; clear hb hbox hg) | ((with_reducible refine gate_dst (N := 4) rfl ?_); refine box_event ?hg (N := 4) ?hd (cs := #[.int .i64 0, .int .i64 0]) (t := 31) ?hr ?_; (case hd => rfl); (case hg => rfl); (case hr => first | (go_simp; done) | (go_simp; rfl)); intro gb348 hg w6 hbox hb; have BK348 := Aside0.mk (hbox); have GW348 := bG HB hg; have GE348 := bG HB hg; replace HB := bS HB hb; have NB346_348 := bL BK346 hg; have NB348_346 := bR BK346 hg; replace BK346 := bB BK346 hb; have NB347_348 := bL BK347 hg; have NB348_347 := bR BK347 hg; replace BK347 := bB BK347 hb; clear hb hbox hg) | ((with_reducible refine gate_dst (N := 5) rfl ?_); refine box_event ?hg (N := 5) ?hd (cs := #[.int .i64 0, .int .i64 0]) (t := 31) ?hr ?_; (case hd => rfl); (case hg => rfl); (case hr => first | (go_simp; done) | (go_simp; rfl)); intro gb349 hg w7 hbox hb; have BK349 := Aside0.mk (hbox); have GW349 := bG HB hg; have GE349 := bG HB hg; replace HB := bS HB hb; have NB346_349 := bL BK346 hg; have NB349_346 := bR BK346 hg; replace BK346 := bB BK346 hb; have NB347_349 := bL BK347 hg; have NB349_347 := bR BK347 hg; replace BK347 := bB BK347 hb; have NB348_349 := bL BK348 hg; have NB349_348 := bR BK348 hg; replace BK348 := bB BK348 hb; clear hb hbox hg; have hnb8 := NB349_346.out; have hnc8 := NB346_349.out; have hnb9 := NB349_347.out; have hnc9 := NB347_349.out; have hnb10 := NB349_348.out; have hnc10 := NB348_349.out; have hcz11_0 : w7.cell? ⟨gb349, 0, none⟩ = some (.int .i64 0) := bc BK349 0; have hcz11_1 : w7.cell? ⟨gb349, 1, none⟩ = some (.int .i64 0) := bc BK349 1; have hfz11_0 := blk_frozen BK349.out 0; have hfz11_1 := blk_frozen BK349.out 1; have hnb12 := NB346_347.out; have hnc12 := NB347_346.out; have hnb13 := NB346_348.out; have hnc13 := NB348_346.out; have hcz14_0 : w7.cell? ⟨gb346, 0, none⟩ = some (.int .i64 a0_0) := bc BK346 0; have hcz14_1 : w7.cell? ⟨gb346, 1, none⟩ = some (.int .i64 a0_1) := bc BK346 1; have hcz14_2 : w7.cell? ⟨gb346, 2, none⟩ = some (.bool a0_2) := bc BK346 2; have hfz14_0 := blk_frozen BK346.out 0; have hfz14_1 := blk_frozen BK346.out 1; have hfz14_2 := blk_frozen BK346.out 2) | ((with_reducible refine gate_dst (N := 6) rfl ?_); refine box_event ?hg (N := 6) ?hd (cs := #[.int .i64 0, .int .i64 0, .bool false]) (t := 25) ?hr ?_; (case hd => rfl); (case hg => rfl); (case hr => first | (go_simp; done) | (go_simp; rfl)); intro gb350 hg w15 hbox hb; have BK350 := Aside0.mk (hbox); have GW350 := bG HB hg; have GE350 := bG HB hg; replace HB := bS HB hb; have NB346_350 := bL BK346 hg; have NB350_346 := bR BK346 hg; replace BK346 := bB BK346 hb; have NB347_350 := bL BK347 hg; have NB350_347 := bR BK347 hg; replace BK347 := bB BK347 hb; have NB348_350 := bL BK348 hg; have NB350_348 := bR BK348 hg; replace BK348 := bB BK348 hb; have NB349_350 := Aside0.mk ((by rw [hg]; exact Nat.ne_of_lt (blk_lt (g := gb349) (o := .cells #[.int .i64 1, .int .i64 0] 31 (0, 0)) (by (with_reducible repeat (first | refine blk_drewN ?_ _ | refine blk_drew ?_ | refine blk_alloc ?_ _)); refine blk_put (cs := #[.int .i64 1, .int .i64 0]) ?_ 1 _ rfl; (with_reducible repeat (first | refine blk_drewN ?_ _ | refine blk_drew ?_ | refine blk_alloc ?_ _)); refine blk_put (cs := #[.int .i64 0, .int .i64 0]) ?_ 0 _ rfl; (with_reducible repeat (first | refine blk_drewN ?_ _ | refine blk_drew ?_ | refine blk_alloc ?_ _)); exact BK349.out)) : gb349 ≠ gb350)); have NB350_349 := Aside0.mk ((by rw [hg]; exact Nat.ne_of_gt (blk_lt (g := gb349) (o := .cells #[.int .i64 1, .int .i64 0] 31 (0, 0)) (by (with_reducible repeat (first | refine blk_drewN ?_ _ | refine blk_drew ?_ | refine blk_alloc ?_ _)); refine blk_put (cs := #[.int .i64 1, .int .i64 0]) ?_ 1 _ rfl; (with_reducible repeat (first | refine blk_drewN ?_ _ | refine blk_drew ?_ | refine blk_alloc ?_ _)); refine blk_put (cs := #[.int .i64 0, .int .i64 0]) ?_ 0 _ rfl; (with_reducible repeat (first | refine blk_drewN ?_ _ | refine blk_drew ?_ | refine blk_alloc ?_ _)); exact BK349.out)) : gb350 ≠ gb349)); replace BK349 := Aside0.mk (blk_below (g := gb349) (o := .cells #[.int .i64 1, .int .i64 0] 31 (0, 0)) (by (with_reducible repeat (first | refine blk_drewN ?_ _ | refine blk_drew ?_ | refine blk_alloc ?_ _)); refine blk_put (cs := #[.int .i64 1, .int .i64 0]) ?_ 1 _ rfl; (with_reducible repeat (first | refine blk_drewN ?_ _ | refine blk_drew ?_ | refine blk_alloc ?_ _)); refine blk_put (cs := #[.int .i64 0, .int .i64 0]) ?_ 0 _ rfl; (with_reducible repeat (first | refine blk_drewN ?_ _ | refine blk_drew ?_ | refine blk_alloc ?_ _)); exact BK349.out) hb); clear hb hbox hg; have hnb16 := NB350_346.out; have hnc16 := NB346_350.out; have hnb17 := NB350_347.out; have hnc17 := NB347_350.out; have hnb18 := NB350_348.out; have hnc18 := NB348_350.out; have hnb19 := NB350_349.out; have hnc19 := NB349_350.out; have hcz20_0 : w15.cell? ⟨gb350, 0, none⟩ = some (.int .i64 0) := bc BK350 0; have hcz20_1 : w15.cell? ⟨gb350, 1, none⟩ = some (.int .i64 0) := bc BK350 1; have hcz20_2 : w15.cell? ⟨gb350, 2, none⟩ = some (.bool false) := bc BK350 2; have hfz20_0 := blk_frozen BK350.out 0; have hfz20_1 := blk_frozen BK350.out 1; have hfz20_2 := blk_frozen BK350.out 2) | ((with_reducible refine gate_callee (f := 87) rfl ?_); refine goesL_ (some 10) rfl rfl Try.func87 (by kernel_rfl) rfl #[.int .u64 1009] rfl (by (try simp only [List.map_toArray, List.map_cons, List.map_nil]); first | done | rfl | (simp only [List.length_drop, List.length_take]; rfl)) ?_; (with_reducible refine (bits_Len.calls k 1009 t351 _ A3.out).mono ?_); rintro e w' ⟨rfl, ⟨nd, rfl⟩⟩; refine ⟨_, rfl, ?_⟩))
 go_loopg [7] k (fun kq v7 w' => ∃ (x7_1 : Int) (x350000_1 : Int) (x350001_1 : Int) (x351000_1 : Int) (x351001_1 : Int) (x351002_1 : Bool), v7 = .int .i64 x7_1 ∧ Aside0 (impl_Miller.l0 kq x7_1 a0_0 a0_1 a0_2 a1_0 a1_1 a1_2 x350000_1 x350001_1 x351000_1 x351001_1 x351002_1 = some (r1, r2)) ∧ Aside0 (kq ≤ k) ∧ Aside0 (w'.heap[gb346]? = some (.cells #[.int .i64 a0_0, .int .i64 a0_1, .bool a0_2] 25 (0, 0))) ∧ Aside0 (w'.heap[gb347]? = some (.cells #[.int .i64 a1_0, .int .i64 a1_1, .bool a1_2] 25 (0, 0))) ∧ Aside0 (w'.heap[gb348]? = some (.cells #[.int .i64 0, .int .i64 0] 31 (0, 0))) ∧ Aside0 (w'.heap[gb349]? = some (.cells #[.int .i64 x350000_1, .int .i64 x350001_1] 31 (0, 0))) ∧ Aside0 (w'.heap[gb350]? = some (.cells #[.int .i64 x351000_1, .int .i64 x351001_1, .bool x351002_1] 25 (0, 0))) ∧ Aside0 (Below w.heap.size w w'))
 case atStart => exact ⟨(wrap64 (t351 - 2)), (1), (0), (a0_0), (a0_1), (a0_2), (by first | rfl | (simp; done) | (simp [*]; done)), H', ⟨Nat.le_refl _⟩, ⟨bP BK346⟩, ⟨bP BK347⟩, ⟨bP BK348⟩, ⟨bP BK349⟩, ⟨by (with_reducible repeat (first | refine blk_drewN ?_ _ | refine blk_drew ?_ | refine blk_alloc ?_ _)); refine blk_put (cs := #[.int .i64 a0_0, .int .i64 a0_1, .bool false]) ?_ 2 _ rfl; (with_reducible repeat (first | refine blk_drewN ?_ _ | refine blk_drew ?_ | refine blk_alloc ?_ _)); refine blk_put (cs := #[.int .i64 a0_0, .int .i64 0, .bool false]) ?_ 1 _ rfl; (with_reducible repeat (first | refine blk_drewN ?_ _ | refine blk_drew ?_ | refine blk_alloc ?_ _)); refine blk_put (cs := #[.int .i64 0, .int .i64 0, .bool false]) ?_ 0 _ rfl; (with_reducible repeat (first | refine blk_drewN ?_ _ | refine blk_drew ?_ | refine blk_alloc ?_ _)); exact BK350.out⟩, ⟨bZ HB⟩⟩
 case round =>
  clear H'
  try clear c1
  try clear p2
  try clear c4
  try clear p6
  try clear c8
  try clear c9
  try clear c10
  try clear c12
  try clear c13
  try clear c16
  try clear c17
  try clear c18
  try clear c19
  try clear hcz11_0
  try clear hcz11_1
  try clear hcz14_0
  try clear hcz14_1
  try clear hcz14_2
  try clear hcz20_0
  try clear hcz20_1
  try clear hcz20_2
  try clear hfz11_0
  try clear hfz11_1
  try clear hfz14_0
  try clear hfz14_1
  try clear hfz14_2
  try clear hfz20_0
  try clear hfz20_1
  try clear hfz20_2
  obtain ⟨x7_1, x350000_1, x350001_1, x351000_1, x351001_1, x351002_1, rfl, HA, HK1, BK346, BK347, BK348, BK349, BK350, HB⟩ := hrel
  cases gk with
  | zero => exact absurd HA.out (by simp [impl_Miller.l0])
  | succ k1 =>
   have H := HA.out
   clear HA
   simp only [impl_Miller.l0] at H
   by_cases c21 : x7_1 ≥ 0
   ·rw [if_pos c21] at H
    have c21b0 : decide (0 ≤ x7_1) = true := decide_eq_true c21
    clear c21
    replace H := Option.bind_eq_some_iff.mp H
    obtain ⟨⟨t352, t353⟩, A220, H⟩ := H
    replace H : ((impl_PairLine.f k1 x351000_1 x351001_1 x351002_1 x351000_1 x351001_1 x351002_1 a1_0 a1_1 a1_2).bind fun bt354 => ((impl_TwoMul.f t352 t353 bt354.1 bt354.2).bind fun bt356 => ((impl_PointAdd.f k1 x351000_1 x351001_1 x351002_1 x351000_1 x351001_1 x351002_1).bind fun bt358 => (if 0 ≤ (IntKind.u64.wrap (x7_1)) then (if (Go.bits .and .i64 (shr .i64 1009 (IntKind.u64.wrap (x7_1))) 1) = 1 then ((impl_PairLine.f k1 bt358.1 bt358.2.1 bt358.2.2 a0_0 a0_1 a0_2 a1_0 a1_1 a1_2).bind fun bt361 => ((impl_TwoMul.f bt356.1 bt356.2 bt361.1 bt361.2).bind fun bt363 => ((impl_PointAdd.f k1 bt358.1 bt358.2.1 bt358.2.2 a0_0 a0_1 a0_2).bind fun bt365 => (impl_Miller.l0 k1 (wrap64 (x7_1 - 1)) a0_0 a0_1 a0_2 a1_0 a1_1 a1_2 bt363.1 bt363.2 bt365.1 bt365.2.1 bt365.2.2)))) else (impl_Miller.l0 k1 (wrap64 (x7_1 - 1)) a0_0 a0_1 a0_2 a1_0 a1_1 a1_2 bt356.1 bt356.2 bt358.1 bt358.2.1 bt358.2.2)) else (none))))) = some (r1, r2) := H
    have A22 := Aside0.mk A220
    clear A220
    replace H := Option.bind_eq_some_iff.mp H
    obtain ⟨⟨t354, t355⟩, A230, H⟩ := H
    replace H : ((impl_TwoMul.f t352 t353 t354 t355).bind fun bt356 => ((impl_PointAdd.f k1 x351000_1 x351001_1 x351002_1 x351000_1 x351001_1 x351002_1).bind fun bt358 => (if 0 ≤ (IntKind.u64.wrap (x7_1)) then (if (Go.bits .and .i64 (shr .i64 1009 (IntKind.u64.wrap (x7_1))) 1) = 1 then ((impl_PairLine.f k1 bt358.1 bt358.2.1 bt358.2.2 a0_0 a0_1 a0_2 a1_0 a1_1 a1_2).bind fun bt361 => ((impl_TwoMul.f bt356.1 bt356.2 bt361.1 bt361.2).bind fun bt363 => ((impl_PointAdd.f k1 bt358.1 bt358.2.1 bt358.2.2 a0_0 a0_1 a0_2).bind fun bt365 => (impl_Miller.l0 k1 (wrap64 (x7_1 - 1)) a0_0 a0_1 a0_2 a1_0 a1_1 a1_2 bt363.1 bt363.2 bt365.1 bt365.2.1 bt365.2.2)))) else (impl_Miller.l0 k1 (wrap64 (x7_1 - 1)) a0_0 a0_1 a0_2 a1_0 a1_1 a1_2 bt356.1 bt356.2 bt358.1 bt358.2.1 bt358.2.2)) else (none)))) = some (r1, r2) := H
    have A23 := Aside0.mk A230
    clear A230
    replace H := Option.bind_eq_some_iff.mp H
    obtain ⟨⟨t356, t357⟩, A240, H⟩ := H
    replace H : ((impl_PointAdd.f k1 x351000_1 x351001_1 x351002_1 x351000_1 x351001_1 x351002_1).bind fun bt358 => (if 0 ≤ (IntKind.u64.wrap (x7_1)) then (if (Go.bits .and .i64 (shr .i64 1009 (IntKind.u64.wrap (x7_1))) 1) = 1 then ((impl_PairLine.f k1 bt358.1 bt358.2.1 bt358.2.2 a0_0 a0_1 a0_2 a1_0 a1_1 a1_2).bind fun bt361 => ((impl_TwoMul.f t356 t357 bt361.1 bt361.2).bind fun bt363 => ((impl_PointAdd.f k1 bt358.1 bt358.2.1 bt358.2.2 a0_0 a0_1 a0_2).bind fun bt365 => (impl_Miller.l0 k1 (wrap64 (x7_1 - 1)) a0_0 a0_1 a0_2 a1_0 a1_1 a1_2 bt363.1 bt363.2 bt365.1 bt365.2.1 bt365.2.2)))) else (impl_Miller.l0 k1 (wrap64 (x7_1 - 1)) a0_0 a0_1 a0_2 a1_0 a1_1 a1_2 t356 t357 bt358.1 bt358.2.1 bt358.2.2)) else (none))) = some (r1, r2) := H
    have A24 := Aside0.mk A240
    clear A240
    replace H := Option.bind_eq_some_iff.mp H
    obtain ⟨⟨t358, t359, t360⟩, A250, H⟩ := H
    replace H : (if 0 ≤ (IntKind.u64.wrap (x7_1)) then (if (Go.bits .and .i64 (shr .i64 1009 (IntKind.u64.wrap (x7_1))) 1) = 1 then ((impl_PairLine.f k1 t358 t359 t360 a0_0 a0_1 a0_2 a1_0 a1_1 a1_2).bind fun bt361 => ((impl_TwoMul.f t356 t357 bt361.1 bt361.2).bind fun bt363 => ((impl_PointAdd.f k1 t358 t359 t360 a0_0 a0_1 a0_2).bind fun bt365 => (impl_Miller.l0 k1 (wrap64 (x7_1 - 1)) a0_0 a0_1 a0_2 a1_0 a1_1 a1_2 bt363.1 bt363.2 bt365.1 bt365.2.1 bt365.2.2)))) else (impl_Miller.l0 k1 (wrap64 (x7_1 - 1)) a0_0 a0_1 a0_2 a1_0 a1_1 a1_2 t356 t357 t358 t359 t360)) else (none)) = some (r1, r2) := H
    have A25 := Aside0.mk A250
    clear A250
    obtain ⟨ji26, hji26⟩ : ∃ j_ : Int, (IntKind.u64.wrap (x7_1)) = j_ := ⟨_, rfl⟩
    replace H : (if 0 ≤ (ji26) then (if (Go.bits .and .i64 (shr .i64 1009 (ji26)) 1) = 1 then ((impl_PairLine.f k1 t358 t359 t360 a0_0 a0_1 a0_2 a1_0 a1_1 a1_2).bind fun bt361 => ((impl_TwoMul.f t356 t357 bt361.1 bt361.2).bind fun bt363 => ((impl_PointAdd.f k1 t358 t359 t360 a0_0 a0_1 a0_2).bind fun bt365 => (impl_Miller.l0 k1 (wrap64 (x7_1 - 1)) a0_0 a0_1 a0_2 a1_0 a1_1 a1_2 bt363.1 bt363.2 bt365.1 bt365.2.1 bt365.2.2)))) else (impl_Miller.l0 k1 (wrap64 (x7_1 - 1)) a0_0 a0_1 a0_2 a1_0 a1_1 a1_2 t356 t357 t358 t359 t360)) else (none)) = some (r1, r2) := by first | (rw [hji26] at H; exact H) | (simp only [hji26] at H ⊢; exact H)
    (try rw [hji26] at A22)
    (try rw [hji26] at A23)
    (try rw [hji26] at A24)
    (try rw [hji26] at A25)
    by_cases c27 : 0 ≤ (ji26)
    ·rw [if_pos c27] at H
     have c27b0 := eq_true c27
     have c27b1 : decide (0 ≤ (ji26)) = true := decide_eq_true c27
     clear c27
     obtain ⟨ji28, hji28⟩ : ∃ j_ : Int, (shr .i64 1009 (ji26)) = j_ := ⟨_, rfl⟩
     replace H : (if (Go.bits .and .i64 (ji28) 1) = 1 then ((impl_PairLine.f k1 t358 t359 t360 a0_0 a0_1 a0_2 a1_0 a1_1 a1_2).bind fun bt361 => ((impl_TwoMul.f t356 t357 bt361.1 bt361.2).bind fun bt363 => ((impl_PointAdd.f k1 t358 t359 t360 a0_0 a0_1 a0_2).bind fun bt365 => (impl_Miller.l0 k1 (wrap64 (x7_1 - 1)) a0_0 a0_1 a0_2 a1_0 a1_1 a1_2 bt363.1 bt363.2 bt365.1 bt365.2.1 bt365.2.2)))) else (impl_Miller.l0 k1 (wrap64 (x7_1 - 1)) a0_0 a0_1 a0_2 a1_0 a1_1 a1_2 t356 t357 t358 t359 t360)) = some (r1, r2) := by first | (rw [hji28] at H; exact H) | (simp only [hji28] at H ⊢; exact H)
     (try rw [hji28] at A22)
     (try rw [hji28] at A23)
     (try rw [hji28] at A24)
     (try rw [hji28] at A25)
     have hji28_ : (1009 / 2 ^ min (ji26).toNat 64) = ji28 := hji28
     have hji28z : (ji26) ≤ 64 → (1009 / 2 ^ (ji26).toNat) = ji28 := shr_small hji28
     have hji28t : ∀ m_ : Int, Int.tmod ji28 m_ = ji28 % m_ := fun m_ => Int.tmod_eq_emod_of_nonneg (by rw [← hji28_]; exact Int.ediv_nonneg (by decide) (Int.le_of_lt (Int.pow_pos (by decide))))
     by_cases c29 : (Go.bits .and .i64 (ji28) 1) = 1
     ·rw [if_pos c29] at H
      have c29b0 : ((Go.bits .and .i64 (ji28) 1) == 1) = true := beq_iff_eq.mpr c29
      have c29b1 : ((Go.bits .and .i64 (ji28) 1) != 1) = false := bne_eq_false_iff_eq.mpr c29
      clear c29
      replace H := Option.bind_eq_some_iff.mp H
      obtain ⟨⟨t361, t362⟩, A300, H⟩ := H
      replace H : ((impl_TwoMul.f t356 t357 t361 t362).bind fun bt363 => ((impl_PointAdd.f k1 t358 t359 t360 a0_0 a0_1 a0_2).bind fun bt365 => (impl_Miller.l0 k1 (wrap64 (x7_1 - 1)) a0_0 a0_1 a0_2 a1_0 a1_1 a1_2 bt363.1 bt363.2 bt365.1 bt365.2.1 bt365.2.2))) = some (r1, r2) := H
      have A30 := Aside0.mk A300
      clear A300
      replace H := Option.bind_eq_some_iff.mp H
      obtain ⟨⟨t363, t364⟩, A310, H⟩ := H
      replace H : ((impl_PointAdd.f k1 t358 t359 t360 a0_0 a0_1 a0_2).bind fun bt365 => (impl_Miller.l0 k1 (wrap64 (x7_1 - 1)) a0_0 a0_1 a0_2 a1_0 a1_1 a1_2 t363 t364 bt365.1 bt365.2.1 bt365.2.2)) = some (r1, r2) := H
      have A31 := Aside0.mk A310
      clear A310
      replace H := Option.bind_eq_some_iff.mp H
      obtain ⟨⟨t365, t366, t367⟩, A320, H⟩ := H
      replace H : (impl_Miller.l0 k1 (wrap64 (x7_1 - 1)) a0_0 a0_1 a0_2 a1_0 a1_1 a1_2 t363 t364 t365 t366 t367) = some (r1, r2) := H
      have A32 := Aside0.mk A320
      clear A320
      have H' := Aside0.mk H
      clear H
      try go_wp2
      replace BK346 := Aside0.mk (blk_drew BK346.out)
      replace BK347 := Aside0.mk (blk_drew BK347.out)
      replace BK348 := Aside0.mk (blk_drew BK348.out)
      replace BK349 := Aside0.mk (blk_drew BK349.out)
      replace BK350 := Aside0.mk (blk_drew BK350.out)
      replace HB := Aside0.mk (below_drew1 HB.out)
      refine start_ (n := 9) (S := fun w' => w'.cell? ⟨gb349, 0, none⟩ = some (.int .i64 x350000_1) ∧ w'.cell? ⟨gb349, 1, none⟩ = some (.int .i64 x350001_1) ∧ w'.cell? ⟨gb350, 0, none⟩ = some (.int .i64 x351000_1) ∧ w'.cell? ⟨gb350, 1, none⟩ = some (.int .i64 x351001_1) ∧ w'.cell? ⟨gb350, 2, none⟩ = some (.bool x351002_1) ∧ w'.cell? ⟨gb347, 0, none⟩ = some (.int .i64 a1_0) ∧ w'.cell? ⟨gb347, 1, none⟩ = some (.int .i64 a1_1) ∧ w'.cell? ⟨gb347, 2, none⟩ = some (.bool a1_2)) (ds := [8]) #[false, false, false, false, false, false, false, false, false] (by kernel_rfl) rfl rfl ⟨bc BK349 0, bc BK349 1, bc BK350 0, bc BK350 1, bc BK350 2, bc BK347 0, bc BK347 1, bc BK347 2⟩ (fun hHeld => ?_); refine with_tabW impl_Miller.tab6 impl_Miller.bits6 (fun HT_ HW_ => ?_)
      generalize wr.drew = w33 at BK346 BK347 BK348 BK349 BK350 HB hHeld ⊢
      refine take_ (i := 0) (N := some 16) (v := ?_) (a' := ?_) #[true, false, false, false, false, false, false, false, false] rfl rfl (take_ofW HT_.out HW_.out (by kernel_rfl)) (fun _ _ _ h => h) (Or.inl ⟨by rfl, ?_⟩) hHeld ?_ ?_
      rotate_left
      ·rintro w' ⟨s0, s1, s2, s3, s4, s5, s6, s7⟩
       go_simp
       with_reducible rfl
      rotate_left
      ·simp only [Act.put, List.setIfInBounds_toArray, List.set_cons_zero, List.set_cons_succ, i64_w, i32_w]
       rfl
      refine take_ (i := 1) (N := some 17) (v := ?_) (a' := ?_) #[true, true, false, false, false, false, false, false, false] rfl rfl (take_ofW HT_.out HW_.out (by kernel_rfl)) (fun _ _ _ h => h) (Or.inl ⟨by rfl, ?_⟩) hHeld ?_ ?_
      rotate_left
      ·rintro w' ⟨s0, s1, s2, s3, s4, s5, s6, s7⟩
       go_simp
       with_reducible rfl
      rotate_left
      ·simp only [Act.put, List.setIfInBounds_toArray, List.set_cons_zero, List.set_cons_succ, i64_w, i32_w]
       rfl
      refine take_ (i := 3) (N := some 19) (v := ?_) (a' := ?_) #[true, true, false, true, false, false, false, false, false] rfl rfl (take_ofW HT_.out HW_.out (by kernel_rfl)) (fun _ _ _ h => h) (Or.inl ⟨by rfl, ?_⟩) hHeld ?_ ?_
      rotate_left
      ·rintro w' ⟨s0, s1, s2, s3, s4, s5, s6, s7⟩
       go_simp
       with_reducible rfl
      rotate_left
      ·simp only [Act.put, List.setIfInBounds_toArray, List.set_cons_zero, List.set_cons_succ, i64_w, i32_w]
       rfl
      refine take_ (i := 4) (N := some 20) (v := ?_) (a' := ?_) #[true, true, false, true, true, false, false, false, false] rfl rfl (take_ofW HT_.out HW_.out (by kernel_rfl)) (fun _ _ _ h => h) (Or.inl ⟨by rfl, ?_⟩) hHeld ?_ ?_
      rotate_left
      ·rintro w' ⟨s0, s1, s2, s3, s4, s5, s6, s7⟩
       go_simp
       with_reducible rfl
      rotate_left
      ·simp only [Act.put, List.setIfInBounds_toArray, List.set_cons_zero, List.set_cons_succ, i64_w, i32_w]
       rfl
      refine take_ (i := 5) (N := some 21) (v := ?_) (a' := ?_) #[true, true, false, true, true, true, false, false, false] rfl rfl (take_ofW HT_.out HW_.out (by kernel_rfl)) (fun _ _ _ h => h) (Or.inl ⟨by rfl, ?_⟩) hHeld ?_ ?_
      rotate_left
      ·rintro w' ⟨s0, s1, s2, s3, s4, s5, s6, s7⟩
       go_simp
       with_reducible rfl
      rotate_left
      ·simp only [Act.put, List.setIfInBounds_toArray, List.set_cons_zero, List.set_cons_succ, i64_w, i32_w]
       rfl
      refine one_ (i := 2) (N := some 18) #[true, true, true, true, true, true, false, false, false] rfl rfl (one_of HT_.out (by kernel_rfl)) (by decide) (fun K hK => ?_)
      refine goes_ Try.func21 (by kernel_rfl) rfl #[.agg #[.int .i64 x350000_1, .int .i64 x350001_1], .agg #[.int .i64 x350000_1, .int .i64 x350001_1]] (by rfl) rfl rfl (by (try simp only [List.map_toArray, List.map_cons, List.map_nil]); first | done | rfl | (simp only [List.length_drop, List.length_take]; rfl)) ?_
      with_reducible refine (impl_TwoMul.calls x350000_1 x350001_1 x350000_1 x350001_1 t352 t353 _ A22.out).mono ?_
      rintro e w34 ⟨rfl, hb⟩
      refine ⟨_, rfl, ?_⟩
      replace BK346 := bB BK346 hb
      replace BK347 := bB BK347 hb
      replace BK348 := bB BK348 hb
      replace BK349 := bB BK349 hb
      replace BK350 := bB BK350 hb
      replace HB := bS HB hb
      (try clear hb)
      (try clear hb2)
      (try clear hk)
      (try clear hi)
      refine hK.out _ _ ⟨bc BK349 0, bc BK349 1, bc BK350 0, bc BK350 1, bc BK350 2, bc BK347 0, bc BK347 1, bc BK347 2⟩ (fun hHeld => ?_)
      clear hK K
      refine norm_ (a' := ?_) ?_ ?_
      rotate_left
      ·show Act.put _ (some 18) _ = _
       simp only [Act.put, List.setIfInBounds_toArray, List.set_cons_zero, List.set_cons_succ, i64_w, i32_w]
       rfl
      refine one_ (i := 6) (N := some 22) #[true, true, true, true, true, true, true, false, false] rfl rfl (one_of HT_.out (by kernel_rfl)) (by decide) (fun K hK => ?_)
      refine goes_ Try.func25 (by kernel_rfl) rfl #[.agg #[.int .i64 x351000_1, .int .i64 x351001_1, .bool x351002_1], .agg #[.int .i64 x351000_1, .int .i64 x351001_1, .bool x351002_1], .agg #[.int .i64 a1_0, .int .i64 a1_1, .bool a1_2]] (by rfl) rfl rfl (by (try simp only [List.map_toArray, List.map_cons, List.map_nil]); first | done | rfl | (simp only [List.length_drop, List.length_take]; rfl)) ?_
      with_reducible refine (impl_PairLine.calls k1 x351000_1 x351001_1 x351002_1 x351000_1 x351001_1 x351002_1 a1_0 a1_1 a1_2 t354 t355 _ A23.out).mono ?_
      rintro e w35 ⟨rfl, hb⟩
      refine ⟨_, rfl, ?_⟩
      replace BK346 := bB BK346 hb
      replace BK347 := bB BK347 hb
      replace BK348 := bB BK348 hb
      replace BK349 := bB BK349 hb
      replace BK350 := bB BK350 hb
      replace HB := bS HB hb
      (try clear hb)
      (try clear hb2)
      (try clear hk)
      (try clear hi)
      refine hK.out _ _ ⟨bc BK349 0, bc BK349 1, bc BK350 0, bc BK350 1, bc BK350 2, bc BK347 0, bc BK347 1, bc BK347 2⟩ (fun hHeld => ?_)
      clear hK K
      refine norm_ (a' := ?_) ?_ ?_
      rotate_left
      ·show Act.put _ (some 22) _ = _
       simp only [Act.put, List.setIfInBounds_toArray, List.set_cons_zero, List.set_cons_succ, i64_w, i32_w]
       rfl
      refine one_ (i := 7) (N := some 23) #[true, true, true, true, true, true, true, true, false] rfl rfl (one_of HT_.out (by kernel_rfl)) (by decide) (fun K hK => ?_)
      refine goes_ Try.func21 (by kernel_rfl) rfl #[.agg #[.int .i64 t352, .int .i64 t353], .agg #[.int .i64 t354, .int .i64 t355]] (by rfl) rfl rfl (by (try simp only [List.map_toArray, List.map_cons, List.map_nil]); first | done | rfl | (simp only [List.length_drop, List.length_take]; rfl)) ?_
      with_reducible refine (impl_TwoMul.calls t352 t353 t354 t355 t356 t357 _ A24.out).mono ?_
      rintro e w36 ⟨rfl, hb⟩
      refine ⟨_, rfl, ?_⟩
      replace BK346 := bB BK346 hb
      replace BK347 := bB BK347 hb
      replace BK348 := bB BK348 hb
      replace BK349 := bB BK349 hb
      replace BK350 := bB BK350 hb
      replace HB := bS HB hb
      (try clear hb)
      (try clear hb2)
      (try clear hk)
      (try clear hi)
      refine hK.out _ _ ⟨bc BK349 0, bc BK349 1, bc BK350 0, bc BK350 1, bc BK350 2, bc BK347 0, bc BK347 1, bc BK347 2⟩ (fun hHeld => ?_)
      clear hK K
      refine norm_ (a' := ?_) ?_ ?_
      rotate_left
      ·show Act.put _ (some 23) _ = _
       simp only [Act.put, List.setIfInBounds_toArray, List.set_cons_zero, List.set_cons_succ, i64_w, i32_w]
       rfl
      refine last_ (i := 8) (N := none) #[true, true, true, true, true, true, true, true, true] rfl rfl (one_of HT_.out (by kernel_rfl)) (by decide) (fun K hK => ?_)
      have hs37 : w36.cell? ⟨gb349, 0, none⟩ = some (.int .i64 x350000_1) := bc BK349 0
      have hfs37 := blk_frozen BK349.out 0
      have hns37_0 := NB346_349.out
      have hns37_1 := NB347_349.out
      have hns37_2 := NB348_349.out
      have hns37_4 := NB350_349.out
      have hms37_0 := NB349_346.out
      have hms37_1 := NB349_347.out
      have hms37_2 := NB349_348.out
      have hms37_4 := NB349_350.out
      have hs38 : w36.cell? ⟨gb349, 1, none⟩ = some (.int .i64 x350001_1) := bc BK349 1
      have hfs38 := blk_frozen BK349.out 1
      have hns38_0 := NB346_349.out
      have hns38_1 := NB347_349.out
      have hns38_2 := NB348_349.out
      have hns38_4 := NB350_349.out
      have hms38_0 := NB349_346.out
      have hms38_1 := NB349_347.out
      have hms38_2 := NB349_348.out
      have hms38_4 := NB349_350.out
      refine skip_ (w1 := ?_) (by rfl) rfl ?_ ?_
      rotate_left
      ·go_simp
       rfl
      refine hK.out _ _ ?_
      clear hK K
      refine done_ (done_of HT_.out (by kernel_rfl)) ?_
      have hnb39 := NB350_346.out
      have hnc39 := NB346_350.out
      have hnb40 := NB350_347.out
      have hnc40 := NB347_350.out
      have hnb41 := NB350_348.out
      have hnc41 := NB348_350.out
      have hnb42 := NB350_349.out
      have hnc42 := NB349_350.out
      have hcz43_0 : w36.cell? ⟨gb350, 0, none⟩ = some (.int .i64 x351000_1) := bc BK350 0
      have hcz43_1 : w36.cell? ⟨gb350, 1, none⟩ = some (.int .i64 x351001_1) := bc BK350 1
      have hcz43_2 : w36.cell? ⟨gb350, 2, none⟩ = some (.bool x351002_1) := bc BK350 2
      have hfz43_0 := blk_frozen BK350.out 0
      have hfz43_1 := blk_frozen BK350.out 1
      have hfz43_2 := blk_frozen BK350.out 2
      try go_wp2_with (first | ((with_reducible refine gate_callee (f := 19) rfl ?_); refine goesL_ (some 26) rfl rfl Try.func19 (by kernel_rfl) rfl #[.agg #[.int .i64 x351000_1, .int .i64 x351001_1, .bool x351002_1], .agg #[.int .i64 x351000_1, .int .i64 x351001_1, .bool x351002_1]] rfl (by (try simp only [List.map_toArray, List.map_cons, List.map_nil]); first | done | rfl | (simp only [List.length_drop, List.length_take]; rfl)) ?_; (with_reducible refine (impl_PointAdd.calls k1 x351000_1 x351001_1 x351002_1 x351000_1 x351001_1 x351002_1 t358 t359 t360 _ A25.out).mono ?_); rintro e w44 ⟨rfl, hb⟩; refine ⟨_, rfl, ?_⟩; replace BK346 := bB BK346 hb; replace BK347 := bB BK347 hb; replace BK348 := bB BK348 hb; replace BK349 := Aside0.mk (blk_below (g := gb349) (o := .cells #[.int .i64 t356, .int .i64 t357] 31 (0, 0)) (by (with_reducible repeat (first | refine blk_drewN ?_ _ | refine blk_drew ?_ | refine blk_alloc ?_ _)); refine blk_put (cs := #[.int .i64 t356, .int .i64 x350001_1]) ?_ 1 _ rfl; (with_reducible repeat (first | refine blk_drewN ?_ _ | refine blk_drew ?_ | refine blk_alloc ?_ _)); refine blk_put (cs := #[.int .i64 x350000_1, .int .i64 x350001_1]) ?_ 0 _ rfl; (with_reducible repeat (first | refine blk_drewN ?_ _ | refine blk_drew ?_ | refine blk_alloc ?_ _)); exact BK349.out) hb); replace BK350 := bB BK350 hb; replace HB := bS HB hb; (try clear hb); (try clear hb2); (try clear hk); (try clear hi); have hcz45_0 : w44.cell? ⟨gb350, 0, none⟩ = some (.int .i64 x351000_1) := bc BK350 0; have hcz45_1 : w44.cell? ⟨gb350, 1, none⟩ = some (.int .i64 x351001_1) := bc BK350 1; have hcz45_2 : w44.cell? ⟨gb350, 2, none⟩ = some (.bool x351002_1) := bc BK350 2; have hfz45_0 := blk_frozen BK350.out 0; have hfz45_1 := blk_frozen BK350.out 1; have hfz45_2 := blk_frozen BK350.out 2))
      have n0_ : Aside0 ((((w44.setCell ⟨gb350, 0, none⟩ (.int .i64 t358)).setCell ⟨gb350, 1, none⟩ (.int .i64 t359)).setCell ⟨gb350, 2, none⟩ (.bool t360)).heap[gb346]? = some (.cells #[.int .i64 a0_0, .int .i64 a0_1, .bool a0_2] 25 (0, 0))) := ⟨bP BK346⟩
      have n1_ : Aside0 ((((w44.setCell ⟨gb350, 0, none⟩ (.int .i64 t358)).setCell ⟨gb350, 1, none⟩ (.int .i64 t359)).setCell ⟨gb350, 2, none⟩ (.bool t360)).heap[gb347]? = some (.cells #[.int .i64 a1_0, .int .i64 a1_1, .bool a1_2] 25 (0, 0))) := ⟨bP BK347⟩
      have n2_ : Aside0 ((((w44.setCell ⟨gb350, 0, none⟩ (.int .i64 t358)).setCell ⟨gb350, 1, none⟩ (.int .i64 t359)).setCell ⟨gb350, 2, none⟩ (.bool t360)).heap[gb348]? = some (.cells #[.int .i64 0, .int .i64 0] 31 (0, 0))) := ⟨bP BK348⟩
      have n3_ : Aside0 ((((w44.setCell ⟨gb350, 0, none⟩ (.int .i64 t358)).setCell ⟨gb350, 1, none⟩ (.int .i64 t359)).setCell ⟨gb350, 2, none⟩ (.bool t360)).heap[gb349]? = some (.cells #[.int .i64 t356, .int .i64 t357] 31 (0, 0))) := ⟨bP BK349⟩
      have n4_ : Aside0 ((((w44.setCell ⟨gb350, 0, none⟩ (.int .i64 t358)).setCell ⟨gb350, 1, none⟩ (.int .i64 t359)).setCell ⟨gb350, 2, none⟩ (.bool t360)).heap[gb350]? = some (.cells #[.int .i64 t358, .int .i64 t359, .bool t360] 25 (0, 0))) := ⟨by (with_reducible repeat (first | refine blk_drewN ?_ _ | refine blk_drew ?_ | refine blk_alloc ?_ _)); refine blk_put (cs := #[.int .i64 t358, .int .i64 t359, .bool x351002_1]) ?_ 2 _ rfl; (with_reducible repeat (first | refine blk_drewN ?_ _ | refine blk_drew ?_ | refine blk_alloc ?_ _)); refine blk_put (cs := #[.int .i64 t358, .int .i64 x351001_1, .bool x351002_1]) ?_ 1 _ rfl; (with_reducible repeat (first | refine blk_drewN ?_ _ | refine blk_drew ?_ | refine blk_alloc ?_ _)); refine blk_put (cs := #[.int .i64 x351000_1, .int .i64 x351001_1, .bool x351002_1]) ?_ 0 _ rfl; (with_reducible repeat (first | refine blk_drewN ?_ _ | refine blk_drew ?_ | refine blk_alloc ?_ _)); exact BK350.out⟩
      have n5_ : Aside0 (Below w.heap.size w (((w44.setCell ⟨gb350, 0, none⟩ (.int .i64 t358)).setCell ⟨gb350, 1, none⟩ (.int .i64 t359)).setCell ⟨gb350, 2, none⟩ (.bool t360))) := ⟨bZ HB⟩
      (try clear BK346)
      (try clear BK347)
      (try clear BK348)
      (try clear BK349)
      (try clear BK350)
      (try clear HB)
      generalize (((w44.setCell ⟨gb350, 0, none⟩ (.int .i64 t358)).setCell ⟨gb350, 1, none⟩ (.int .i64 t359)).setCell ⟨gb350, 2, none⟩ (.bool t360)) = w46 at n0_ n1_ n2_ n3_ n4_ n5_ ⊢
      have BK346 := n0_
      have BK347 := n1_
      have BK348 := n2_
      have BK349 := n3_
      have BK350 := n4_
      have HB := n5_
      clear n0_ n1_ n2_ n3_ n4_ n5_
      replace BK346 := Aside0.mk (blk_drew BK346.out)
      replace BK347 := Aside0.mk (blk_drew BK347.out)
      replace BK348 := Aside0.mk (blk_drew BK348.out)
      replace BK349 := Aside0.mk (blk_drew BK349.out)
      replace BK350 := Aside0.mk (blk_drew BK350.out)
      replace HB := Aside0.mk (below_drew1 HB.out)
      refine start_ (n := 7) (S := fun w' => w'.cell? ⟨gb349, 0, none⟩ = some (.int .i64 t356) ∧ w'.cell? ⟨gb349, 1, none⟩ = some (.int .i64 t357) ∧ w'.cell? ⟨gb350, 0, none⟩ = some (.int .i64 t358) ∧ w'.cell? ⟨gb350, 1, none⟩ = some (.int .i64 t359) ∧ w'.cell? ⟨gb350, 2, none⟩ = some (.bool t360) ∧ w'.cell? ⟨gb346, 0, none⟩ = some (.int .i64 a0_0) ∧ w'.cell? ⟨gb346, 1, none⟩ = some (.int .i64 a0_1) ∧ w'.cell? ⟨gb346, 2, none⟩ = some (.bool a0_2) ∧ w'.cell? ⟨gb347, 0, none⟩ = some (.int .i64 a1_0) ∧ w'.cell? ⟨gb347, 1, none⟩ = some (.int .i64 a1_1) ∧ w'.cell? ⟨gb347, 2, none⟩ = some (.bool a1_2)) (ds := [6]) #[false, false, false, false, false, false, false] (by kernel_rfl) rfl rfl ⟨bc BK349 0, bc BK349 1, bc BK350 0, bc BK350 1, bc BK350 2, bc BK346 0, bc BK346 1, bc BK346 2, bc BK347 0, bc BK347 1, bc BK347 2⟩ (fun hHeld => ?_)
      generalize w46.drew = w47 at BK346 BK347 BK348 BK349 BK350 HB hHeld ⊢
      refine take_ (i := 0) (N := some 32) (v := ?_) (a' := ?_) #[true, false, false, false, false, false, false] rfl rfl (by kernel_rfl) (fun _ _ _ h => h) (Or.inl ⟨by rfl, ?_⟩) hHeld ?_ ?_
      rotate_left
      ·rintro w' ⟨s0, s1, s2, s3, s4, s5, s6, s7, s8, s9, s10⟩
       go_simp
       with_reducible rfl
      rotate_left
      ·simp only [Act.put, List.setIfInBounds_toArray, List.set_cons_zero, List.set_cons_succ, i64_w, i32_w]
       rfl
      refine take_ (i := 1) (N := some 33) (v := ?_) (a' := ?_) #[true, true, false, false, false, false, false] rfl rfl (by kernel_rfl) (fun _ _ _ h => h) (Or.inl ⟨by rfl, ?_⟩) hHeld ?_ ?_
      rotate_left
      ·rintro w' ⟨s0, s1, s2, s3, s4, s5, s6, s7, s8, s9, s10⟩
       go_simp
       with_reducible rfl
      rotate_left
      ·simp only [Act.put, List.setIfInBounds_toArray, List.set_cons_zero, List.set_cons_succ, i64_w, i32_w]
       rfl
      refine take_ (i := 2) (N := some 34) (v := ?_) (a' := ?_) #[true, true, true, false, false, false, false] rfl rfl (by kernel_rfl) (fun _ _ _ h => h) (Or.inl ⟨by rfl, ?_⟩) hHeld ?_ ?_
      rotate_left
      ·rintro w' ⟨s0, s1, s2, s3, s4, s5, s6, s7, s8, s9, s10⟩
       go_simp
       with_reducible rfl
      rotate_left
      ·simp only [Act.put, List.setIfInBounds_toArray, List.set_cons_zero, List.set_cons_succ, i64_w, i32_w]
       rfl
      refine take_ (i := 3) (N := some 35) (v := ?_) (a' := ?_) #[true, true, true, true, false, false, false] rfl rfl (by kernel_rfl) (fun _ _ _ h => h) (Or.inl ⟨by rfl, ?_⟩) hHeld ?_ ?_
      rotate_left
      ·rintro w' ⟨s0, s1, s2, s3, s4, s5, s6, s7, s8, s9, s10⟩
       go_simp
       with_reducible rfl
      rotate_left
      ·simp only [Act.put, List.setIfInBounds_toArray, List.set_cons_zero, List.set_cons_succ, i64_w, i32_w]
       rfl
      refine one_ (i := 4) (N := some 36) #[true, true, true, true, true, false, false] rfl rfl (by kernel_rfl) (by decide) (fun K hK => ?_)
      refine goes_ Try.func25 (by kernel_rfl) rfl #[.agg #[.int .i64 t358, .int .i64 t359, .bool t360], .agg #[.int .i64 a0_0, .int .i64 a0_1, .bool a0_2], .agg #[.int .i64 a1_0, .int .i64 a1_1, .bool a1_2]] (by rfl) rfl rfl (by (try simp only [List.map_toArray, List.map_cons, List.map_nil]); first | done | rfl | (simp only [List.length_drop, List.length_take]; rfl)) ?_
      with_reducible refine (impl_PairLine.calls k1 t358 t359 t360 a0_0 a0_1 a0_2 a1_0 a1_1 a1_2 t361 t362 _ A30.out).mono ?_
      rintro e w48 ⟨rfl, hb⟩
      refine ⟨_, rfl, ?_⟩
      replace BK346 := bB BK346 hb
      replace BK347 := bB BK347 hb
      replace BK348 := bB BK348 hb
      replace BK349 := bB BK349 hb
      replace BK350 := bB BK350 hb
      replace HB := bS HB hb
      (try clear hb)
      (try clear hb2)
      (try clear hk)
      (try clear hi)
      refine hK.out _ _ ⟨bc BK349 0, bc BK349 1, bc BK350 0, bc BK350 1, bc BK350 2, bc BK346 0, bc BK346 1, bc BK346 2, bc BK347 0, bc BK347 1, bc BK347 2⟩ (fun hHeld => ?_)
      clear hK K
      refine norm_ (a' := ?_) ?_ ?_
      rotate_left
      ·show Act.put _ (some 36) _ = _
       simp only [Act.put, List.setIfInBounds_toArray, List.set_cons_zero, List.set_cons_succ, i64_w, i32_w]
       rfl
      refine one_ (i := 5) (N := some 37) #[true, true, true, true, true, true, false] rfl rfl (by kernel_rfl) (by decide) (fun K hK => ?_)
      refine goes_ Try.func21 (by kernel_rfl) rfl #[.agg #[.int .i64 t356, .int .i64 t357], .agg #[.int .i64 t361, .int .i64 t362]] (by rfl) rfl rfl (by (try simp only [List.map_toArray, List.map_cons, List.map_nil]); first | done | rfl | (simp only [List.length_drop, List.length_take]; rfl)) ?_
      with_reducible refine (impl_TwoMul.calls t356 t357 t361 t362 t363 t364 _ A31.out).mono ?_
      rintro e w49 ⟨rfl, hb⟩
      refine ⟨_, rfl, ?_⟩
      replace BK346 := bB BK346 hb
      replace BK347 := bB BK347 hb
      replace BK348 := bB BK348 hb
      replace BK349 := bB BK349 hb
      replace BK350 := bB BK350 hb
      replace HB := bS HB hb
      (try clear hb)
      (try clear hb2)
      (try clear hk)
      (try clear hi)
      refine hK.out _ _ ⟨bc BK349 0, bc BK349 1, bc BK350 0, bc BK350 1, bc BK350 2, bc BK346 0, bc BK346 1, bc BK346 2, bc BK347 0, bc BK347 1, bc BK347 2⟩ (fun hHeld => ?_)
      clear hK K
      refine norm_ (a' := ?_) ?_ ?_
      rotate_left
      ·show Act.put _ (some 37) _ = _
       simp only [Act.put, List.setIfInBounds_toArray, List.set_cons_zero, List.set_cons_succ, i64_w, i32_w]
       rfl
      refine last_ (i := 6) (N := none) #[true, true, true, true, true, true, true] rfl rfl (by kernel_rfl) (by decide) (fun K hK => ?_)
      have hs50 : w49.cell? ⟨gb349, 0, none⟩ = some (.int .i64 t356) := bc BK349 0
      have hfs50 := blk_frozen BK349.out 0
      have hns50_0 := NB346_349.out
      have hns50_1 := NB347_349.out
      have hns50_2 := NB348_349.out
      have hns50_4 := NB350_349.out
      have hms50_0 := NB349_346.out
      have hms50_1 := NB349_347.out
      have hms50_2 := NB349_348.out
      have hms50_4 := NB349_350.out
      have hs51 : w49.cell? ⟨gb349, 1, none⟩ = some (.int .i64 t357) := bc BK349 1
      have hfs51 := blk_frozen BK349.out 1
      have hns51_0 := NB346_349.out
      have hns51_1 := NB347_349.out
      have hns51_2 := NB348_349.out
      have hns51_4 := NB350_349.out
      have hms51_0 := NB349_346.out
      have hms51_1 := NB349_347.out
      have hms51_2 := NB349_348.out
      have hms51_4 := NB349_350.out
      refine skip_ (w1 := ?_) (by rfl) rfl ?_ ?_
      rotate_left
      ·go_simp
       rfl
      refine hK.out _ _ ?_
      clear hK K
      refine done_ (by kernel_rfl) ?_
      have hcz52_0 : w49.cell? ⟨gb350, 0, none⟩ = some (.int .i64 t358) := bc BK350 0
      have hcz52_1 : w49.cell? ⟨gb350, 1, none⟩ = some (.int .i64 t359) := bc BK350 1
      have hcz52_2 : w49.cell? ⟨gb350, 2, none⟩ = some (.bool t360) := bc BK350 2
      have hfz52_0 := blk_frozen BK350.out 0
      have hfz52_1 := blk_frozen BK350.out 1
      have hfz52_2 := blk_frozen BK350.out 2
      have hnb53 := NB346_347.out
      have hnc53 := NB347_346.out
      have hnb54 := NB346_348.out
      have hnc54 := NB348_346.out
      have hnb55 := NB346_349.out
      have hnc55 := NB349_346.out
      have hcz56_0 : w49.cell? ⟨gb346, 0, none⟩ = some (.int .i64 a0_0) := bc BK346 0
      have hcz56_1 : w49.cell? ⟨gb346, 1, none⟩ = some (.int .i64 a0_1) := bc BK346 1
      have hcz56_2 : w49.cell? ⟨gb346, 2, none⟩ = some (.bool a0_2) := bc BK346 2
      have hfz56_0 := blk_frozen BK346.out 0
      have hfz56_1 := blk_frozen BK346.out 1
      have hfz56_2 := blk_frozen BK346.out 2
      try go_wp2_with (first | ((with_reducible refine gate_callee (f := 19) rfl ?_); refine goesL_ (some 40) rfl rfl Try.func19 (by kernel_rfl) rfl #[.agg #[.int .i64 t358, .int .i64 t359, .bool t360], .agg #[.int .i64 a0_0, .int .i64 a0_1, .bool a0_2]] rfl (by (try simp only [List.map_toArray, List.map_cons, List.map_nil]); first | done | rfl | (simp only [List.length_drop, List.length_take]; rfl)) ?_; (with_reducible refine (impl_PointAdd.calls k1 t358 t359 t360 a0_0 a0_1 a0_2 t365 t366 t367 _ A32.out).mono ?_); rintro e w57 ⟨rfl, hb⟩; refine ⟨_, rfl, ?_⟩; replace BK346 := bB BK346 hb; replace BK347 := bB BK347 hb; replace BK348 := bB BK348 hb; replace BK349 := Aside0.mk (blk_below (g := gb349) (o := .cells #[.int .i64 t363, .int .i64 t364] 31 (0, 0)) (by (with_reducible repeat (first | refine blk_drewN ?_ _ | refine blk_drew ?_ | refine blk_alloc ?_ _)); refine blk_put (cs := #[.int .i64 t363, .int .i64 t357]) ?_ 1 _ rfl; (with_reducible repeat (first | refine blk_drewN ?_ _ | refine blk_drew ?_ | refine blk_alloc ?_ _)); refine blk_put (cs := #[.int .i64 t356, .int .i64 t357]) ?_ 0 _ rfl; (with_reducible repeat (first | refine blk_drewN ?_ _ | refine blk_drew ?_ | refine blk_alloc ?_ _)); exact BK349.out) hb); replace BK350 := bB BK350 hb; replace HB := bS HB hb; (try clear hb); (try clear hb2); (try clear hk); (try clear hi); have hcz58_0 : w57.cell? ⟨gb350, 0, none⟩ = some (.int .i64 t358) := bc BK350 0; have hcz58_1 : w57.cell? ⟨gb350, 1, none⟩ = some (.int .i64 t359) := bc BK350 1; have hcz58_2 : w57.cell? ⟨gb350, 2, none⟩ = some (.bool t360) := bc BK350 2; have hfz58_0 := blk_frozen BK350.out 0; have hfz58_1 := blk_frozen BK350.out 1; have hfz58_2 := blk_frozen BK350.out 2))
      go_roundg k1
      case measure => have := HK1.out; omega
      case rel => exact ⟨(wrap64 (x7_1 - 1)), (t363), (t364), (t365), (t366), (t367), (by first | rfl | (simp; done) | (simp [*]; done)), H', ⟨by have := HK1.out; omega⟩, ⟨bP BK346⟩, ⟨bP BK347⟩, ⟨bP BK348⟩, ⟨bP BK349⟩, ⟨by (with_reducible repeat (first | refine blk_drewN ?_ _ | refine blk_drew ?_ | refine blk_alloc ?_ _)); refine blk_put (cs := #[.int .i64 t365, .int .i64 t366, .bool t360]) ?_ 2 _ rfl; (with_reducible repeat (first | refine blk_drewN ?_ _ | refine blk_drew ?_ | refine blk_alloc ?_ _)); refine blk_put (cs := #[.int .i64 t365, .int .i64 t359, .bool t360]) ?_ 1 _ rfl; (with_reducible repeat (first | refine blk_drewN ?_ _ | refine blk_drew ?_ | refine blk_alloc ?_ _)); refine blk_put (cs := #[.int .i64 t358, .int .i64 t359, .bool t360]) ?_ 0 _ rfl; (with_reducible repeat (first | refine blk_drewN ?_ _ | refine blk_drew ?_ | refine blk_alloc ?_ _)); exact BK350.out⟩, ⟨bZ HB⟩⟩
     ·rw [if_neg c29] at H
      have c29b0 : ((Go.bits .and .i64 (ji28) 1) == 1) = false := beq_eq_false_iff_ne.mpr c29
      have c29b1 : ((Go.bits .and .i64 (ji28) 1) != 1) = true := bne_iff_ne.mpr c29
      have H' := Aside0.mk H
      clear H
      try go_wp2
      replace BK346 := Aside0.mk (blk_drew BK346.out)
      replace BK347 := Aside0.mk (blk_drew BK347.out)
      replace BK348 := Aside0.mk (blk_drew BK348.out)
      replace BK349 := Aside0.mk (blk_drew BK349.out)
      replace BK350 := Aside0.mk (blk_drew BK350.out)
      replace HB := Aside0.mk (below_drew1 HB.out)
      refine start_ (n := 9) (S := fun w' => w'.cell? ⟨gb349, 0, none⟩ = some (.int .i64 x350000_1) ∧ w'.cell? ⟨gb349, 1, none⟩ = some (.int .i64 x350001_1) ∧ w'.cell? ⟨gb350, 0, none⟩ = some (.int .i64 x351000_1) ∧ w'.cell? ⟨gb350, 1, none⟩ = some (.int .i64 x351001_1) ∧ w'.cell? ⟨gb350, 2, none⟩ = some (.bool x351002_1) ∧ w'.cell? ⟨gb347, 0, none⟩ = some (.int .i64 a1_0) ∧ w'.cell? ⟨gb347, 1, none⟩ = some (.int .i64 a1_1) ∧ w'.cell? ⟨gb347, 2, none⟩ = some (.bool a1_2)) (ds := [8]) #[false, false, false, false, false, false, false, false, false] (by kernel_rfl) rfl rfl ⟨bc BK349 0, bc BK349 1, bc BK350 0, bc BK350 1, bc BK350 2, bc BK347 0, bc BK347 1, bc BK347 2⟩ (fun hHeld => ?_); refine with_tabW impl_Miller.tab6 impl_Miller.bits6 (fun HT_ HW_ => ?_)
      generalize wr.drew = w59 at BK346 BK347 BK348 BK349 BK350 HB hHeld ⊢
      refine take_ (i := 0) (N := some 16) (v := ?_) (a' := ?_) #[true, false, false, false, false, false, false, false, false] rfl rfl (take_ofW HT_.out HW_.out (by kernel_rfl)) (fun _ _ _ h => h) (Or.inl ⟨by rfl, ?_⟩) hHeld ?_ ?_
      rotate_left
      ·rintro w' ⟨s0, s1, s2, s3, s4, s5, s6, s7⟩
       go_simp
       with_reducible rfl
      rotate_left
      ·simp only [Act.put, List.setIfInBounds_toArray, List.set_cons_zero, List.set_cons_succ, i64_w, i32_w]
       rfl
      refine take_ (i := 1) (N := some 17) (v := ?_) (a' := ?_) #[true, true, false, false, false, false, false, false, false] rfl rfl (take_ofW HT_.out HW_.out (by kernel_rfl)) (fun _ _ _ h => h) (Or.inl ⟨by rfl, ?_⟩) hHeld ?_ ?_
      rotate_left
      ·rintro w' ⟨s0, s1, s2, s3, s4, s5, s6, s7⟩
       go_simp
       with_reducible rfl
      rotate_left
      ·simp only [Act.put, List.setIfInBounds_toArray, List.set_cons_zero, List.set_cons_succ, i64_w, i32_w]
       rfl
      refine take_ (i := 3) (N := some 19) (v := ?_) (a' := ?_) #[true, true, false, true, false, false, false, false, false] rfl rfl (take_ofW HT_.out HW_.out (by kernel_rfl)) (fun _ _ _ h => h) (Or.inl ⟨by rfl, ?_⟩) hHeld ?_ ?_
      rotate_left
      ·rintro w' ⟨s0, s1, s2, s3, s4, s5, s6, s7⟩
       go_simp
       with_reducible rfl
      rotate_left
      ·simp only [Act.put, List.setIfInBounds_toArray, List.set_cons_zero, List.set_cons_succ, i64_w, i32_w]
       rfl
      refine take_ (i := 4) (N := some 20) (v := ?_) (a' := ?_) #[true, true, false, true, true, false, false, false, false] rfl rfl (take_ofW HT_.out HW_.out (by kernel_rfl)) (fun _ _ _ h => h) (Or.inl ⟨by rfl, ?_⟩) hHeld ?_ ?_
      rotate_left
      ·rintro w' ⟨s0, s1, s2, s3, s4, s5, s6, s7⟩
       go_simp
       with_reducible rfl
      rotate_left
      ·simp only [Act.put, List.setIfInBounds_toArray, List.set_cons_zero, List.set_cons_succ, i64_w, i32_w]
       rfl
      refine take_ (i := 5) (N := some 21) (v := ?_) (a' := ?_) #[true, true, false, true, true, true, false, false, false] rfl rfl (take_ofW HT_.out HW_.out (by kernel_rfl)) (fun _ _ _ h => h) (Or.inl ⟨by rfl, ?_⟩) hHeld ?_ ?_
      rotate_left
      ·rintro w' ⟨s0, s1, s2, s3, s4, s5, s6, s7⟩
       go_simp
       with_reducible rfl
      rotate_left
      ·simp only [Act.put, List.setIfInBounds_toArray, List.set_cons_zero, List.set_cons_succ, i64_w, i32_w]
       rfl
      refine one_ (i := 2) (N := some 18) #[true, true, true, true, true, true, false, false, false] rfl rfl (one_of HT_.out (by kernel_rfl)) (by decide) (fun K hK => ?_)
      refine goes_ Try.func21 (by kernel_rfl) rfl #[.agg #[.int .i64 x350000_1, .int .i64 x350001_1], .agg #[.int .i64 x350000_1, .int .i64 x350001_1]] (by rfl) rfl rfl (by (try simp only [List.map_toArray, List.map_cons, List.map_nil]); first | done | rfl | (simp only [List.length_drop, List.length_take]; rfl)) ?_
      with_reducible refine (impl_TwoMul.calls x350000_1 x350001_1 x350000_1 x350001_1 t352 t353 _ A22.out).mono ?_
      rintro e w60 ⟨rfl, hb⟩
      refine ⟨_, rfl, ?_⟩
      replace BK346 := bB BK346 hb
      replace BK347 := bB BK347 hb
      replace BK348 := bB BK348 hb
      replace BK349 := bB BK349 hb
      replace BK350 := bB BK350 hb
      replace HB := bS HB hb
      (try clear hb)
      (try clear hb2)
      (try clear hk)
      (try clear hi)
      refine hK.out _ _ ⟨bc BK349 0, bc BK349 1, bc BK350 0, bc BK350 1, bc BK350 2, bc BK347 0, bc BK347 1, bc BK347 2⟩ (fun hHeld => ?_)
      clear hK K
      refine norm_ (a' := ?_) ?_ ?_
      rotate_left
      ·show Act.put _ (some 18) _ = _
       simp only [Act.put, List.setIfInBounds_toArray, List.set_cons_zero, List.set_cons_succ, i64_w, i32_w]
       rfl
      refine one_ (i := 6) (N := some 22) #[true, true, true, true, true, true, true, false, false] rfl rfl (one_of HT_.out (by kernel_rfl)) (by decide) (fun K hK => ?_)
      refine goes_ Try.func25 (by kernel_rfl) rfl #[.agg #[.int .i64 x351000_1, .int .i64 x351001_1, .bool x351002_1], .agg #[.int .i64 x351000_1, .int .i64 x351001_1, .bool x351002_1], .agg #[.int .i64 a1_0, .int .i64 a1_1, .bool a1_2]] (by rfl) rfl rfl (by (try simp only [List.map_toArray, List.map_cons, List.map_nil]); first | done | rfl | (simp only [List.length_drop, List.length_take]; rfl)) ?_
      with_reducible refine (impl_PairLine.calls k1 x351000_1 x351001_1 x351002_1 x351000_1 x351001_1 x351002_1 a1_0 a1_1 a1_2 t354 t355 _ A23.out).mono ?_
      rintro e w61 ⟨rfl, hb⟩
      refine ⟨_, rfl, ?_⟩
      replace BK346 := bB BK346 hb
      replace BK347 := bB BK347 hb
      replace BK348 := bB BK348 hb
      replace BK349 := bB BK349 hb
      replace BK350 := bB BK350 hb
      replace HB := bS HB hb
      (try clear hb)
      (try clear hb2)
      (try clear hk)
      (try clear hi)
      refine hK.out _ _ ⟨bc BK349 0, bc BK349 1, bc BK350 0, bc BK350 1, bc BK350 2, bc BK347 0, bc BK347 1, bc BK347 2⟩ (fun hHeld => ?_)
      clear hK K
      refine norm_ (a' := ?_) ?_ ?_
      rotate_left
      ·show Act.put _ (some 22) _ = _
       simp only [Act.put, List.setIfInBounds_toArray, List.set_cons_zero, List.set_cons_succ, i64_w, i32_w]
       rfl
      refine one_ (i := 7) (N := some 23) #[true, true, true, true, true, true, true, true, false] rfl rfl (one_of HT_.out (by kernel_rfl)) (by decide) (fun K hK => ?_)
      refine goes_ Try.func21 (by kernel_rfl) rfl #[.agg #[.int .i64 t352, .int .i64 t353], .agg #[.int .i64 t354, .int .i64 t355]] (by rfl) rfl rfl (by (try simp only [List.map_toArray, List.map_cons, List.map_nil]); first | done | rfl | (simp only [List.length_drop, List.length_take]; rfl)) ?_
      with_reducible refine (impl_TwoMul.calls t352 t353 t354 t355 t356 t357 _ A24.out).mono ?_
      rintro e w62 ⟨rfl, hb⟩
      refine ⟨_, rfl, ?_⟩
      replace BK346 := bB BK346 hb
      replace BK347 := bB BK347 hb
      replace BK348 := bB BK348 hb
      replace BK349 := bB BK349 hb
      replace BK350 := bB BK350 hb
      replace HB := bS HB hb
      (try clear hb)
      (try clear hb2)
      (try clear hk)
      (try clear hi)
      refine hK.out _ _ ⟨bc BK349 0, bc BK349 1, bc BK350 0, bc BK350 1, bc BK350 2, bc BK347 0, bc BK347 1, bc BK347 2⟩ (fun hHeld => ?_)
      clear hK K
      refine norm_ (a' := ?_) ?_ ?_
      rotate_left
      ·show Act.put _ (some 23) _ = _
       simp only [Act.put, List.setIfInBounds_toArray, List.set_cons_zero, List.set_cons_succ, i64_w, i32_w]
       rfl
      refine last_ (i := 8) (N := none) #[true, true, true, true, true, true, true, true, true] rfl rfl (one_of HT_.out (by kernel_rfl)) (by decide) (fun K hK => ?_)
      have hs63 : w62.cell? ⟨gb349, 0, none⟩ = some (.int .i64 x350000_1) := bc BK349 0
      have hfs63 := blk_frozen BK349.out 0
      have hns63_0 := NB346_349.out
      have hns63_1 := NB347_349.out
      have hns63_2 := NB348_349.out
      have hns63_4 := NB350_349.out
      have hms63_0 := NB349_346.out
      have hms63_1 := NB349_347.out
      have hms63_2 := NB349_348.out
      have hms63_4 := NB349_350.out
      have hs64 : w62.cell? ⟨gb349, 1, none⟩ = some (.int .i64 x350001_1) := bc BK349 1
      have hfs64 := blk_frozen BK349.out 1
      have hns64_0 := NB346_349.out
      have hns64_1 := NB347_349.out
      have hns64_2 := NB348_349.out
      have hns64_4 := NB350_349.out
      have hms64_0 := NB349_346.out
      have hms64_1 := NB349_347.out
      have hms64_2 := NB349_348.out
      have hms64_4 := NB349_350.out
      refine skip_ (w1 := ?_) (by rfl) rfl ?_ ?_
      rotate_left
      ·go_simp
       rfl
      refine hK.out _ _ ?_
      clear hK K
      refine done_ (done_of HT_.out (by kernel_rfl)) ?_
      have hnb65 := NB350_346.out
      have hnc65 := NB346_350.out
      have hnb66 := NB350_347.out
      have hnc66 := NB347_350.out
      have hnb67 := NB350_348.out
      have hnc67 := NB348_350.out
      have hnb68 := NB350_349.out
      have hnc68 := NB349_350.out
      have hcz69_0 : w62.cell? ⟨gb350, 0, none⟩ = some (.int .i64 x351000_1) := bc BK350 0
      have hcz69_1 : w62.cell? ⟨gb350, 1, none⟩ = some (.int .i64 x351001_1) := bc BK350 1
      have hcz69_2 : w62.cell? ⟨gb350, 2, none⟩ = some (.bool x351002_1) := bc BK350 2
      have hfz69_0 := blk_frozen BK350.out 0
      have hfz69_1 := blk_frozen BK350.out 1
      have hfz69_2 := blk_frozen BK350.out 2
      try go_wp2_with (first | ((with_reducible refine gate_callee (f := 19) rfl ?_); refine goesL_ (some 26) rfl rfl Try.func19 (by kernel_rfl) rfl #[.agg #[.int .i64 x351000_1, .int .i64 x351001_1, .bool x351002_1], .agg #[.int .i64 x351000_1, .int .i64 x351001_1, .bool x351002_1]] rfl (by (try simp only [List.map_toArray, List.map_cons, List.map_nil]); first | done | rfl | (simp only [List.length_drop, List.length_take]; rfl)) ?_; (with_reducible refine (impl_PointAdd.calls k1 x351000_1 x351001_1 x351002_1 x351000_1 x351001_1 x351002_1 t358 t359 t360 _ A25.out).mono ?_); rintro e w70 ⟨rfl, hb⟩; refine ⟨_, rfl, ?_⟩; replace BK346 := bB BK346 hb; replace BK347 := bB BK347 hb; replace BK348 := bB BK348 hb; replace BK349 := Aside0.mk (blk_below (g := gb349) (o := .cells #[.int .i64 t356, .int .i64 t357] 31 (0, 0)) (by (with_reducible repeat (first | refine blk_drewN ?_ _ | refine blk_drew ?_ | refine blk_alloc ?_ _)); refine blk_put (cs := #[.int .i64 t356, .int .i64 x350001_1]) ?_ 1 _ rfl; (with_reducible repeat (first | refine blk_drewN ?_ _ | refine blk_drew ?_ | refine blk_alloc ?_ _)); refine blk_put (cs := #[.int .i64 x350000_1, .int .i64 x350001_1]) ?_ 0 _ rfl; (with_reducible repeat (first | refine blk_drewN ?_ _ | refine blk_drew ?_ | refine blk_alloc ?_ _)); exact BK349.out) hb); replace BK350 := bB BK350 hb; replace HB := bS HB hb; (try clear hb); (try clear hb2); (try clear hk); (try clear hi); have hcz71_0 : w70.cell? ⟨gb350, 0, none⟩ = some (.int .i64 x351000_1) := bc BK350 0; have hcz71_1 : w70.cell? ⟨gb350, 1, none⟩ = some (.int .i64 x351001_1) := bc BK350 1; have hcz71_2 : w70.cell? ⟨gb350, 2, none⟩ = some (.bool x351002_1) := bc BK350 2; have hfz71_0 := blk_frozen BK350.out 0; have hfz71_1 := blk_frozen BK350.out 1; have hfz71_2 := blk_frozen BK350.out 2))
      go_roundg k1
      case measure => have := HK1.out; omega
      case rel => exact ⟨(wrap64 (x7_1 - 1)), (t356), (t357), (t358), (t359), (t360), (by first | rfl | (simp; done) | (simp [*]; done)), H', ⟨by have := HK1.out; omega⟩, ⟨bP BK346⟩, ⟨bP BK347⟩, ⟨bP BK348⟩, ⟨bP BK349⟩, ⟨by (with_reducible repeat (first | refine blk_drewN ?_ _ | refine blk_drew ?_ | refine blk_alloc ?_ _)); refine blk_put (cs := #[.int .i64 t358, .int .i64 t359, .bool x351002_1]) ?_ 2 _ rfl; (with_reducible repeat (first | refine blk_drewN ?_ _ | refine blk_drew ?_ | refine blk_alloc ?_ _)); refine blk_put (cs := #[.int .i64 t358, .int .i64 x351001_1, .bool x351002_1]) ?_ 1 _ rfl; (with_reducible repeat (first | refine blk_drewN ?_ _ | refine blk_drew ?_ | refine blk_alloc ?_ _)); refine blk_put (cs := #[.int .i64 x351000_1, .int .i64 x351001_1, .bool x351002_1]) ?_ 0 _ rfl; (with_reducible repeat (first | refine blk_drewN ?_ _ | refine blk_drew ?_ | refine blk_alloc ?_ _)); exact BK350.out⟩, ⟨bZ HB⟩⟩
    ·rw [if_neg c27] at H
     exact absurd H (by simp)
   ·rw [if_neg c21] at H
    have c21b0 : decide (0 ≤ x7_1) = false := decide_eq_false c21
    clear c21
    simp only [Option.some.injEq, Prod.mk.injEq] at H
    obtain ⟨rfl, rfl⟩ := H
    have hnb72 := NB349_346.out
    have hnc72 := NB346_349.out
    have hnb73 := NB349_347.out
    have hnc73 := NB347_349.out
    have hnb74 := NB349_348.out
    have hnc74 := NB348_349.out
    have hnb75 := NB349_350.out
    have hnc75 := NB350_349.out
    have hcz76_0 : wr.cell? ⟨gb349, 0, none⟩ = some (.int .i64 x350000_1) := bc BK349 0
    have hcz76_1 : wr.cell? ⟨gb349, 1, none⟩ = some (.int .i64 x350001_1) := bc BK349 1
    have hfz76_0 := blk_frozen BK349.out 0
    have hfz76_1 := blk_frozen BK349.out 1
    have hnb77 := NB348_346.out
    have hnc77 := NB346_348.out
    have hnb78 := NB348_347.out
    have hnc78 := NB347_348.out
    have hnb79 := NB348_350.out
    have hnc79 := NB350_348.out
    have hcz80_0 : wr.cell? ⟨gb348, 0, none⟩ = some (.int .i64 0) := bc BK348 0
    have hcz80_1 : wr.cell? ⟨gb348, 1, none⟩ = some (.int .i64 0) := bc BK348 1
    have hfz80_0 := blk_frozen BK348.out 0
    have hfz80_1 := blk_frozen BK348.out 1
    go_wp2
    refine bodyPost_ret (results_cell_row rfl _ _ gb348 31 #[.int .i64 x350000_1, .int .i64 x350001_1] (0, 0) _ rfl (by (with_reducible repeat (first | refine blk_drewN ?_ _ | refine blk_drew ?_ | refine blk_alloc ?_ _)); refine blk_put (cs := #[.int .i64 x350000_1, .int .i64 0]) ?_ 1 _ rfl; (with_reducible repeat (first | refine blk_drewN ?_ _ | refine blk_drew ?_ | refine blk_alloc ?_ _)); refine blk_put (cs := #[.int .i64 0, .int .i64 0]) ?_ 0 _ rfl; (with_reducible repeat (first | refine blk_drewN ?_ _ | refine blk_drew ?_ | refine blk_alloc ?_ _)); exact BK348.out) Try.underlying31 rfl (by kernel_rfl)) rfl ?_
    exact ⟨by first | rfl | (simp [errW_none, errW_some] <;> rfl) | (simp [*, errW_none, errW_some] <;> rfl), bZ HB⟩
/-! ### impl_PointTimes: function 18 -/
def impl_PointTimes.l0 : Nat → Int → Int → Int → Bool → Int → Int → Bool → Option (Int × Int × Bool)
 | 0, _, _, _, _, _, _, _ => none
 | k + 1, x0, x369000, x369001, x369002, x371000, x371001, x371002 => if x0 > 0 then (if (Int.tmod x0 2) = 1 then ((impl_add.f k x371000 x371001 x371002 x369000 x369001 x369002).bind fun bt373 => ((impl_add.f k x369000 x369001 x369002 x369000 x369001 x369002).bind fun bt376 => (impl_PointTimes.l0 k (wrap64 (Int.tdiv x0 2)) bt376.1 bt376.2.1 bt376.2.2 bt373.1 bt373.2.1 bt373.2.2))) else ((impl_add.f k x369000 x369001 x369002 x369000 x369001 x369002).bind fun bt379 => (impl_PointTimes.l0 k (wrap64 (Int.tdiv x0 2)) bt379.1 bt379.2.1 bt379.2.2 x371000 x371001 x371002))) else (some (x371000, x371001, x371002))
def impl_PointTimes.f (k : Nat) (a0 : Int) (a1_0 : Int) (a1_1 : Int) (a1_2 : Bool) : Option (Int × Int × Bool) := (impl_PointOk.f a1_0 a1_1 a1_2).bind fun t371 => (if t371 = true then ((impl_remainder.f a0 12108).bind fun t372 => (impl_PointTimes.l0 k t372 a1_0 a1_1 a1_2 0 0 true)) else (some (0, 0, true)))
theorem impl_PointTimes.mono_l : ∀ k, (∀ y0 y1 y2 y3 y4 y5 y6, LeO (impl_PointTimes.l0 k y0 y1 y2 y3 y4 y5 y6) (impl_PointTimes.l0 (k + 1) y0 y1 y2 y3 y4 y5 y6))
 | 0 => fun _ _ _ _ _ _ _ r h => by simp [impl_PointTimes.l0] at h
 | k + 1 => by
  have ih0 := impl_PointTimes.mono_l k
  ·intro y0 y1 y2 y3 y4 y5 y6
   unfold impl_PointTimes.l0
   repeat' first
   | (with_reducible exact ih0 _ _ _ _ _ _ _)
   | (with_reducible exact impl_add.mono _ _ _ _ _ _ _)
   | (with_reducible exact LeO.refl _)
   | (with_reducible exact LeO.none _)
   | (with_reducible refine LeO.ite ?_ ?_)
   | (with_reducible refine LeO.bind ?_ (fun _ => ?_))
   | exact ih0 _ _ _ _ _ _ _
   | exact impl_add.mono _ _ _ _ _ _ _
   | exact LeO.none _
   | refine LeO.ite ?_ ?_
   | refine LeO.bind ?_ (fun _ => ?_)
theorem impl_PointTimes.mono : ∀ a0 a1 a2 a3 k, LeO (impl_PointTimes.f k a0 a1 a2 a3) (impl_PointTimes.f (k + 1) a0 a1 a2 a3) := by
 intro a0 a1 a2 a3 k
 have ih0 := impl_PointTimes.mono_l k
 unfold impl_PointTimes.f
 repeat' first
   | (with_reducible exact ih0 _ _ _ _ _ _ _)
   | (with_reducible exact impl_add.mono _ _ _ _ _ _ _)
   | (with_reducible exact LeO.refl _)
   | (with_reducible exact LeO.none _)
   | (with_reducible refine LeO.ite ?_ ?_)
   | (with_reducible refine LeO.bind ?_ (fun _ => ?_))
   | exact ih0 _ _ _ _ _ _ _
   | exact impl_add.mono _ _ _ _ _ _ _
   | exact LeO.none _
   | refine LeO.ite ?_ ?_
   | refine LeO.bind ?_ (fun _ => ?_)
set_option maxHeartbeats 8000000 in
set_option maxRecDepth 100000 in
theorem impl_PointTimes.calls (k : Nat) (a0 : Int) (a1_0 : Int) (a1_1 : Int) (a1_2 : Bool) (r1 : Int) (r2 : Int) (r3 : Bool) (w : World) (h : impl_PointTimes.f k a0 a1_0 a1_1 a1_2 = some (r1, r2, r3)) :
  Calls Try.prog 18 #[.int .i64 a0, .agg #[.int .i64 a1_0, .int .i64 a1_1, .bool a1_2]] w fun e w' => e = .returned (.agg #[.int .i64 r1, .int .i64 r2, .bool r3]) ∧ Below w.heap.size w w' := by
 have hu25 := Try.underlying25
 have HB := Aside0.mk (Below.refl w.heap.size w)
 have H : ((impl_PointOk.f a1_0 a1_1 a1_2).bind fun t371 => (if t371 = true then ((impl_remainder.f a0 12108).bind fun t372 => (impl_PointTimes.l0 k t372 a1_0 a1_1 a1_2 0 0 true)) else (some (0, 0, true)))) = some (r1, r2, r3) := h
 clear h
 replace H := Option.bind_eq_some_iff.mp H
 obtain ⟨t371, A30, H⟩ := H
 replace H : (if t371 = true then ((impl_remainder.f a0 12108).bind fun t372 => (impl_PointTimes.l0 k t372 a1_0 a1_1 a1_2 0 0 true)) else (some (0, 0, true))) = some (r1, r2, r3) := H
 have A3 := Aside0.mk A30
 clear A30
 by_cases c4 : t371 = true
 ·subst c4
  have H1 : ((impl_remainder.f a0 12108).bind fun t372 => (impl_PointTimes.l0 k t372 a1_0 a1_1 a1_2 0 0 true)) = some (r1, r2, r3) := by rw [if_pos rfl] at H; exact H
  clear H
  have H := H1
  clear H1
  replace H := Option.bind_eq_some_iff.mp H
  obtain ⟨t372, A50, H⟩ := H
  replace H : (impl_PointTimes.l0 k t372 a1_0 a1_1 a1_2 0 0 true) = some (r1, r2, r3) := H
  have A5 := Aside0.mk A50
  clear A50
  have H' := Aside0.mk H
  clear H
  go_enter Try.func18, Try.ntmps18
  go_wp2_with (first | ((with_reducible refine gate_dst (N := 3) rfl ?_); refine box_event ?hg (N := 3) ?hd (cs := #[.int .i64 a1_0, .int .i64 a1_1, .bool a1_2]) (t := 25) ?hr ?_; (case hd => rfl); (case hg => rfl); (case hr => first | (go_simp; done) | (go_simp; rfl)); intro gb368 hg w6 hbox hb; have BK368 := Aside0.mk (hbox); have GW368 := bG HB hg; have GE368 := bG HB hg; replace HB := bS HB hb; clear hb hbox hg) | ((with_reducible refine gate_dst (N := 4) rfl ?_); refine box_event ?hg (N := 4) ?hd (cs := #[.int .i64 0, .int .i64 0, .bool false]) (t := 25) ?hr ?_; (case hd => rfl); (case hg => rfl); (case hr => first | (go_simp; done) | (go_simp; rfl)); intro gb369 hg w7 hbox hb; have BK369 := Aside0.mk (hbox); have GW369 := bG HB hg; have GE369 := bG HB hg; replace HB := bS HB hb; have NB368_369 := bL BK368 hg; have NB369_368 := bR BK368 hg; replace BK368 := bB BK368 hb; clear hb hbox hg) | ((with_reducible refine gate_dst (N := 5) rfl ?_); refine box_event ?hg (N := 5) ?hd (cs := #[.int .i64 0, .int .i64 0, .bool false]) (t := 25) ?hr ?_; (case hd => rfl); (case hg => rfl); (case hr => first | (go_simp; done) | (go_simp; rfl)); intro gb370 hg w8 hbox hb; have BK370 := Aside0.mk (hbox); have GW370 := bG HB hg; have GE370 := bG HB hg; replace HB := bS HB hb; have NB368_370 := bL BK368 hg; have NB370_368 := bR BK368 hg; replace BK368 := bB BK368 hb; have NB369_370 := bL BK369 hg; have NB370_369 := bR BK369 hg; replace BK369 := bB BK369 hb; clear hb hbox hg; have hnb9 := NB370_368.out; have hnc9 := NB368_370.out; have hnb10 := NB370_369.out; have hnc10 := NB369_370.out; have hcz11_0 : w8.cell? ⟨gb370, 0, none⟩ = some (.int .i64 0) := bc BK370 0; have hcz11_1 : w8.cell? ⟨gb370, 1, none⟩ = some (.int .i64 0) := bc BK370 1; have hcz11_2 : w8.cell? ⟨gb370, 2, none⟩ = some (.bool false) := bc BK370 2; have hfz11_0 := blk_frozen BK370.out 0; have hfz11_1 := blk_frozen BK370.out 1; have hfz11_2 := blk_frozen BK370.out 2; have hnb12 := NB368_369.out; have hnc12 := NB369_368.out; have hcz13_0 : w8.cell? ⟨gb368, 0, none⟩ = some (.int .i64 a1_0) := bc BK368 0; have hcz13_1 : w8.cell? ⟨gb368, 1, none⟩ = some (.int .i64 a1_1) := bc BK368 1; have hcz13_2 : w8.cell? ⟨gb368, 2, none⟩ = some (.bool a1_2) := bc BK368 2; have hfz13_0 := blk_frozen BK368.out 0; have hfz13_1 := blk_frozen BK368.out 1; have hfz13_2 := blk_frozen BK368.out 2) | ((with_reducible refine gate_callee (f := 31) rfl ?_); refine goesL_ (some 8) rfl rfl Try.func31 (by kernel_rfl) rfl #[.agg #[.int .i64 a1_0, .int .i64 a1_1, .bool a1_2]] rfl (by (try simp only [List.map_toArray, List.map_cons, List.map_nil]); first | done | rfl | (simp only [List.length_drop, List.length_take]; rfl)) ?_; (with_reducible refine (impl_PointOk.calls a1_0 a1_1 a1_2 true _ A3.out).mono ?_); rintro e w14 ⟨rfl, hb⟩; refine ⟨_, rfl, ?_⟩; replace BK368 := bB BK368 hb; replace BK369 := bB BK369 hb; replace BK370 := Aside0.mk (blk_below (g := gb370) (o := .cells #[.int .i64 0, .int .i64 0, .bool true] 25 (0, 0)) (by (with_reducible repeat (first | refine blk_drewN ?_ _ | refine blk_drew ?_ | refine blk_alloc ?_ _)); refine blk_put (cs := #[.int .i64 0, .int .i64 0, .bool false]) ?_ 2 _ rfl; (with_reducible repeat (first | refine blk_drewN ?_ _ | refine blk_drew ?_ | refine blk_alloc ?_ _)); refine blk_put (cs := #[.int .i64 0, .int .i64 0, .bool false]) ?_ 1 _ rfl; (with_reducible repeat (first | refine blk_drewN ?_ _ | refine blk_drew ?_ | refine blk_alloc ?_ _)); refine blk_put (cs := #[.int .i64 0, .int .i64 0, .bool false]) ?_ 0 _ rfl; (with_reducible repeat (first | refine blk_drewN ?_ _ | refine blk_drew ?_ | refine blk_alloc ?_ _)); exact BK370.out) hb); replace HB := bS HB hb; (try clear hb); (try clear hb2); (try clear hk); (try clear hi)) | ((with_reducible refine gate_callee (f := 65) rfl ?_); refine goesL_ (some 12) rfl rfl Try.func65 (by kernel_rfl) rfl #[.int .i64 a0, .int .i64 12108] rfl (by (try simp only [List.map_toArray, List.map_cons, List.map_nil]); first | done | rfl | (simp only [List.length_drop, List.length_take]; rfl)) ?_; (with_reducible refine (impl_remainder.calls a0 12108 t372 _ A5.out).mono ?_); rintro e w' ⟨rfl, ⟨nd, rfl⟩⟩; refine ⟨_, rfl, ?_⟩))
  go_loopg [0] k (fun kq v0 w' => ∃ (x0_1 : Int) (x369000_1 : Int) (x369001_1 : Int) (x369002_1 : Bool) (x371000_1 : Int) (x371001_1 : Int) (x371002_1 : Bool), v0 = .int .i64 x0_1 ∧ Aside0 (impl_PointTimes.l0 kq x0_1 x369000_1 x369001_1 x369002_1 x371000_1 x371001_1 x371002_1 = some (r1, r2, r3)) ∧ Aside0 (kq ≤ k) ∧ Aside0 (w'.heap[gb368]? = some (.cells #[.int .i64 x369000_1, .int .i64 x369001_1, .bool x369002_1] 25 (0, 0))) ∧ Aside0 (w'.heap[gb369]? = some (.cells #[.int .i64 0, .int .i64 0, .bool false] 25 (0, 0))) ∧ Aside0 (w'.heap[gb370]? = some (.cells #[.int .i64 x371000_1, .int .i64 x371001_1, .bool x371002_1] 25 (0, 0))) ∧ Aside0 (Below w.heap.size w w'))
  case atStart => exact ⟨(t372), (a1_0), (a1_1), (a1_2), (0), (0), (true), (by first | rfl | (simp; done) | (simp [*]; done)), H', ⟨Nat.le_refl _⟩, ⟨bP BK368⟩, ⟨bP BK369⟩, ⟨bP BK370⟩, ⟨bZ HB⟩⟩
  case round =>
   clear H'
   try clear c1
   try clear p2
   try clear c3
   try clear c4
   try clear c6
   try clear c9
   try clear c10
   try clear c12
   try clear hcz11_0
   try clear hcz11_1
   try clear hcz11_2
   try clear hcz13_0
   try clear hcz13_1
   try clear hcz13_2
   try clear hfz11_0
   try clear hfz11_1
   try clear hfz11_2
   try clear hfz13_0
   try clear hfz13_1
   try clear hfz13_2
   obtain ⟨x0_1, x369000_1, x369001_1, x369002_1, x371000_1, x371001_1, x371002_1, rfl, HA, HK1, BK368, BK369, BK370, HB⟩ := hrel
   cases gk with
   | zero => exact absurd HA.out (by simp [impl_PointTimes.l0])
   | succ k1 =>
    have H := HA.out
    clear HA
    simp only [impl_PointTimes.l0] at H
    by_cases c15 : x0_1 > 0
    ·rw [if_pos c15] at H
     have c15b0 : decide (0 < x0_1) = true := decide_eq_true c15
     clear c15
     by_cases c16 : (Int.tmod x0_1 2) = 1
     ·rw [if_pos c16] at H
      have c16b0 : ((Int.tmod x0_1 2) == 1) = true := beq_iff_eq.mpr c16
      have c16b1 : ((Int.tmod x0_1 2) != 1) = false := bne_eq_false_iff_eq.mpr c16
      clear c16
      replace H := Option.bind_eq_some_iff.mp H
      obtain ⟨⟨t373, t374, t375⟩, A170, H⟩ := H
      replace H : ((impl_add.f k1 x369000_1 x369001_1 x369002_1 x369000_1 x369001_1 x369002_1).bind fun bt376 => (impl_PointTimes.l0 k1 (wrap64 (Int.tdiv x0_1 2)) bt376.1 bt376.2.1 bt376.2.2 t373 t374 t375)) = some (r1, r2, r3) := H
      have A17 := Aside0.mk A170
      clear A170
      replace H := Option.bind_eq_some_iff.mp H
      obtain ⟨⟨t376, t377, t378⟩, A180, H⟩ := H
      replace H : (impl_PointTimes.l0 k1 (wrap64 (Int.tdiv x0_1 2)) t376 t377 t378 t373 t374 t375) = some (r1, r2, r3) := H
      have A18 := Aside0.mk A180
      clear A180
      have H' := Aside0.mk H
      clear H
      have hnb19 := NB370_368.out
      have hnc19 := NB368_370.out
      have hnb20 := NB370_369.out
      have hnc20 := NB369_370.out
      have hcz21_0 : wr.cell? ⟨gb370, 0, none⟩ = some (.int .i64 x371000_1) := bc BK370 0
      have hcz21_1 : wr.cell? ⟨gb370, 1, none⟩ = some (.int .i64 x371001_1) := bc BK370 1
      have hcz21_2 : wr.cell? ⟨gb370, 2, none⟩ = some (.bool x371002_1) := bc BK370 2
      have hfz21_0 := blk_frozen BK370.out 0
      have hfz21_1 := blk_frozen BK370.out 1
      have hfz21_2 := blk_frozen BK370.out 2
      have hnb22 := NB368_369.out
      have hnc22 := NB369_368.out
      have hcz23_0 : wr.cell? ⟨gb368, 0, none⟩ = some (.int .i64 x369000_1) := bc BK368 0
      have hcz23_1 : wr.cell? ⟨gb368, 1, none⟩ = some (.int .i64 x369001_1) := bc BK368 1
      have hcz23_2 : wr.cell? ⟨gb368, 2, none⟩ = some (.bool x369002_1) := bc BK368 2
      have hfz23_0 := blk_frozen BK368.out 0
      have hfz23_1 := blk_frozen BK368.out 1
      have hfz23_2 := blk_frozen BK368.out 2
      go_wp2_with (first | ((with_reducible refine gate_callee (f := 66) rfl ?_); refine goesL_ (some 22) rfl rfl Try.func66 (by kernel_rfl) rfl #[.agg #[.int .i64 x371000_1, .int .i64 x371001_1, .bool x371002_1], .agg #[.int .i64 x369000_1, .int .i64 x369001_1, .bool x369002_1]] rfl (by (try simp only [List.map_toArray, List.map_cons, List.map_nil]); first | done | rfl | (simp only [List.length_drop, List.length_take]; rfl)) ?_; (with_reducible refine (impl_add.calls k1 x371000_1 x371001_1 x371002_1 x369000_1 x369001_1 x369002_1 t373 t374 t375 _ A17.out).mono ?_); rintro e w24 ⟨rfl, hb⟩; refine ⟨_, rfl, ?_⟩; replace BK368 := bB BK368 hb; replace BK369 := bB BK369 hb; replace BK370 := bB BK370 hb; replace HB := bS HB hb; (try clear hb); (try clear hb2); (try clear hk); (try clear hi); have hcz25_0 : w24.cell? ⟨gb370, 0, none⟩ = some (.int .i64 x371000_1) := bc BK370 0; have hcz25_1 : w24.cell? ⟨gb370, 1, none⟩ = some (.int .i64 x371001_1) := bc BK370 1; have hcz25_2 : w24.cell? ⟨gb370, 2, none⟩ = some (.bool x371002_1) := bc BK370 2; have hfz25_0 := blk_frozen BK370.out 0; have hfz25_1 := blk_frozen BK370.out 1; have hfz25_2 := blk_frozen BK370.out 2; have hcz26_0 : w24.cell? ⟨gb368, 0, none⟩ = some (.int .i64 x369000_1) := bc BK368 0; have hcz26_1 : w24.cell? ⟨gb368, 1, none⟩ = some (.int .i64 x369001_1) := bc BK368 1; have hcz26_2 : w24.cell? ⟨gb368, 2, none⟩ = some (.bool x369002_1) := bc BK368 2; have hfz26_0 := blk_frozen BK368.out 0; have hfz26_1 := blk_frozen BK368.out 1; have hfz26_2 := blk_frozen BK368.out 2) | ((with_reducible refine gate_callee (f := 66) rfl ?_); refine goesL_ (some 25) rfl rfl Try.func66 (by kernel_rfl) rfl #[.agg #[.int .i64 x369000_1, .int .i64 x369001_1, .bool x369002_1], .agg #[.int .i64 x369000_1, .int .i64 x369001_1, .bool x369002_1]] rfl (by (try simp only [List.map_toArray, List.map_cons, List.map_nil]); first | done | rfl | (simp only [List.length_drop, List.length_take]; rfl)) ?_; (with_reducible refine (impl_add.calls k1 x369000_1 x369001_1 x369002_1 x369000_1 x369001_1 x369002_1 t376 t377 t378 _ A18.out).mono ?_); rintro e w27 ⟨rfl, hb⟩; refine ⟨_, rfl, ?_⟩; replace BK368 := bB BK368 hb; replace BK369 := bB BK369 hb; replace BK370 := Aside0.mk (blk_below (g := gb370) (o := .cells #[.int .i64 t373, .int .i64 t374, .bool t375] 25 (0, 0)) (by (with_reducible repeat (first | refine blk_drewN ?_ _ | refine blk_drew ?_ | refine blk_alloc ?_ _)); refine blk_put (cs := #[.int .i64 t373, .int .i64 t374, .bool x371002_1]) ?_ 2 _ rfl; (with_reducible repeat (first | refine blk_drewN ?_ _ | refine blk_drew ?_ | refine blk_alloc ?_ _)); refine blk_put (cs := #[.int .i64 t373, .int .i64 x371001_1, .bool x371002_1]) ?_ 1 _ rfl; (with_reducible repeat (first | refine blk_drewN ?_ _ | refine blk_drew ?_ | refine blk_alloc ?_ _)); refine blk_put (cs := #[.int .i64 x371000_1, .int .i64 x371001_1, .bool x371002_1]) ?_ 0 _ rfl; (with_reducible repeat (first | refine blk_drewN ?_ _ | refine blk_drew ?_ | refine blk_alloc ?_ _)); exact BK370.out) hb); replace HB := bS HB hb; (try clear hb); (try clear hb2); (try clear hk); (try clear hi); have hcz28_0 : w27.cell? ⟨gb368, 0, none⟩ = some (.int .i64 x369000_1) := bc BK368 0; have hcz28_1 : w27.cell? ⟨gb368, 1, none⟩ = some (.int .i64 x369001_1) := bc BK368 1; have hcz28_2 : w27.cell? ⟨gb368, 2, none⟩ = some (.bool x369002_1) := bc BK368 2; have hfz28_0 := blk_frozen BK368.out 0; have hfz28_1 := blk_frozen BK368.out 1; have hfz28_2 := blk_frozen BK368.out 2))
      go_roundg k1
      case measure => have := HK1.out; omega
      case rel => exact ⟨(wrap64 (Int.tdiv x0_1 2)), (t376), (t377), (t378), (t373), (t374), (t375), (by first | rfl | (simp; done) | (simp [*]; done)), H', ⟨by have := HK1.out; omega⟩, ⟨by (with_reducible repeat (first | refine blk_drewN ?_ _ | refine blk_drew ?_ | refine blk_alloc ?_ _)); refine blk_put (cs := #[.int .i64 t376, .int .i64 t377, .bool x369002_1]) ?_ 2 _ rfl; (with_reducible repeat (first | refine blk_drewN ?_ _ | refine blk_drew ?_ | refine blk_alloc ?_ _)); refine blk_put (cs := #[.int .i64 t376, .int .i64 x369001_1, .bool x369002_1]) ?_ 1 _ rfl; (with_reducible repeat (first | refine blk_drewN ?_ _ | refine blk_drew ?_ | refine blk_alloc ?_ _)); refine blk_put (cs := #[.int .i64 x369000_1, .int .i64 x369001_1, .bool x369002_1]) ?_ 0 _ rfl; (with_reducible repeat (first | refine blk_drewN ?_ _ | refine blk_drew ?_ | refine blk_alloc ?_ _)); exact BK368.out⟩, ⟨bP BK369⟩, ⟨bP BK370⟩, ⟨bZ HB⟩⟩
     ·rw [if_neg c16] at H
      have c16b0 : ((Int.tmod x0_1 2) == 1) = false := beq_eq_false_iff_ne.mpr c16
      have c16b1 : ((Int.tmod x0_1 2) != 1) = true := bne_iff_ne.mpr c16
      replace H := Option.bind_eq_some_iff.mp H
      obtain ⟨⟨t379, t380, t381⟩, A290, H⟩ := H
      replace H : (impl_PointTimes.l0 k1 (wrap64 (Int.tdiv x0_1 2)) t379 t380 t381 x371000_1 x371001_1 x371002_1) = some (r1, r2, r3) := H
      have A29 := Aside0.mk A290
      clear A290
      have H' := Aside0.mk H
      clear H
      have hnb30 := NB368_369.out
      have hnc30 := NB369_368.out
      have hnb31 := NB368_370.out
      have hnc31 := NB370_368.out
      have hcz32_0 : wr.cell? ⟨gb368, 0, none⟩ = some (.int .i64 x369000_1) := bc BK368 0
      have hcz32_1 : wr.cell? ⟨gb368, 1, none⟩ = some (.int .i64 x369001_1) := bc BK368 1
      have hcz32_2 : wr.cell? ⟨gb368, 2, none⟩ = some (.bool x369002_1) := bc BK368 2
      have hfz32_0 := blk_frozen BK368.out 0
      have hfz32_1 := blk_frozen BK368.out 1
      have hfz32_2 := blk_frozen BK368.out 2
      go_wp2_with (first | ((with_reducible refine gate_callee (f := 66) rfl ?_); refine goesL_ (some 25) rfl rfl Try.func66 (by kernel_rfl) rfl #[.agg #[.int .i64 x369000_1, .int .i64 x369001_1, .bool x369002_1], .agg #[.int .i64 x369000_1, .int .i64 x369001_1, .bool x369002_1]] rfl (by (try simp only [List.map_toArray, List.map_cons, List.map_nil]); first | done | rfl | (simp only [List.length_drop, List.length_take]; rfl)) ?_; (with_reducible refine (impl_add.calls k1 x369000_1 x369001_1 x369002_1 x369000_1 x369001_1 x369002_1 t379 t380 t381 _ A29.out).mono ?_); rintro e w33 ⟨rfl, hb⟩; refine ⟨_, rfl, ?_⟩; replace BK368 := bB BK368 hb; replace BK369 := bB BK369 hb; replace BK370 := bB BK370 hb; replace HB := bS HB hb; (try clear hb); (try clear hb2); (try clear hk); (try clear hi); have hcz34_0 : w33.cell? ⟨gb368, 0, none⟩ = some (.int .i64 x369000_1) := bc BK368 0; have hcz34_1 : w33.cell? ⟨gb368, 1, none⟩ = some (.int .i64 x369001_1) := bc BK368 1; have hcz34_2 : w33.cell? ⟨gb368, 2, none⟩ = some (.bool x369002_1) := bc BK368 2; have hfz34_0 := blk_frozen BK368.out 0; have hfz34_1 := blk_frozen BK368.out 1; have hfz34_2 := blk_frozen BK368.out 2))
      go_roundg k1
      case measure => have := HK1.out; omega
      case rel => exact ⟨(wrap64 (Int.tdiv x0_1 2)), (t379), (t380), (t381), (x371000_1), (x371001_1), (x371002_1), (by first | rfl | (simp; done) | (simp [*]; done)), H', ⟨by have := HK1.out; omega⟩, ⟨by (with_reducible repeat (first | refine blk_drewN ?_ _ | refine blk_drew ?_ | refine blk_alloc ?_ _)); refine blk_put (cs := #[.int .i64 t379, .int .i64 t380, .bool x369002_1]) ?_ 2 _ rfl; (with_reducible repeat (first | refine blk_drewN ?_ _ | refine blk_drew ?_ | refine blk_alloc ?_ _)); refine blk_put (cs := #[.int .i64 t379, .int .i64 x369001_1, .bool x369002_1]) ?_ 1 _ rfl; (with_reducible repeat (first | refine blk_drewN ?_ _ | refine blk_drew ?_ | refine blk_alloc ?_ _)); refine blk_put (cs := #[.int .i64 x369000_1, .int .i64 x369001_1, .bool x369002_1]) ?_ 0 _ rfl; (with_reducible repeat (first | refine blk_drewN ?_ _ | refine blk_drew ?_ | refine blk_alloc ?_ _)); exact BK368.out⟩, ⟨bP BK369⟩, ⟨bP BK370⟩, ⟨bZ HB⟩⟩
    ·rw [if_neg c15] at H
     have c15b0 : decide (0 < x0_1) = false := decide_eq_false c15
     clear c15
     simp only [Option.some.injEq, Prod.mk.injEq] at H
     obtain ⟨rfl, rfl, rfl⟩ := H
     have hnb35 := NB370_368.out
     have hnc35 := NB368_370.out
     have hnb36 := NB370_369.out
     have hnc36 := NB369_370.out
     have hcz37_0 : wr.cell? ⟨gb370, 0, none⟩ = some (.int .i64 x371000_1) := bc BK370 0
     have hcz37_1 : wr.cell? ⟨gb370, 1, none⟩ = some (.int .i64 x371001_1) := bc BK370 1
     have hcz37_2 : wr.cell? ⟨gb370, 2, none⟩ = some (.bool x371002_1) := bc BK370 2
     have hfz37_0 := blk_frozen BK370.out 0
     have hfz37_1 := blk_frozen BK370.out 1
     have hfz37_2 := blk_frozen BK370.out 2
     have hnb38 := NB369_368.out
     have hnc38 := NB368_369.out
     have hcz39_0 : wr.cell? ⟨gb369, 0, none⟩ = some (.int .i64 0) := bc BK369 0
     have hcz39_1 : wr.cell? ⟨gb369, 1, none⟩ = some (.int .i64 0) := bc BK369 1
     have hcz39_2 : wr.cell? ⟨gb369, 2, none⟩ = some (.bool false) := bc BK369 2
     have hfz39_0 := blk_frozen BK369.out 0
     have hfz39_1 := blk_frozen BK369.out 1
     have hfz39_2 := blk_frozen BK369.out 2
     go_wp2
     refine bodyPost_ret (results_cell_row rfl _ _ gb369 25 #[.int .i64 x371000_1, .int .i64 x371001_1, .bool x371002_1] (0, 0) _ rfl (by (with_reducible repeat (first | refine blk_drewN ?_ _ | refine blk_drew ?_ | refine blk_alloc ?_ _)); refine blk_put (cs := #[.int .i64 x371000_1, .int .i64 x371001_1, .bool false]) ?_ 2 _ rfl; (with_reducible repeat (first | refine blk_drewN ?_ _ | refine blk_drew ?_ | refine blk_alloc ?_ _)); refine blk_put (cs := #[.int .i64 x371000_1, .int .i64 0, .bool false]) ?_ 1 _ rfl; (with_reducible repeat (first | refine blk_drewN ?_ _ | refine blk_drew ?_ | refine blk_alloc ?_ _)); refine blk_put (cs := #[.int .i64 0, .int .i64 0, .bool false]) ?_ 0 _ rfl; (with_reducible repeat (first | refine blk_drewN ?_ _ | refine blk_drew ?_ | refine blk_alloc ?_ _)); exact BK369.out) Try.underlying25 rfl (by kernel_rfl)) rfl ?_
     exact ⟨by first | rfl | (simp [errW_none, errW_some] <;> rfl) | (simp [*, errW_none, errW_some] <;> rfl), bZ HB⟩
 ·replace c4 := Bool.eq_false_iff.mpr c4
  subst c4
  have H1 : (some (0, 0, true)) = some (r1, r2, r3) := by rw [if_neg (show ¬ (false = true) by decide)] at H; exact H
  clear H
  have H := H1
  clear H1
  simp only [Option.some.injEq, Prod.mk.injEq] at H
  obtain ⟨rfl, rfl, rfl⟩ := H
  go_enter Try.func18, Try.ntmps18
  go_wp2_with (first | ((with_reducible refine gate_dst (N := 3) rfl ?_); refine box_event ?hg (N := 3) ?hd (cs := #[.int .i64 a1_0, .int .i64 a1_1, .bool a1_2]) (t := 25) ?hr ?_; (case hd => rfl); (case hg => rfl); (case hr => first | (go_simp; done) | (go_simp; rfl)); intro gb368 hg w40 hbox hb; have BK368 := Aside0.mk (hbox); have GW368 := bG HB hg; have GE368 := bG HB hg; replace HB := bS HB hb; clear hb hbox hg) | ((with_reducible refine gate_dst (N := 4) rfl ?_); refine box_event ?hg (N := 4) ?hd (cs := #[.int .i64 0, .int .i64 0, .bool false]) (t := 25) ?hr ?_; (case hd => rfl); (case hg => rfl); (case hr => first | (go_simp; done) | (go_simp; rfl)); intro gb369 hg w41 hbox hb; have BK369 := Aside0.mk (hbox); have GW369 := bG HB hg; have GE369 := bG HB hg; replace HB := bS HB hb; have NB368_369 := bL BK368 hg; have NB369_368 := bR BK368 hg; replace BK368 := bB BK368 hb; clear hb hbox hg) | ((with_reducible refine gate_dst (N := 5) rfl ?_); refine box_event ?hg (N := 5) ?hd (cs := #[.int .i64 0, .int .i64 0, .bool false]) (t := 25) ?hr ?_; (case hd => rfl); (case hg => rfl); (case hr => first | (go_simp; done) | (go_simp; rfl)); intro gb370 hg w42 hbox hb; have BK370 := Aside0.mk (hbox); have GW370 := bG HB hg; have GE370 := bG HB hg; replace HB := bS HB hb; have NB368_370 := bL BK368 hg; have NB370_368 := bR BK368 hg; replace BK368 := bB BK368 hb; have NB369_370 := bL BK369 hg; have NB370_369 := bR BK369 hg; replace BK369 := bB BK369 hb; clear hb hbox hg; have hnb43 := NB370_368.out; have hnc43 := NB368_370.out; have hnb44 := NB370_369.out; have hnc44 := NB369_370.out; have hcz45_0 : w42.cell? ⟨gb370, 0, none⟩ = some (.int .i64 0) := bc BK370 0; have hcz45_1 : w42.cell? ⟨gb370, 1, none⟩ = some (.int .i64 0) := bc BK370 1; have hcz45_2 : w42.cell? ⟨gb370, 2, none⟩ = some (.bool false) := bc BK370 2; have hfz45_0 := blk_frozen BK370.out 0; have hfz45_1 := blk_frozen BK370.out 1; have hfz45_2 := blk_frozen BK370.out 2; have hnb46 := NB368_369.out; have hnc46 := NB369_368.out; have hcz47_0 : w42.cell? ⟨gb368, 0, none⟩ = some (.int .i64 a1_0) := bc BK368 0; have hcz47_1 : w42.cell? ⟨gb368, 1, none⟩ = some (.int .i64 a1_1) := bc BK368 1; have hcz47_2 : w42.cell? ⟨gb368, 2, none⟩ = some (.bool a1_2) := bc BK368 2; have hfz47_0 := blk_frozen BK368.out 0; have hfz47_1 := blk_frozen BK368.out 1; have hfz47_2 := blk_frozen BK368.out 2) | ((with_reducible refine gate_callee (f := 31) rfl ?_); refine goesL_ (some 8) rfl rfl Try.func31 (by kernel_rfl) rfl #[.agg #[.int .i64 a1_0, .int .i64 a1_1, .bool a1_2]] rfl (by (try simp only [List.map_toArray, List.map_cons, List.map_nil]); first | done | rfl | (simp only [List.length_drop, List.length_take]; rfl)) ?_; (with_reducible refine (impl_PointOk.calls a1_0 a1_1 a1_2 false _ A3.out).mono ?_); rintro e w48 ⟨rfl, hb⟩; refine ⟨_, rfl, ?_⟩; replace BK368 := bB BK368 hb; replace BK369 := bB BK369 hb; replace BK370 := Aside0.mk (blk_below (g := gb370) (o := .cells #[.int .i64 0, .int .i64 0, .bool true] 25 (0, 0)) (by (with_reducible repeat (first | refine blk_drewN ?_ _ | refine blk_drew ?_ | refine blk_alloc ?_ _)); refine blk_put (cs := #[.int .i64 0, .int .i64 0, .bool false]) ?_ 2 _ rfl; (with_reducible repeat (first | refine blk_drewN ?_ _ | refine blk_drew ?_ | refine blk_alloc ?_ _)); refine blk_put (cs := #[.int .i64 0, .int .i64 0, .bool false]) ?_ 1 _ rfl; (with_reducible repeat (first | refine blk_drewN ?_ _ | refine blk_drew ?_ | refine blk_alloc ?_ _)); refine blk_put (cs := #[.int .i64 0, .int .i64 0, .bool false]) ?_ 0 _ rfl; (with_reducible repeat (first | refine blk_drewN ?_ _ | refine blk_drew ?_ | refine blk_alloc ?_ _)); exact BK370.out) hb); replace HB := bS HB hb; (try clear hb); (try clear hb2); (try clear hk); (try clear hi); have hcz49_0 : w48.cell? ⟨gb370, 0, none⟩ = some (.int .i64 0) := bc BK370 0; have hcz49_1 : w48.cell? ⟨gb370, 1, none⟩ = some (.int .i64 0) := bc BK370 1; have hcz49_2 : w48.cell? ⟨gb370, 2, none⟩ = some (.bool true) := bc BK370 2; have hfz49_0 := blk_frozen BK370.out 0; have hfz49_1 := blk_frozen BK370.out 1; have hfz49_2 := blk_frozen BK370.out 2; have hcz50_0 : w48.cell? ⟨gb369, 0, none⟩ = some (.int .i64 0) := bc BK369 0; have hcz50_1 : w48.cell? ⟨gb369, 1, none⟩ = some (.int .i64 0) := bc BK369 1; have hcz50_2 : w48.cell? ⟨gb369, 2, none⟩ = some (.bool false) := bc BK369 2; have hfz50_0 := blk_frozen BK369.out 0; have hfz50_1 := blk_frozen BK369.out 1; have hfz50_2 := blk_frozen BK369.out 2))
  refine bodyPost_ret (results_cell_row rfl _ _ gb369 25 #[.int .i64 0, .int .i64 0, .bool true] (0, 0) _ rfl (by (with_reducible repeat (first | refine blk_drewN ?_ _ | refine blk_drew ?_ | refine blk_alloc ?_ _)); refine blk_put (cs := #[.int .i64 0, .int .i64 0, .bool false]) ?_ 2 _ rfl; (with_reducible repeat (first | refine blk_drewN ?_ _ | refine blk_drew ?_ | refine blk_alloc ?_ _)); refine blk_put (cs := #[.int .i64 0, .int .i64 0, .bool false]) ?_ 1 _ rfl; (with_reducible repeat (first | refine blk_drewN ?_ _ | refine blk_drew ?_ | refine blk_alloc ?_ _)); refine blk_put (cs := #[.int .i64 0, .int .i64 0, .bool false]) ?_ 0 _ rfl; (with_reducible repeat (first | refine blk_drewN ?_ _ | refine blk_drew ?_ | refine blk_alloc ?_ _)); exact BK369.out) Try.underlying25 rfl (by kernel_rfl)) rfl ?_
  exact ⟨by first | rfl | (simp [errW_none, errW_some] <;> rfl) | (simp [*, errW_none, errW_some] <;> rfl), bZ HB⟩
/-! ### impl_InGroup: function 51 -/
def impl_InGroup.f (k : Nat) (a0_0 : Int) (a0_1 : Int) (a0_2 : Bool) : Option (Bool) := (impl_PointOk.f a0_0 a0_1 a0_2).bind fun t383 => (if t383 = true then ((impl_PointTimes.f k 1009 a0_0 a0_1 a0_2).bind fun bt384 => (some bt384.2.2)) else (some false))
theorem impl_InGroup.mono : ∀ a0 a1 a2 k, LeO (impl_InGroup.f k a0 a1 a2) (impl_InGroup.f (k + 1) a0 a1 a2) := by
 intro a0 a1 a2 k
 unfold impl_InGroup.f
 repeat' first
   | (with_reducible exact impl_PointTimes.mono _ _ _ _ _)
   | (with_reducible exact LeO.refl _)
   | (with_reducible exact LeO.none _)
   | (with_reducible refine LeO.ite ?_ ?_)
   | (with_reducible refine LeO.bind ?_ (fun _ => ?_))
   | exact impl_PointTimes.mono _ _ _ _ _
   | exact LeO.none _
   | refine LeO.ite ?_ ?_
   | refine LeO.bind ?_ (fun _ => ?_)
set_option maxHeartbeats 8000000 in
set_option maxRecDepth 100000 in
theorem impl_InGroup.calls (k : Nat) (a0_0 : Int) (a0_1 : Int) (a0_2 : Bool) (r : Bool) (w : World) (h : impl_InGroup.f k a0_0 a0_1 a0_2 = some r) :
  Calls Try.prog 51 #[.agg #[.int .i64 a0_0, .int .i64 a0_1, .bool a0_2]] w fun e w' => e = .returned (.bool r) ∧ Below w.heap.size w w' := by
 have hu25 := Try.underlying25
 have hfd25_0 : ∀ (x0 : Int) (x1 : Int) (x2 : Bool) (w_ : World), (Instr.field 25 (.agg #[.int .i64 x0, .int .i64 x1, .bool x2]) 0).run Try.prog w_ = .ok (.int .i64 x0) w_ := fun _ _ _ _ => by kernel_rfl
 have hfd25_1 : ∀ (x0 : Int) (x1 : Int) (x2 : Bool) (w_ : World), (Instr.field 25 (.agg #[.int .i64 x0, .int .i64 x1, .bool x2]) 1).run Try.prog w_ = .ok (.int .i64 x1) w_ := fun _ _ _ _ => by kernel_rfl
 have hfd25_2 : ∀ (x0 : Int) (x1 : Int) (x2 : Bool) (w_ : World), (Instr.field 25 (.agg #[.int .i64 x0, .int .i64 x1, .bool x2]) 2).run Try.prog w_ = .ok (.bool x2) w_ := fun _ _ _ _ => by kernel_rfl
 have HB := Aside0.mk (Below.refl w.heap.size w)
 have H : ((impl_PointOk.f a0_0 a0_1 a0_2).bind fun t383 => (if t383 = true then ((impl_PointTimes.f k 1009 a0_0 a0_1 a0_2).bind fun bt384 => (some bt384.2.2)) else (some false))) = some r := h
 clear h
 replace H := Option.bind_eq_some_iff.mp H
 obtain ⟨t383, A20, H⟩ := H
 replace H : (if t383 = true then ((impl_PointTimes.f k 1009 a0_0 a0_1 a0_2).bind fun bt384 => (some bt384.2.2)) else (some false)) = some r := H
 have A2 := Aside0.mk A20
 clear A20
 by_cases c3 : t383 = true
 ·subst c3
  have H1 : ((impl_PointTimes.f k 1009 a0_0 a0_1 a0_2).bind fun bt384 => (some bt384.2.2)) = some r := by rw [if_pos rfl] at H; exact H
  clear H
  have H := H1
  clear H1
  replace H := Option.bind_eq_some_iff.mp H
  obtain ⟨⟨t384, t385, t386⟩, A40, H⟩ := H
  replace H : (some t386) = some r := H
  have A4 := Aside0.mk A40
  clear A40
  obtain rfl := Option.some.inj H
  go_enter Try.func51, Try.ntmps51
  go_wp2_with (first | ((with_reducible refine gate_dst (N := 1) rfl ?_); refine box_event ?hg (N := 1) ?hd (cs := #[.int .i64 a0_0, .int .i64 a0_1, .bool a0_2]) (t := 25) ?hr ?_; (case hd => rfl); (case hg => rfl); (case hr => first | (go_simp; done) | (go_simp; rfl)); intro gb382 hg w5 hbox hb; have BK382 := Aside0.mk (hbox); have GW382 := bG HB hg; have GE382 := bG HB hg; replace HB := bS HB hb; clear hb hbox hg; have hcz6_0 : w5.cell? ⟨gb382, 0, none⟩ = some (.int .i64 a0_0) := bc BK382 0; have hcz6_1 : w5.cell? ⟨gb382, 1, none⟩ = some (.int .i64 a0_1) := bc BK382 1; have hcz6_2 : w5.cell? ⟨gb382, 2, none⟩ = some (.bool a0_2) := bc BK382 2; have hfz6_0 := blk_frozen BK382.out 0; have hfz6_1 := blk_frozen BK382.out 1; have hfz6_2 := blk_frozen BK382.out 2) | ((with_reducible refine gate_callee (f := 31) rfl ?_); refine goesL_ (some 4) rfl rfl Try.func31 (by kernel_rfl) rfl #[.agg #[.int .i64 a0_0, .int .i64 a0_1, .bool a0_2]] rfl (by (try simp only [List.map_toArray, List.map_cons, List.map_nil]); first | done | rfl | (simp only [List.length_drop, List.length_take]; rfl)) ?_; (with_reducible refine (impl_PointOk.calls a0_0 a0_1 a0_2 true _ A2.out).mono ?_); rintro e w7 ⟨rfl, hb⟩; refine ⟨_, rfl, ?_⟩; replace BK382 := bB BK382 hb; replace HB := bS HB hb; (try clear hb); (try clear hb2); (try clear hk); (try clear hi); have hcz8_0 : w7.cell? ⟨gb382, 0, none⟩ = some (.int .i64 a0_0) := bc BK382 0; have hcz8_1 : w7.cell? ⟨gb382, 1, none⟩ = some (.int .i64 a0_1) := bc BK382 1; have hcz8_2 : w7.cell? ⟨gb382, 2, none⟩ = some (.bool a0_2) := bc BK382 2; have hfz8_0 := blk_frozen BK382.out 0; have hfz8_1 := blk_frozen BK382.out 1; have hfz8_2 := blk_frozen BK382.out 2) | (go_at_call 18; (with_reducible refine (impl_PointTimes.calls k 1009 a0_0 a0_1 a0_2 t384 t385 t386 _ A4.out).mono ?_); rintro e w9 ⟨rfl, hb⟩; replace BK382 := bB BK382 hb; replace HB := bS HB hb; (try clear hb); (try clear hb2); (try clear hk); (try clear hi)))
  go_ret
  exact ⟨by first | rfl | (simp [errW_none, errW_some] <;> rfl) | (simp [*, errW_none, errW_some] <;> rfl), bZ HB⟩
 ·replace c3 := Bool.eq_false_iff.mpr c3
  subst c3
  have H1 : (some false) = some r := by rw [if_neg (show ¬ (false = true) by decide)] at H; exact H
  clear H
  have H := H1
  clear H1
  obtain rfl := Option.some.inj H
  go_enter Try.func51, Try.ntmps51
  go_wp2_with (first | ((with_reducible refine gate_dst (N := 1) rfl ?_); refine box_event ?hg (N := 1) ?hd (cs := #[.int .i64 a0_0, .int .i64 a0_1, .bool a0_2]) (t := 25) ?hr ?_; (case hd => rfl); (case hg => rfl); (case hr => first | (go_simp; done) | (go_simp; rfl)); intro gb382 hg w10 hbox hb; have BK382 := Aside0.mk (hbox); have GW382 := bG HB hg; have GE382 := bG HB hg; replace HB := bS HB hb; clear hb hbox hg; have hcz11_0 : w10.cell? ⟨gb382, 0, none⟩ = some (.int .i64 a0_0) := bc BK382 0; have hcz11_1 : w10.cell? ⟨gb382, 1, none⟩ = some (.int .i64 a0_1) := bc BK382 1; have hcz11_2 : w10.cell? ⟨gb382, 2, none⟩ = some (.bool a0_2) := bc BK382 2; have hfz11_0 := blk_frozen BK382.out 0; have hfz11_1 := blk_frozen BK382.out 1; have hfz11_2 := blk_frozen BK382.out 2) | ((with_reducible refine gate_callee (f := 31) rfl ?_); refine goesL_ (some 4) rfl rfl Try.func31 (by kernel_rfl) rfl #[.agg #[.int .i64 a0_0, .int .i64 a0_1, .bool a0_2]] rfl (by (try simp only [List.map_toArray, List.map_cons, List.map_nil]); first | done | rfl | (simp only [List.length_drop, List.length_take]; rfl)) ?_; (with_reducible refine (impl_PointOk.calls a0_0 a0_1 a0_2 false _ A2.out).mono ?_); rintro e w12 ⟨rfl, hb⟩; refine ⟨_, rfl, ?_⟩; replace BK382 := bB BK382 hb; replace HB := bS HB hb; (try clear hb); (try clear hb2); (try clear hk); (try clear hi)))
  go_ret
  exact ⟨by first | rfl | (simp [errW_none, errW_some] <;> rfl) | (simp [*, errW_none, errW_some] <;> rfl), bZ HB⟩
/-! ### impl_TwoTurn: function 63 -/
def impl_TwoTurn.f (a0_0 : Int) (a0_1 : Int) : Option (Int × Int) := (impl_FpOf.f a0_0).bind fun t389 => ((impl_FpSub.f 0 a0_1).bind fun t390 => (some (t389, t390)))
def impl_TwoTurn.T1 : Bool × List (List Nat × List Nat) := (true, [([], []), ([0], [0]), ([1], [1]), ([], []), ([3], [3]), ([4, 2], [4]), ([2, 5], [2, 5]), ([6, 5, 0, 1, 2, 3, 4, 5, 6], [6])])
def impl_TwoTurn.B1 : List Nat := [0, 1, 3, 0, 8, 31, 63, 127]
theorem impl_TwoTurn.tab1 : rtab .any (opsOf Try.f63 1) = impl_TwoTurn.T1 := by kernel_rfl
theorem impl_TwoTurn.bits1 : waitsOk impl_TwoTurn.T1.2 impl_TwoTurn.B1 = true := by kernel_rfl
set_option maxHeartbeats 8000000 in
set_option maxRecDepth 100000 in
theorem impl_TwoTurn.calls (a0_0 : Int) (a0_1 : Int) (r1 : Int) (r2 : Int) (w : World) (h : impl_TwoTurn.f a0_0 a0_1 = some (r1, r2)) :
  Calls Try.prog 63 #[.agg #[.int .i64 a0_0, .int .i64 a0_1]] w fun e w' => e = .returned (.agg #[.int .i64 r1, .int .i64 r2]) ∧ Below w.heap.size w w' := by
 have hu31 := Try.underlying31
 have HB := Aside0.mk (Below.refl w.heap.size w)
 have H : ((impl_FpOf.f a0_0).bind fun t389 => ((impl_FpSub.f 0 a0_1).bind fun t390 => (some (t389, t390)))) = some (r1, r2) := h
 clear h
 replace H := Option.bind_eq_some_iff.mp H
 obtain ⟨t389, A20, H⟩ := H
 replace H : ((impl_FpSub.f 0 a0_1).bind fun t390 => (some (t389, t390))) = some (r1, r2) := H
 have A2 := Aside0.mk A20
 clear A20
 replace H := Option.bind_eq_some_iff.mp H
 obtain ⟨t390, A30, H⟩ := H
 replace H : (some (t389, t390)) = some (r1, r2) := H
 have A3 := Aside0.mk A30
 clear A30
 simp only [Option.some.injEq, Prod.mk.injEq] at H
 obtain ⟨rfl, rfl⟩ := H
 go_enter Try.func63, Try.ntmps63
 try go_wp2_with (first | ((with_reducible refine gate_dst (N := 1) rfl ?_); refine box_event ?hg (N := 1) ?hd (cs := #[.int .i64 a0_0, .int .i64 a0_1]) (t := 31) ?hr ?_; (case hd => rfl); (case hg => rfl); (case hr => first | (go_simp; done) | (go_simp; rfl)); intro gb387 hg w4 hbox hb; have BK387 := Aside0.mk (hbox); have GW387 := bG HB hg; have GE387 := bG HB hg; replace HB := bS HB hb; clear hb hbox hg) | ((with_reducible refine gate_dst (N := 2) rfl ?_); refine box_event ?hg (N := 2) ?hd (cs := #[.int .i64 0, .int .i64 0]) (t := 31) ?hr ?_; (case hd => rfl); (case hg => rfl); (case hr => first | (go_simp; done) | (go_simp; rfl)); intro gb388 hg w5 hbox hb; have BK388 := Aside0.mk (hbox); have GW388 := bG HB hg; have GE388 := bG HB hg; replace HB := bS HB hb; have NB387_388 := bL BK387 hg; have NB388_387 := bR BK387 hg; replace BK387 := bB BK387 hb; clear hb hbox hg))
 replace BK387 := Aside0.mk (blk_drew BK387.out)
 replace BK388 := Aside0.mk (blk_drew BK388.out)
 replace HB := Aside0.mk (below_drew1 HB.out)
 refine start_ (n := 8) (S := fun w' => w'.cell? ⟨gb387, 0, none⟩ = some (.int .i64 a0_0) ∧ w'.cell? ⟨gb387, 1, none⟩ = some (.int .i64 a0_1)) (ds := []) #[false, false, false, false, false, false, false, false] (by kernel_rfl) rfl rfl ⟨bc BK387 0, bc BK387 1⟩ (fun hHeld => ?_); refine with_tabW impl_TwoTurn.tab1 impl_TwoTurn.bits1 (fun HT_ HW_ => ?_)
 generalize w5.drew = w6 at BK387 BK388 HB hHeld ⊢
 refine pure_ (i := 0) (N := some 3) (v := ?_) (a' := ?_) #[true, false, false, false, false, false, false, false] rfl rfl (any_of HT_.out (by kernel_rfl)) (fun _ _ _ h => h) (Or.inl ⟨by rfl, ?_⟩) ?_ ?_
 rotate_left
 ·intro w'
  go_simp
  with_reducible rfl
 rotate_left
 ·simp only [Act.put, List.setIfInBounds_toArray, List.set_cons_zero, List.set_cons_succ, i64_w, i32_w]
  rfl
 refine pure_ (i := 3) (N := some 6) (v := ?_) (a' := ?_) #[true, false, false, true, false, false, false, false] rfl rfl (any_of HT_.out (by kernel_rfl)) (fun _ _ _ h => h) (Or.inl ⟨by rfl, ?_⟩) ?_ ?_
 rotate_left
 ·intro w'
  go_simp
  with_reducible rfl
 rotate_left
 ·simp only [Act.put, List.setIfInBounds_toArray, List.set_cons_zero, List.set_cons_succ, i64_w, i32_w]
  rfl
 refine take_ (i := 1) (N := some 4) (v := ?_) (a' := ?_) #[true, true, false, true, false, false, false, false] rfl rfl (take_ofW HT_.out HW_.out (by kernel_rfl)) (fun _ _ _ h => h) (Or.inl ⟨by rfl, ?_⟩) hHeld ?_ ?_
 rotate_left
 ·rintro w' ⟨s0, s1⟩
  go_simp
  with_reducible rfl
 rotate_left
 ·simp only [Act.put, List.setIfInBounds_toArray, List.set_cons_zero, List.set_cons_succ, i64_w, i32_w]
  rfl
 refine take_ (i := 4) (N := some 7) (v := ?_) (a' := ?_) #[true, true, false, true, true, false, false, false] rfl rfl (take_ofW HT_.out HW_.out (by kernel_rfl)) (fun _ _ _ h => h) (Or.inl ⟨by rfl, ?_⟩) hHeld ?_ ?_
 rotate_left
 ·rintro w' ⟨s0, s1⟩
  go_simp
  with_reducible rfl
 rotate_left
 ·simp only [Act.put, List.setIfInBounds_toArray, List.set_cons_zero, List.set_cons_succ, i64_w, i32_w]
  rfl
 refine one_ (i := 2) (N := some 5) #[true, true, true, true, true, false, false, false] rfl rfl (one_of HT_.out (by kernel_rfl)) (by decide) (fun K hK => ?_)
 refine goes_ Try.func100 (by kernel_rfl) rfl #[.int .i64 a0_0] (by rfl) rfl rfl (by (try simp only [List.map_toArray, List.map_cons, List.map_nil]); first | done | rfl | (simp only [List.length_drop, List.length_take]; rfl)) ?_
 with_reducible refine (impl_FpOf.calls a0_0 t389 _ A2.out).mono ?_
 rintro e w' ⟨rfl, ⟨nd, rfl⟩⟩
 refine ⟨_, rfl, ?_⟩
 refine hK.out _ _ ⟨bc BK387 0, bc BK387 1⟩ (fun hHeld => ?_)
 clear hK K
 refine norm_ (a' := ?_) ?_ ?_
 rotate_left
 ·show Act.put _ (some 5) _ = _
  simp only [Act.put, List.setIfInBounds_toArray, List.set_cons_zero, List.set_cons_succ, i64_w, i32_w]
  rfl
 refine one_ (i := 5) (N := some 8) #[true, true, true, true, true, true, false, false] rfl rfl (one_of HT_.out (by kernel_rfl)) (by decide) (fun K hK => ?_)
 refine goes_ Try.func67 (by kernel_rfl) rfl #[.int .i64 0, .int .i64 a0_1] (by rfl) rfl rfl (by (try simp only [List.map_toArray, List.map_cons, List.map_nil]); first | done | rfl | (simp only [List.length_drop, List.length_take]; rfl)) ?_
 with_reducible refine (impl_FpSub.calls 0 a0_1 t390 _ A3.out).mono ?_
 rintro e w' ⟨rfl, ⟨nd, rfl⟩⟩
 refine ⟨_, rfl, ?_⟩
 refine hK.out _ _ ⟨bc BK387 0, bc BK387 1⟩ (fun hHeld => ?_)
 clear hK K
 refine norm_ (a' := ?_) ?_ ?_
 rotate_left
 ·show Act.put _ (some 8) _ = _
  simp only [Act.put, List.setIfInBounds_toArray, List.set_cons_zero, List.set_cons_succ, i64_w, i32_w]
  rfl
 refine pure_ (i := 6) (N := some 9) (v := ?_) (a' := ?_) #[true, true, true, true, true, true, true, false] rfl rfl (any_of HT_.out (by kernel_rfl)) (fun _ _ _ h => h) (Or.inl ⟨by rfl, ?_⟩) ?_ ?_
 rotate_left
 ·intro w'
  go_simp
  with_reducible rfl
 rotate_left
 ·simp only [Act.put, List.setIfInBounds_toArray, List.set_cons_zero, List.set_cons_succ, i64_w, i32_w]
  rfl
 refine one_ (i := 7) (N := none) #[true, true, true, true, true, true, true, true] rfl rfl (one_of HT_.out (by kernel_rfl)) (by decide) (fun K hK => ?_)
 have hs7 : w6.cell? ⟨gb388, 0, none⟩ = some (.int .i64 0) := bc BK388 0
 have hfs7 := blk_frozen BK388.out 0
 have hns7_0 := NB387_388.out
 have hms7_0 := NB388_387.out
 have hs8 : w6.cell? ⟨gb388, 1, none⟩ = some (.int .i64 0) := bc BK388 1
 have hfs8 := blk_frozen BK388.out 1
 have hns8_0 := NB387_388.out
 have hms8_0 := NB388_387.out
 refine skip_ (w1 := ?_) (by rfl) rfl ?_ ?_
 rotate_left
 ·go_simp
  rfl
 refine hK.out _ _ ⟨((cell_far (p := ⟨gb388, _, none⟩) NB387_388.out _).trans (((cell_far (p := ⟨gb388, _, none⟩) NB387_388.out _).trans (hHeld.1)))), ((cell_far (p := ⟨gb388, _, none⟩) NB387_388.out _).trans (((cell_far (p := ⟨gb388, _, none⟩) NB387_388.out _).trans (hHeld.2))))⟩ (fun hHeld => ?_)
 clear hK K
 refine done_ (done_of HT_.out (by kernel_rfl)) ?_
 try go_wp2
 refine bodyPost_ret (results_cell_row rfl _ _ gb388 31 #[.int .i64 t389, .int .i64 t390] (0, 0) _ rfl (by (with_reducible repeat (first | refine blk_drewN ?_ _ | refine blk_drew ?_ | refine blk_alloc ?_ _)); refine blk_put (cs := #[.int .i64 t389, .int .i64 0]) ?_ 1 _ rfl; (with_reducible repeat (first | refine blk_drewN ?_ _ | refine blk_drew ?_ | refine blk_alloc ?_ _)); refine blk_put (cs := #[.int .i64 0, .int .i64 0]) ?_ 0 _ rfl; (with_reducible repeat (first | refine blk_drewN ?_ _ | refine blk_drew ?_ | refine blk_alloc ?_ _)); exact BK388.out) Try.underlying31 rfl (by kernel_rfl)) rfl ?_
 exact ⟨by first | rfl | (simp [errW_none, errW_some] <;> rfl) | (simp [*, errW_none, errW_some] <;> rfl), bZ HB⟩
/-! ### impl_TwoInv: function 64 -/
def impl_TwoInv.f (k : Nat) (a0_0 : Int) (a0_1 : Int) : Option (Int × Int) := (impl_FpMul.f a0_0 a0_0).bind fun t393 => ((impl_FpMul.f a0_1 a0_1).bind fun t394 => ((impl_FpAdd.f t393 t394).bind fun t395 => ((impl_FpInv.f k t395).bind fun t396 => ((impl_FpMul.f a0_0 t396).bind fun t397 => ((impl_FpSub.f 0 a0_1).bind fun t398 => ((impl_FpMul.f t398 t396).bind fun t399 => (some (t397, t399))))))))
theorem impl_TwoInv.mono : ∀ a0 a1 k, LeO (impl_TwoInv.f k a0 a1) (impl_TwoInv.f (k + 1) a0 a1) := by
 intro a0 a1 k
 unfold impl_TwoInv.f
 repeat' first
   | (with_reducible exact impl_FpInv.mono _ _)
   | (with_reducible exact LeO.refl _)
   | (with_reducible exact LeO.none _)
   | (with_reducible refine LeO.ite ?_ ?_)
   | (with_reducible refine LeO.bind ?_ (fun _ => ?_))
   | exact impl_FpInv.mono _ _
   | exact LeO.none _
   | refine LeO.ite ?_ ?_
   | refine LeO.bind ?_ (fun _ => ?_)
def impl_TwoInv.T1 : Bool × List (List Nat × List Nat) := (true, [([], []), ([0], [0]), ([], []), ([2], [2]), ([1, 3], [1, 3]), ([], []), ([5], [5]), ([], []), ([7], [7]), ([6, 8, 4], [6, 8]), ([4, 9, 9], [4, 9]), ([10, 10], [10]), ([11, 11, 0, 1, 2, 3, 4, 5, 6, 7, 8, 9, 10, 11], [11])])
def impl_TwoInv.B1 : List Nat := [0, 1, 0, 4, 15, 0, 32, 0, 128, 511, 1023, 2047, 4095]
theorem impl_TwoInv.tab1 : rtab .any (opsOf Try.f64 1) = impl_TwoInv.T1 := by kernel_rfl
theorem impl_TwoInv.bits1 : waitsOk impl_TwoInv.T1.2 impl_TwoInv.B1 = true := by kernel_rfl
def impl_TwoInv.T2 : Bool × List (List Nat × List Nat) := (true, [([], []), ([0], [0]), ([], []), ([1, 2], [1, 2]), ([], []), ([4], [4]), ([5, 3], [5]), ([], []), ([6, 7, 6], [6, 7]), ([3, 8], [3, 8]), ([9, 8, 0, 1, 2, 3, 4, 5, 6, 7, 8, 9], [9])])
def impl_TwoInv.B2 : List Nat := [0, 1, 0, 7, 0, 16, 63, 0, 255, 511, 1023]
theorem impl_TwoInv.tab2 : rtab .any (opsOf Try.f64 2) = impl_TwoInv.T2 := by kernel_rfl
theorem impl_TwoInv.bits2 : waitsOk impl_TwoInv.T2.2 impl_TwoInv.B2 = true := by kernel_rfl
set_option maxHeartbeats 8000000 in
set_option maxRecDepth 100000 in
theorem impl_TwoInv.calls (k : Nat) (a0_0 : Int) (a0_1 : Int) (r1 : Int) (r2 : Int) (w : World) (h : impl_TwoInv.f k a0_0 a0_1 = some (r1, r2)) :
  Calls Try.prog 64 #[.agg #[.int .i64 a0_0, .int .i64 a0_1]] w fun e w' => e = .returned (.agg #[.int .i64 r1, .int .i64 r2]) ∧ Below w.heap.size w w' := by
 have hu31 := Try.underlying31
 have HB := Aside0.mk (Below.refl w.heap.size w)
 have H : ((impl_FpMul.f a0_0 a0_0).bind fun t393 => ((impl_FpMul.f a0_1 a0_1).bind fun t394 => ((impl_FpAdd.f t393 t394).bind fun t395 => ((impl_FpInv.f k t395).bind fun t396 => ((impl_FpMul.f a0_0 t396).bind fun t397 => ((impl_FpSub.f 0 a0_1).bind fun t398 => ((impl_FpMul.f t398 t396).bind fun t399 => (some (t397, t399))))))))) = some (r1, r2) := h
 clear h
 replace H := Option.bind_eq_some_iff.mp H
 obtain ⟨t393, A20, H⟩ := H
 replace H : ((impl_FpMul.f a0_1 a0_1).bind fun t394 => ((impl_FpAdd.f t393 t394).bind fun t395 => ((impl_FpInv.f k t395).bind fun t396 => ((impl_FpMul.f a0_0 t396).bind fun t397 => ((impl_FpSub.f 0 a0_1).bind fun t398 => ((impl_FpMul.f t398 t396).bind fun t399 => (some (t397, t399)))))))) = some (r1, r2) := H
 have A2 := Aside0.mk A20
 clear A20
 replace H := Option.bind_eq_some_iff.mp H
 obtain ⟨t394, A30, H⟩ := H
 replace H : ((impl_FpAdd.f t393 t394).bind fun t395 => ((impl_FpInv.f k t395).bind fun t396 => ((impl_FpMul.f a0_0 t396).bind fun t397 => ((impl_FpSub.f 0 a0_1).bind fun t398 => ((impl_FpMul.f t398 t396).bind fun t399 => (some (t397, t399))))))) = some (r1, r2) := H
 have A3 := Aside0.mk A30
 clear A30
 replace H := Option.bind_eq_some_iff.mp H
 obtain ⟨t395, A40, H⟩ := H
 replace H : ((impl_FpInv.f k t395).bind fun t396 => ((impl_FpMul.f a0_0 t396).bind fun t397 => ((impl_FpSub.f 0 a0_1).bind fun t398 => ((impl_FpMul.f t398 t396).bind fun t399 => (some (t397, t399)))))) = some (r1, r2) := H
 have A4 := Aside0.mk A40
 clear A40
 replace H := Option.bind_eq_some_iff.mp H
 obtain ⟨t396, A50, H⟩ := H
 replace H : ((impl_FpMul.f a0_0 t396).bind fun t397 => ((impl_FpSub.f 0 a0_1).bind fun t398 => ((impl_FpMul.f t398 t396).bind fun t399 => (some (t397, t399))))) = some (r1, r2) := H
 have A5 := Aside0.mk A50
 clear A50
 replace H := Option.bind_eq_some_iff.mp H
 obtain ⟨t397, A60, H⟩ := H
 replace H : ((impl_FpSub.f 0 a0_1).bind fun t398 => ((impl_FpMul.f t398 t396).bind fun t399 => (some (t397, t399)))) = some (r1, r2) := H
 have A6 := Aside0.mk A60
 clear A60
 replace H := Option.bind_eq_some_iff.mp H
 obtain ⟨t398, A70, H⟩ := H
 replace H : ((impl_FpMul.f t398 t396).bind fun t399 => (some (t397, t399))) = some (r1, r2) := H
 have A7 := Aside0.mk A70
 clear A70
 replace H := Option.bind_eq_some_iff.mp H
 obtain ⟨t399, A80, H⟩ := H
 replace H : (some (t397, t399)) = some (r1, r2) := H
 have A8 := Aside0.mk A80
 clear A80
 simp only [Option.some.injEq, Prod.mk.injEq] at H
 obtain ⟨rfl, rfl⟩ := H
 go_enter Try.func64, Try.ntmps64
 try go_wp2_with (first | ((with_reducible refine gate_dst (N := 1) rfl ?_); refine box_event ?hg (N := 1) ?hd (cs := #[.int .i64 a0_0, .int .i64 a0_1]) (t := 31) ?hr ?_; (case hd => rfl); (case hg => rfl); (case hr => first | (go_simp; done) | (go_simp; rfl)); intro gb391 hg w9 hbox hb; have BK391 := Aside0.mk (hbox); have GW391 := bG HB hg; have GE391 := bG HB hg; replace HB := bS HB hb; clear hb hbox hg) | ((with_reducible refine gate_dst (N := 2) rfl ?_); refine box_event ?hg (N := 2) ?hd (cs := #[.int .i64 0, .int .i64 0]) (t := 31) ?hr ?_; (case hd => rfl); (case hg => rfl); (case hr => first | (go_simp; done) | (go_simp; rfl)); intro gb392 hg w10 hbox hb; have BK392 := Aside0.mk (hbox); have GW392 := bG HB hg; have GE392 := bG HB hg; replace HB := bS HB hb; have NB391_392 := bL BK391 hg; have NB392_391 := bR BK391 hg; replace BK391 := bB BK391 hb; clear hb hbox hg))
 replace BK391 := Aside0.mk (blk_drew BK391.out)
 replace BK392 := Aside0.mk (blk_drew BK392.out)
 replace HB := Aside0.mk (below_drew1 HB.out)
 refine start_ (n := 13) (S := fun w' => w'.cell? ⟨gb391, 0, none⟩ = some (.int .i64 a0_0) ∧ w'.cell? ⟨gb391, 1, none⟩ = some (.int .i64 a0_1)) (ds := []) #[false, false, false, false, false, false, false, false, false, false, false, false, false] (by kernel_rfl) rfl rfl ⟨bc BK391 0, bc BK391 1⟩ (fun hHeld => ?_); refine with_tabW impl_TwoInv.tab1 impl_TwoInv.bits1 (fun HT_ HW_ => ?_)
 generalize w10.drew = w11 at BK391 BK392 HB hHeld ⊢
 refine pure_ (i := 0) (N := some 4) (v := ?_) (a' := ?_) #[true, false, false, false, false, false, false, false, false, false, false, false, false] rfl rfl (any_of HT_.out (by kernel_rfl)) (fun _ _ _ h => h) (Or.inl ⟨by rfl, ?_⟩) ?_ ?_
 rotate_left
 ·intro w'
  go_simp
  with_reducible rfl
 rotate_left
 ·simp only [Act.put, List.setIfInBounds_toArray, List.set_cons_zero, List.set_cons_succ, i64_w, i32_w]
  rfl
 refine pure_ (i := 2) (N := some 6) (v := ?_) (a' := ?_) #[true, false, true, false, false, false, false, false, false, false, false, false, false] rfl rfl (any_of HT_.out (by kernel_rfl)) (fun _ _ _ h => h) (Or.inl ⟨by rfl, ?_⟩) ?_ ?_
 rotate_left
 ·intro w'
  go_simp
  with_reducible rfl
 rotate_left
 ·simp only [Act.put, List.setIfInBounds_toArray, List.set_cons_zero, List.set_cons_succ, i64_w, i32_w]
  rfl
 refine pure_ (i := 5) (N := some 9) (v := ?_) (a' := ?_) #[true, false, true, false, false, true, false, false, false, false, false, false, false] rfl rfl (any_of HT_.out (by kernel_rfl)) (fun _ _ _ h => h) (Or.inl ⟨by rfl, ?_⟩) ?_ ?_
 rotate_left
 ·intro w'
  go_simp
  with_reducible rfl
 rotate_left
 ·simp only [Act.put, List.setIfInBounds_toArray, List.set_cons_zero, List.set_cons_succ, i64_w, i32_w]
  rfl
 refine pure_ (i := 7) (N := some 11) (v := ?_) (a' := ?_) #[true, false, true, false, false, true, false, true, false, false, false, false, false] rfl rfl (any_of HT_.out (by kernel_rfl)) (fun _ _ _ h => h) (Or.inl ⟨by rfl, ?_⟩) ?_ ?_
 rotate_left
 ·intro w'
  go_simp
  with_reducible rfl
 rotate_left
 ·simp only [Act.put, List.setIfInBounds_toArray, List.set_cons_zero, List.set_cons_succ, i64_w, i32_w]
  rfl
 refine take_ (i := 1) (N := some 5) (v := ?_) (a' := ?_) #[true, true, true, false, false, true, false, true, false, false, false, false, false] rfl rfl (take_ofW HT_.out HW_.out (by kernel_rfl)) (fun _ _ _ h => h) (Or.inl ⟨by rfl, ?_⟩) hHeld ?_ ?_
 rotate_left
 ·rintro w' ⟨s0, s1⟩
  go_simp
  with_reducible rfl
 rotate_left
 ·simp only [Act.put, List.setIfInBounds_toArray, List.set_cons_zero, List.set_cons_succ, i64_w, i32_w]
  rfl
 refine take_ (i := 3) (N := some 7) (v := ?_) (a' := ?_) #[true, true, true, true, false, true, false, true, false, false, false, false, false] rfl rfl (take_ofW HT_.out HW_.out (by kernel_rfl)) (fun _ _ _ h => h) (Or.inl ⟨by rfl, ?_⟩) hHeld ?_ ?_
 rotate_left
 ·rintro w' ⟨s0, s1⟩
  go_simp
  with_reducible rfl
 rotate_left
 ·simp only [Act.put, List.setIfInBounds_toArray, List.set_cons_zero, List.set_cons_succ, i64_w, i32_w]
  rfl
 refine take_ (i := 6) (N := some 10) (v := ?_) (a' := ?_) #[true, true, true, true, false, true, true, true, false, false, false, false, false] rfl rfl (take_ofW HT_.out HW_.out (by kernel_rfl)) (fun _ _ _ h => h) (Or.inl ⟨by rfl, ?_⟩) hHeld ?_ ?_
 rotate_left
 ·rintro w' ⟨s0, s1⟩
  go_simp
  with_reducible rfl
 rotate_left
 ·simp only [Act.put, List.setIfInBounds_toArray, List.set_cons_zero, List.set_cons_succ, i64_w, i32_w]
  rfl
 refine take_ (i := 8) (N := some 12) (v := ?_) (a' := ?_) #[true, true, true, true, false, true, true, true, true, false, false, false, false] rfl rfl (take_ofW HT_.out HW_.out (by kernel_rfl)) (fun _ _ _ h => h) (Or.inl ⟨by rfl, ?_⟩) hHeld ?_ ?_
 rotate_left
 ·rintro w' ⟨s0, s1⟩
  go_simp
  with_reducible rfl
 rotate_left
 ·simp only [Act.put, List.setIfInBounds_toArray, List.set_cons_zero, List.set_cons_succ, i64_w, i32_w]
  rfl
 refine one_ (i := 4) (N := some 8) #[true, true, true, true, true, true, true, true, true, false, false, false, false] rfl rfl (one_of HT_.out (by kernel_rfl)) (by decide) (fun K hK => ?_)
 refine goes_ Try.func68 (by kernel_rfl) rfl #[.int .i64 a0_0, .int .i64 a0_0] (by rfl) rfl rfl (by (try simp only [List.map_toArray, List.map_cons, List.map_nil]); first | done | rfl | (simp only [List.length_drop, List.length_take]; rfl)) ?_
 with_reducible refine (impl_FpMul.calls a0_0 a0_0 t393 _ A2.out).mono ?_
 rintro e w' ⟨rfl, ⟨nd, rfl⟩⟩
 refine ⟨_, rfl, ?_⟩
 refine hK.out _ _ ⟨bc BK391 0, bc BK391 1⟩ (fun hHeld => ?_)
 clear hK K
 refine norm_ (a' := ?_) ?_ ?_
 rotate_left
 ·show Act.put _ (some 8) _ = _
  simp only [Act.put, List.setIfInBounds_toArray, List.set_cons_zero, List.set_cons_succ, i64_w, i32_w]
  rfl
 refine one_ (i := 9) (N := some 13) #[true, true, true, true, true, true, true, true, true, true, false, false, false] rfl rfl (one_of HT_.out (by kernel_rfl)) (by decide) (fun K hK => ?_)
 refine goes_ Try.func68 (by kernel_rfl) rfl #[.int .i64 a0_1, .int .i64 a0_1] (by rfl) rfl rfl (by (try simp only [List.map_toArray, List.map_cons, List.map_nil]); first | done | rfl | (simp only [List.length_drop, List.length_take]; rfl)) ?_
 with_reducible refine (impl_FpMul.calls a0_1 a0_1 t394 _ A3.out).mono ?_
 rintro e w' ⟨rfl, ⟨nd, rfl⟩⟩
 refine ⟨_, rfl, ?_⟩
 refine hK.out _ _ ⟨bc BK391 0, bc BK391 1⟩ (fun hHeld => ?_)
 clear hK K
 refine norm_ (a' := ?_) ?_ ?_
 rotate_left
 ·show Act.put _ (some 13) _ = _
  simp only [Act.put, List.setIfInBounds_toArray, List.set_cons_zero, List.set_cons_succ, i64_w, i32_w]
  rfl
 refine one_ (i := 10) (N := some 14) #[true, true, true, true, true, true, true, true, true, true, true, false, false] rfl rfl (one_of HT_.out (by kernel_rfl)) (by decide) (fun K hK => ?_)
 refine goes_ Try.func69 (by kernel_rfl) rfl #[.int .i64 t393, .int .i64 t394] (by rfl) rfl rfl (by (try simp only [List.map_toArray, List.map_cons, List.map_nil]); first | done | rfl | (simp only [List.length_drop, List.length_take]; rfl)) ?_
 with_reducible refine (impl_FpAdd.calls t393 t394 t395 _ A4.out).mono ?_
 rintro e w' ⟨rfl, ⟨nd, rfl⟩⟩
 refine ⟨_, rfl, ?_⟩
 refine hK.out _ _ ⟨bc BK391 0, bc BK391 1⟩ (fun hHeld => ?_)
 clear hK K
 refine norm_ (a' := ?_) ?_ ?_
 rotate_left
 ·show Act.put _ (some 14) _ = _
  simp only [Act.put, List.setIfInBounds_toArray, List.set_cons_zero, List.set_cons_succ, i64_w, i32_w]
  rfl
 refine one_ (i := 11) (N := some 15) #[true, true, true, true, true, true, true, true, true, true, true, true, false] rfl rfl (one_of HT_.out (by kernel_rfl)) (by decide) (fun K hK => ?_)
 refine goes_ Try.func101 (by kernel_rfl) rfl #[.int .i64 t395] (by rfl) rfl rfl (by (try simp only [List.map_toArray, List.map_cons, List.map_nil]); first | done | rfl | (simp only [List.length_drop, List.length_take]; rfl)) ?_
 with_reducible refine (impl_FpInv.calls k t395 t396 _ A5.out).mono ?_
 rintro e w' ⟨rfl, ⟨nd, rfl⟩⟩
 refine ⟨_, rfl, ?_⟩
 refine hK.out _ _ ⟨bc BK391 0, bc BK391 1⟩ (fun hHeld => ?_)
 clear hK K
 refine norm_ (a' := ?_) ?_ ?_
 rotate_left
 ·show Act.put _ (some 15) _ = _
  simp only [Act.put, List.setIfInBounds_toArray, List.set_cons_zero, List.set_cons_succ, i64_w, i32_w]
  rfl
 refine pure_ (i := 12) (N := some 3) (v := ?_) (a' := ?_) #[true, true, true, true, true, true, true, true, true, true, true, true, true] rfl rfl (any_of HT_.out (by kernel_rfl)) (fun _ _ _ h => h) (Or.inl ⟨by rfl, ?_⟩) ?_ ?_
 rotate_left
 ·intro w'
  go_simp
  with_reducible rfl
 rotate_left
 ·simp only [Act.put, List.setIfInBounds_toArray, List.set_cons_zero, List.set_cons_succ, i64_w, i32_w]
  rfl
 refine done_ (done_of HT_.out (by kernel_rfl)) ?_
 try go_wp2
 (try simp only [World.drewN_drewN]); (try (rw [drewN_self w11]; generalize hq_ : World.drewN w11 _ = w11; replace BK391 : Aside0 (w11.heap[gb391]? = some (.cells #[.int .i64 a0_0, .int .i64 a0_1] 31 (0, 0))) := ⟨by rw [← hq_]; exact (bP BK391)⟩; replace BK392 : Aside0 (w11.heap[gb392]? = some (.cells #[.int .i64 0, .int .i64 0] 31 (0, 0))) := ⟨by rw [← hq_]; exact (bP BK392)⟩; replace HB : Aside0 (Below w.heap.size w w11) := ⟨by rw [← hq_]; exact (bZ HB)⟩; clear hq_))
 replace BK391 := Aside0.mk (blk_drew BK391.out)
 replace BK392 := Aside0.mk (blk_drew BK392.out)
 replace HB := Aside0.mk (below_drew1 HB.out)
 refine start_ (n := 11) (S := fun w' => w'.cell? ⟨gb391, 0, none⟩ = some (.int .i64 a0_0) ∧ w'.cell? ⟨gb391, 1, none⟩ = some (.int .i64 a0_1)) (ds := []) #[false, false, false, false, false, false, false, false, false, false, false] (by kernel_rfl) rfl rfl ⟨bc BK391 0, bc BK391 1⟩ (fun hHeld => ?_); refine with_tabW impl_TwoInv.tab2 impl_TwoInv.bits2 (fun HT_ HW_ => ?_)
 generalize w11.drew = w12 at BK391 BK392 HB hHeld ⊢
 refine pure_ (i := 0) (N := some 16) (v := ?_) (a' := ?_) #[true, false, false, false, false, false, false, false, false, false, false] rfl rfl (any_of HT_.out (by kernel_rfl)) (fun _ _ _ h => h) (Or.inl ⟨by rfl, ?_⟩) ?_ ?_
 rotate_left
 ·intro w'
  go_simp
  with_reducible rfl
 rotate_left
 ·simp only [Act.put, List.setIfInBounds_toArray, List.set_cons_zero, List.set_cons_succ, i64_w, i32_w]
  rfl
 refine pure_ (i := 2) (N := some 18) (v := ?_) (a' := ?_) #[true, false, true, false, false, false, false, false, false, false, false] rfl rfl (any_of HT_.out (by kernel_rfl)) (fun _ _ _ h => h) (Or.inl ⟨by rfl, ?_⟩) ?_ ?_
 rotate_left
 ·intro w'
  go_simp
  with_reducible rfl
 rotate_left
 ·simp only [Act.put, List.setIfInBounds_toArray, List.set_cons_zero, List.set_cons_succ, i64_w, i32_w]
  rfl
 refine pure_ (i := 4) (N := some 20) (v := ?_) (a' := ?_) #[true, false, true, false, true, false, false, false, false, false, false] rfl rfl (any_of HT_.out (by kernel_rfl)) (fun _ _ _ h => h) (Or.inl ⟨by rfl, ?_⟩) ?_ ?_
 rotate_left
 ·intro w'
  go_simp
  with_reducible rfl
 rotate_left
 ·simp only [Act.put, List.setIfInBounds_toArray, List.set_cons_zero, List.set_cons_succ, i64_w, i32_w]
  rfl
 refine pure_ (i := 7) (N := some 23) (v := ?_) (a' := ?_) #[true, false, true, false, true, false, false, true, false, false, false] rfl rfl (any_of HT_.out (by kernel_rfl)) (fun _ _ _ h => h) (Or.inl ⟨by rfl, ?_⟩) ?_ ?_
 rotate_left
 ·intro w'
  go_simp
  with_reducible rfl
 rotate_left
 ·simp only [Act.put, List.setIfInBounds_toArray, List.set_cons_zero, List.set_cons_succ, i64_w, i32_w]
  rfl
 refine take_ (i := 1) (N := some 17) (v := ?_) (a' := ?_) #[true, true, true, false, true, false, false, true, false, false, false] rfl rfl (take_ofW HT_.out HW_.out (by kernel_rfl)) (fun _ _ _ h => h) (Or.inl ⟨by rfl, ?_⟩) hHeld ?_ ?_
 rotate_left
 ·rintro w' ⟨s0, s1⟩
  go_simp
  with_reducible rfl
 rotate_left
 ·simp only [Act.put, List.setIfInBounds_toArray, List.set_cons_zero, List.set_cons_succ, i64_w, i32_w]
  rfl
 refine take_ (i := 5) (N := some 21) (v := ?_) (a' := ?_) #[true, true, true, false, true, true, false, true, false, false, false] rfl rfl (take_ofW HT_.out HW_.out (by kernel_rfl)) (fun _ _ _ h => h) (Or.inl ⟨by rfl, ?_⟩) hHeld ?_ ?_
 rotate_left
 ·rintro w' ⟨s0, s1⟩
  go_simp
  with_reducible rfl
 rotate_left
 ·simp only [Act.put, List.setIfInBounds_toArray, List.set_cons_zero, List.set_cons_succ, i64_w, i32_w]
  rfl
 refine one_ (i := 3) (N := some 19) #[true, true, true, true, true, true, false, true, false, false, false] rfl rfl (one_of HT_.out (by kernel_rfl)) (by decide) (fun K hK => ?_)
 refine goes_ Try.func68 (by kernel_rfl) rfl #[.int .i64 a0_0, .int .i64 t396] (by rfl) rfl rfl (by (try simp only [List.map_toArray, List.map_cons, List.map_nil]); first | done | rfl | (simp only [List.length_drop, List.length_take]; rfl)) ?_
 with_reducible refine (impl_FpMul.calls a0_0 t396 t397 _ A6.out).mono ?_
 rintro e w' ⟨rfl, ⟨nd, rfl⟩⟩
 refine ⟨_, rfl, ?_⟩
 refine hK.out _ _ ⟨bc BK391 0, bc BK391 1⟩ (fun hHeld => ?_)
 clear hK K
 refine norm_ (a' := ?_) ?_ ?_
 rotate_left
 ·show Act.put _ (some 19) _ = _
  simp only [Act.put, List.setIfInBounds_toArray, List.set_cons_zero, List.set_cons_succ, i64_w, i32_w]
  rfl
 refine one_ (i := 6) (N := some 22) #[true, true, true, true, true, true, true, true, false, false, false] rfl rfl (one_of HT_.out (by kernel_rfl)) (by decide) (fun K hK => ?_)
 refine goes_ Try.func67 (by kernel_rfl) rfl #[.int .i64 0, .int .i64 a0_1] (by rfl) rfl rfl (by (try simp only [List.map_toArray, List.map_cons, List.map_nil]); first | done | rfl | (simp only [List.length_drop, List.length_take]; rfl)) ?_
 with_reducible refine (impl_FpSub.calls 0 a0_1 t398 _ A7.out).mono ?_
 rintro e w' ⟨rfl, ⟨nd, rfl⟩⟩
 refine ⟨_, rfl, ?_⟩
 refine hK.out _ _ ⟨bc BK391 0, bc BK391 1⟩ (fun hHeld => ?_)
 clear hK K
 refine norm_ (a' := ?_) ?_ ?_
 rotate_left
 ·show Act.put _ (some 22) _ = _
  simp only [Act.put, List.setIfInBounds_toArray, List.set_cons_zero, List.set_cons_succ, i64_w, i32_w]
  rfl
 refine one_ (i := 8) (N := some 24) #[true, true, true, true, true, true, true, true, true, false, false] rfl rfl (one_of HT_.out (by kernel_rfl)) (by decide) (fun K hK => ?_)
 refine goes_ Try.func68 (by kernel_rfl) rfl #[.int .i64 t398, .int .i64 t396] (by rfl) rfl rfl (by (try simp only [List.map_toArray, List.map_cons, List.map_nil]); first | done | rfl | (simp only [List.length_drop, List.length_take]; rfl)) ?_
 with_reducible refine (impl_FpMul.calls t398 t396 t399 _ A8.out).mono ?_
 rintro e w' ⟨rfl, ⟨nd, rfl⟩⟩
 refine ⟨_, rfl, ?_⟩
 refine hK.out _ _ ⟨bc BK391 0, bc BK391 1⟩ (fun hHeld => ?_)
 clear hK K
 refine norm_ (a' := ?_) ?_ ?_
 rotate_left
 ·show Act.put _ (some 24) _ = _
  simp only [Act.put, List.setIfInBounds_toArray, List.set_cons_zero, List.set_cons_succ, i64_w, i32_w]
  rfl
 refine pure_ (i := 9) (N := some 25) (v := ?_) (a' := ?_) #[true, true, true, true, true, true, true, true, true, true, false] rfl rfl (any_of HT_.out (by kernel_rfl)) (fun _ _ _ h => h) (Or.inl ⟨by rfl, ?_⟩) ?_ ?_
 rotate_left
 ·intro w'
  go_simp
  with_reducible rfl
 rotate_left
 ·simp only [Act.put, List.setIfInBounds_toArray, List.set_cons_zero, List.set_cons_succ, i64_w, i32_w]
  rfl
 refine one_ (i := 10) (N := none) #[true, true, true, true, true, true, true, true, true, true, true] rfl rfl (one_of HT_.out (by kernel_rfl)) (by decide) (fun K hK => ?_)
 have hs13 : w12.cell? ⟨gb392, 0, none⟩ = some (.int .i64 0) := bc BK392 0
 have hfs13 := blk_frozen BK392.out 0
 have hns13_0 := NB391_392.out
 have hms13_0 := NB392_391.out
 have hs14 : w12.cell? ⟨gb392, 1, none⟩ = some (.int .i64 0) := bc BK392 1
 have hfs14 := blk_frozen BK392.out 1
 have hns14_0 := NB391_392.out
 have hms14_0 := NB392_391.out
 refine skip_ (w1 := ?_) (by rfl) rfl ?_ ?_
 rotate_left
 ·go_simp
  rfl
 refine hK.out _ _ ⟨((cell_far (p := ⟨gb392, _, none⟩) NB391_392.out _).trans (((cell_far (p := ⟨gb392, _, none⟩) NB391_392.out _).trans (hHeld.1)))), ((cell_far (p := ⟨gb392, _, none⟩) NB391_392.out _).trans (((cell_far (p := ⟨gb392, _, none⟩) NB391_392.out _).trans (hHeld.2))))⟩ (fun hHeld => ?_)
 clear hK K
 refine done_ (done_of HT_.out (by kernel_rfl)) ?_
 try go_wp2
 refine bodyPost_ret (results_cell_row rfl _ _ gb392 31 #[.int .i64 t397, .int .i64 t399] (0, 0) _ rfl (by (with_reducible repeat (first | refine blk_drewN ?_ _ | refine blk_drew ?_ | refine blk_alloc ?_ _)); refine blk_put (cs := #[.int .i64 t397, .int .i64 0]) ?_ 1 _ rfl; (with_reducible repeat (first | refine blk_drewN ?_ _ | refine blk_drew ?_ | refine blk_alloc ?_ _)); refine blk_put (cs := #[.int .i64 0, .int .i64 0]) ?_ 0 _ rfl; (with_reducible repeat (first | refine blk_drewN ?_ _ | refine blk_drew ?_ | refine blk_alloc ?_ _)); exact BK392.out) Try.underlying31 rfl (by kernel_rfl)) rfl ?_
 exact ⟨by first | rfl | (simp [errW_none, errW_some] <;> rfl) | (simp [*, errW_none, errW_some] <;> rfl), bZ HB⟩
/-! ### impl_Pairing: function 17 -/
def impl_Pairing.j0 : Nat → Bool → Int → Int → Bool → Int → Int → Bool → Option (Int × Int)
 | 0, _, _, _, _, _, _, _ => none
 | k + 1, x21, x401000, x401001, x401002, x402000, x402001, x402002 => if x21 = true then (some (1, 0)) else ((impl_Miller.f k x401000 x401001 x401002 x402000 x402001 x402002).bind fun bt405 => ((impl_TwoTurn.f bt405.1 bt405.2).bind fun bt408 => ((impl_TwoInv.f k bt405.1 bt405.2).bind fun bt410 => ((impl_TwoMul.f bt408.1 bt408.2 bt410.1 bt410.2).bind fun bt412 => ((impl_TwoPow.f k bt412.1 bt412.2 12).bind fun bt414 => (some (bt414.1, bt414.2)))))))
def impl_Pairing.f (k : Nat) (a0_0 : Int) (a0_1 : Int) (a0_2 : Bool) (a1_0 : Int) (a1_1 : Int) (a1_2 : Bool) : Option (Int × Int) := if a0_2 = true then (impl_Pairing.j0 k true a0_0 a0_1 a0_2 a1_0 a1_1 a1_2) else (if a1_2 = true then (impl_Pairing.j0 k true a0_0 a0_1 a0_2 a1_0 a1_1 a1_2) else ((impl_InGroup.f k a0_0 a0_1 a0_2).bind fun t403 => (if t403 = true then ((impl_InGroup.f k a1_0 a1_1 a1_2).bind fun t404 => (impl_Pairing.j0 k (!t404) a0_0 a0_1 a0_2 a1_0 a1_1 a1_2)) else (impl_Pairing.j0 k true a0_0 a0_1 a0_2 a1_0 a1_1 a1_2))))
theorem impl_Pairing.mono_l : ∀ k, (∀ y0 y1 y2 y3 y4 y5 y6, LeO (impl_Pairing.j0 k y0 y1 y2 y3 y4 y5 y6) (impl_Pairing.j0 (k + 1) y0 y1 y2 y3 y4 y5 y6))
 | 0 => fun _ _ _ _ _ _ _ r h => by simp [impl_Pairing.j0] at h
 | k + 1 => by
  have ih0 := impl_Pairing.mono_l k
  ·intro y0 y1 y2 y3 y4 y5 y6
   unfold impl_Pairing.j0
   repeat' first
   | (with_reducible exact ih0 _ _ _ _ _ _ _)
   | (with_reducible exact impl_InGroup.mono _ _ _ _)
   | (with_reducible exact impl_Miller.mono _ _ _ _ _ _ _)
   | (with_reducible exact impl_TwoInv.mono _ _ _)
   | (with_reducible exact impl_TwoPow.mono _ _ _ _)
   | (with_reducible exact LeO.refl _)
   | (with_reducible exact LeO.none _)
   | (with_reducible refine LeO.ite ?_ ?_)
   | (with_reducible refine LeO.bind ?_ (fun _ => ?_))
   | exact ih0 _ _ _ _ _ _ _
   | exact impl_InGroup.mono _ _ _ _
   | exact impl_Miller.mono _ _ _ _ _ _ _
   | exact impl_TwoInv.mono _ _ _
   | exact impl_TwoPow.mono _ _ _ _
   | exact LeO.none _
   | refine LeO.ite ?_ ?_
   | refine LeO.bind ?_ (fun _ => ?_)
theorem impl_Pairing.mono : ∀ a0 a1 a2 a3 a4 a5 k, LeO (impl_Pairing.f k a0 a1 a2 a3 a4 a5) (impl_Pairing.f (k + 1) a0 a1 a2 a3 a4 a5) := by
 intro a0 a1 a2 a3 a4 a5 k
 have ih0 := impl_Pairing.mono_l k
 unfold impl_Pairing.f
 repeat' first
   | (with_reducible exact ih0 _ _ _ _ _ _ _)
   | (with_reducible exact impl_InGroup.mono _ _ _ _)
   | (with_reducible exact impl_Miller.mono _ _ _ _ _ _ _)
   | (with_reducible exact impl_TwoInv.mono _ _ _)
   | (with_reducible exact impl_TwoPow.mono _ _ _ _)
   | (with_reducible exact LeO.refl _)
   | (with_reducible exact LeO.none _)
   | (with_reducible refine LeO.ite ?_ ?_)
   | (with_reducible refine LeO.bind ?_ (fun _ => ?_))
   | exact ih0 _ _ _ _ _ _ _
   | exact impl_InGroup.mono _ _ _ _
   | exact impl_Miller.mono _ _ _ _ _ _ _
   | exact impl_TwoInv.mono _ _ _
   | exact impl_TwoPow.mono _ _ _ _
   | exact LeO.none _
   | refine LeO.ite ?_ ?_
   | refine LeO.bind ?_ (fun _ => ?_)
set_option maxHeartbeats 8000000 in
set_option maxRecDepth 100000 in
theorem impl_Pairing.calls (k : Nat) (a0_0 : Int) (a0_1 : Int) (a0_2 : Bool) (a1_0 : Int) (a1_1 : Int) (a1_2 : Bool) (r1 : Int) (r2 : Int) (w : World) (h : impl_Pairing.f k a0_0 a0_1 a0_2 a1_0 a1_1 a1_2 = some (r1, r2)) :
  Calls Try.prog 17 #[.agg #[.int .i64 a0_0, .int .i64 a0_1, .bool a0_2], .agg #[.int .i64 a1_0, .int .i64 a1_1, .bool a1_2]] w fun e w' => e = .returned (.agg #[.int .i64 r1, .int .i64 r2]) ∧ Below w.heap.size w w' := by
 have hu25 := Try.underlying25
 have hu31 := Try.underlying31
 have HB := Aside0.mk (Below.refl w.heap.size w)
 have H : (if a0_2 = true then (impl_Pairing.j0 k true a0_0 a0_1 a0_2 a1_0 a1_1 a1_2) else (if a1_2 = true then (impl_Pairing.j0 k true a0_0 a0_1 a0_2 a1_0 a1_1 a1_2) else ((impl_InGroup.f k a0_0 a0_1 a0_2).bind fun t403 => (if t403 = true then ((impl_InGroup.f k a1_0 a1_1 a1_2).bind fun t404 => (impl_Pairing.j0 k (!t404) a0_0 a0_1 a0_2 a1_0 a1_1 a1_2)) else (impl_Pairing.j0 k true a0_0 a0_1 a0_2 a1_0 a1_1 a1_2))))) = some (r1, r2) := h
 clear h
 have HC3 := Aside0.mk H
 clear H
 go_enter Try.func17, Try.ntmps17
 go_upto_region 1 with (first | ((with_reducible refine gate_dst (N := 2) rfl ?_); refine box_event ?hg (N := 2) ?hd (cs := #[.int .i64 a0_0, .int .i64 a0_1, .bool a0_2]) (t := 25) ?hr ?_; (case hd => rfl); (case hg => rfl); (case hr => first | (go_simp; done) | (go_simp; rfl)); intro gb400 hg w4 hbox hb; have BK400 := Aside0.mk (hbox); have GW400 := bG HB hg; have GE400 := bG HB hg; replace HB := bS HB hb; clear hb hbox hg) | ((with_reducible refine gate_dst (N := 3) rfl ?_); refine box_event ?hg (N := 3) ?hd (cs := #[.int .i64 a1_0, .int .i64 a1_1, .bool a1_2]) (t := 25) ?hr ?_; (case hd => rfl); (case hg => rfl); (case hr => first | (go_simp; done) | (go_simp; rfl)); intro gb401 hg w5 hbox hb; have BK401 := Aside0.mk (hbox); have GW401 := bG HB hg; have GE401 := bG HB hg; replace HB := bS HB hb; have NB400_401 := bL BK400 hg; have NB401_400 := bR BK400 hg; replace BK400 := bB BK400 hb; clear hb hbox hg) | ((with_reducible refine gate_dst (N := 4) rfl ?_); refine box_event ?hg (N := 4) ?hd (cs := #[.int .i64 0, .int .i64 0]) (t := 31) ?hr ?_; (case hd => rfl); (case hg => rfl); (case hr => first | (go_simp; done) | (go_simp; rfl)); intro gb402 hg w6 hbox hb; have BK402 := Aside0.mk (hbox); have GW402 := bG HB hg; have GE402 := bG HB hg; replace HB := bS HB hb; have NB400_402 := bL BK400 hg; have NB402_400 := bR BK400 hg; replace BK400 := bB BK400 hb; have NB401_402 := bL BK401 hg; have NB402_401 := bR BK401 hg; replace BK401 := bB BK401 hb; clear hb hbox hg))
 (try simp only [Act.put, List.setIfInBounds_toArray, List.set_cons_zero, List.set_cons_succ])
 go_cut [21] (fun v21 wc => ∃ (kq : Nat) (x21_2 : Bool), v21 = .bool x21_2 ∧ Aside0 (impl_Pairing.j0 kq x21_2 a0_0 a0_1 a0_2 a1_0 a1_1 a1_2 = some (r1, r2)) ∧ Aside0 (kq ≤ k) ∧ Aside0 (wc.heap[gb400]? = some (.cells #[.int .i64 a0_0, .int .i64 a0_1, .bool a0_2] 25 (0, 0))) ∧ Aside0 (wc.heap[gb401]? = some (.cells #[.int .i64 a1_0, .int .i64 a1_1, .bool a1_2] 25 (0, 0))) ∧ Aside0 (wc.heap[gb402]? = some (.cells #[.int .i64 0, .int .i64 0] 31 (0, 0))) ∧ Aside0 (Below w.heap.size w wc))
 case first =>
  have H := HC3.out
  clear HC3
  by_cases c7 : a0_2 = true
  ·subst c7
   have H1 : (impl_Pairing.j0 k true a0_0 a0_1 true a1_0 a1_1 a1_2) = some (r1, r2) := by rw [if_pos rfl] at H; exact H
   clear H
   have H := H1
   clear H1
   have H' := Aside0.mk H
   clear H
   have hnb8 := NB400_401.out
   have hnc8 := NB401_400.out
   have hnb9 := NB400_402.out
   have hnc9 := NB402_400.out
   have hcz10_0 : w6.cell? ⟨gb400, 0, none⟩ = some (.int .i64 a0_0) := bc BK400 0
   have hcz10_1 : w6.cell? ⟨gb400, 1, none⟩ = some (.int .i64 a0_1) := bc BK400 1
   have hcz10_2 : w6.cell? ⟨gb400, 2, none⟩ = some (.bool true) := bc BK400 2
   have hfz10_0 := blk_frozen BK400.out 0
   have hfz10_1 := blk_frozen BK400.out 1
   have hfz10_2 := blk_frozen BK400.out 2
   go_wp2
   go_meet
   case rel => exact ⟨_, (true), (by first | rfl | (simp; done) | (simp [*]; done)), H', ⟨by first | omega | exact Nat.le_refl _⟩, ⟨bP BK400⟩, ⟨bP BK401⟩, ⟨bP BK402⟩, ⟨bZ HB⟩⟩
  ·replace c7 := Bool.eq_false_iff.mpr c7
   subst c7
   have H1 : (if a1_2 = true then (impl_Pairing.j0 k true a0_0 a0_1 false a1_0 a1_1 a1_2) else ((impl_InGroup.f k a0_0 a0_1 false).bind fun t403 => (if t403 = true then ((impl_InGroup.f k a1_0 a1_1 a1_2).bind fun t404 => (impl_Pairing.j0 k (!t404) a0_0 a0_1 false a1_0 a1_1 a1_2)) else (impl_Pairing.j0 k true a0_0 a0_1 false a1_0 a1_1 a1_2)))) = some (r1, r2) := by rw [if_neg (show ¬ (false = true) by decide)] at H; exact H
   clear H
   have H := H1
   clear H1
   by_cases c11 : a1_2 = true
   ·subst c11
    have H1 : (impl_Pairing.j0 k true a0_0 a0_1 false a1_0 a1_1 true) = some (r1, r2) := by rw [if_pos rfl] at H; exact H
    clear H
    have H := H1
    clear H1
    have H' := Aside0.mk H
    clear H
    have hnb12 := NB400_401.out
    have hnc12 := NB401_400.out
    have hnb13 := NB400_402.out
    have hnc13 := NB402_400.out
    have hcz14_0 : w6.cell? ⟨gb400, 0, none⟩ = some (.int .i64 a0_0) := bc BK400 0
    have hcz14_1 : w6.cell? ⟨gb400, 1, none⟩ = some (.int .i64 a0_1) := bc BK400 1
    have hcz14_2 : w6.cell? ⟨gb400, 2, none⟩ = some (.bool false) := bc BK400 2
    have hfz14_0 := blk_frozen BK400.out 0
    have hfz14_1 := blk_frozen BK400.out 1
    have hfz14_2 := blk_frozen BK400.out 2
    have hnb15 := NB401_402.out
    have hnc15 := NB402_401.out
    have hcz16_0 : w6.cell? ⟨gb401, 0, none⟩ = some (.int .i64 a1_0) := bc BK401 0
    have hcz16_1 : w6.cell? ⟨gb401, 1, none⟩ = some (.int .i64 a1_1) := bc BK401 1
    have hcz16_2 : w6.cell? ⟨gb401, 2, none⟩ = some (.bool true) := bc BK401 2
    have hfz16_0 := blk_frozen BK401.out 0
    have hfz16_1 := blk_frozen BK401.out 1
    have hfz16_2 := blk_frozen BK401.out 2
    go_wp2
    go_meet
    case rel => exact ⟨_, (true), (by first | rfl | (simp; done) | (simp [*]; done)), H', ⟨by first | omega | exact Nat.le_refl _⟩, ⟨bP BK400⟩, ⟨bP BK401⟩, ⟨bP BK402⟩, ⟨bZ HB⟩⟩
   ·replace c11 := Bool.eq_false_iff.mpr c11
    subst c11
    have H1 : ((impl_InGroup.f k a0_0 a0_1 false).bind fun t403 => (if t403 = true then ((impl_InGroup.f k a1_0 a1_1 false).bind fun t404 => (impl_Pairing.j0 k (!t404) a0_0 a0_1 false a1_0 a1_1 false)) else (impl_Pairing.j0 k true a0_0 a0_1 false a1_0 a1_1 false))) = some (r1, r2) := by rw [if_neg (show ¬ (false = true) by decide)] at H; exact H
    clear H
    have H := H1
    clear H1
    replace H := Option.bind_eq_some_iff.mp H
    obtain ⟨t403, A170, H⟩ := H
    replace H : (if t403 = true then ((impl_InGroup.f k a1_0 a1_1 false).bind fun t404 => (impl_Pairing.j0 k (!t404) a0_0 a0_1 false a1_0 a1_1 false)) else (impl_Pairing.j0 k true a0_0 a0_1 false a1_0 a1_1 false)) = some (r1, r2) := H
    have A17 := Aside0.mk A170
    clear A170
    by_cases c18 : t403 = true
    ·subst c18
     have H1 : ((impl_InGroup.f k a1_0 a1_1 false).bind fun t404 => (impl_Pairing.j0 k (!t404) a0_0 a0_1 false a1_0 a1_1 false)) = some (r1, r2) := by rw [if_pos rfl] at H; exact H
     clear H
     have H := H1
     clear H1
     replace H := Option.bind_eq_some_iff.mp H
     obtain ⟨t404, A190, H⟩ := H
     replace H : (impl_Pairing.j0 k (!t404) a0_0 a0_1 false a1_0 a1_1 false) = some (r1, r2) := H
     have A19 := Aside0.mk A190
     clear A190
     have H' := Aside0.mk H
     clear H
     have hnb20 := NB400_401.out
     have hnc20 := NB401_400.out
     have hnb21 := NB400_402.out
     have hnc21 := NB402_400.out
     have hcz22_0 : w6.cell? ⟨gb400, 0, none⟩ = some (.int .i64 a0_0) := bc BK400 0
     have hcz22_1 : w6.cell? ⟨gb400, 1, none⟩ = some (.int .i64 a0_1) := bc BK400 1
     have hcz22_2 : w6.cell? ⟨gb400, 2, none⟩ = some (.bool false) := bc BK400 2
     have hfz22_0 := blk_frozen BK400.out 0
     have hfz22_1 := blk_frozen BK400.out 1
     have hfz22_2 := blk_frozen BK400.out 2
     have hnb23 := NB401_402.out
     have hnc23 := NB402_401.out
     have hcz24_0 : w6.cell? ⟨gb401, 0, none⟩ = some (.int .i64 a1_0) := bc BK401 0
     have hcz24_1 : w6.cell? ⟨gb401, 1, none⟩ = some (.int .i64 a1_1) := bc BK401 1
     have hcz24_2 : w6.cell? ⟨gb401, 2, none⟩ = some (.bool false) := bc BK401 2
     have hfz24_0 := blk_frozen BK401.out 0
     have hfz24_1 := blk_frozen BK401.out 1
     have hfz24_2 := blk_frozen BK401.out 2
     go_wp2_with (first | (go_at_call 51; (with_reducible refine (impl_InGroup.calls k a0_0 a0_1 false true _ A17.out).mono ?_); rintro e w25 ⟨rfl, hb⟩; replace BK400 := bB BK400 hb; replace BK401 := bB BK401 hb; replace BK402 := bB BK402 hb; replace HB := bS HB hb; (try clear hb); (try clear hb2); (try clear hk); (try clear hi); have hcz26_0 : w25.cell? ⟨gb401, 0, none⟩ = some (.int .i64 a1_0) := bc BK401 0; have hcz26_1 : w25.cell? ⟨gb401, 1, none⟩ = some (.int .i64 a1_1) := bc BK401 1; have hcz26_2 : w25.cell? ⟨gb401, 2, none⟩ = some (.bool false) := bc BK401 2; have hfz26_0 := blk_frozen BK401.out 0; have hfz26_1 := blk_frozen BK401.out 1; have hfz26_2 := blk_frozen BK401.out 2) | (go_at_call 51; (with_reducible refine (impl_InGroup.calls k a1_0 a1_1 false t404 _ A19.out).mono ?_); rintro e w27 ⟨rfl, hb⟩; replace BK400 := bB BK400 hb; replace BK401 := bB BK401 hb; replace BK402 := bB BK402 hb; replace HB := bS HB hb; (try clear hb); (try clear hb2); (try clear hk); (try clear hi)))
     go_meet
     case rel => exact ⟨_, (!t404), (by first | rfl | (simp; done) | (simp [*]; done)), H', ⟨by first | omega | exact Nat.le_refl _⟩, ⟨bP BK400⟩, ⟨bP BK401⟩, ⟨bP BK402⟩, ⟨bZ HB⟩⟩
    ·replace c18 := Bool.eq_false_iff.mpr c18
     subst c18
     have H1 : (impl_Pairing.j0 k true a0_0 a0_1 false a1_0 a1_1 false) = some (r1, r2) := by rw [if_neg (show ¬ (false = true) by decide)] at H; exact H
     clear H
     have H := H1
     clear H1
     have H' := Aside0.mk H
     clear H
     have hnb28 := NB400_401.out
     have hnc28 := NB401_400.out
     have hnb29 := NB400_402.out
     have hnc29 := NB402_400.out
     have hcz30_0 : w6.cell? ⟨gb400, 0, none⟩ = some (.int .i64 a0_0) := bc BK400 0
     have hcz30_1 : w6.cell? ⟨gb400, 1, none⟩ = some (.int .i64 a0_1) := bc BK400 1
     have hcz30_2 : w6.cell? ⟨gb400, 2, none⟩ = some (.bool false) := bc BK400 2
     have hfz30_0 := blk_frozen BK400.out 0
     have hfz30_1 := blk_frozen BK400.out 1
     have hfz30_2 := blk_frozen BK400.out 2
     have hnb31 := NB401_402.out
     have hnc31 := NB402_401.out
     have hcz32_0 : w6.cell? ⟨gb401, 0, none⟩ = some (.int .i64 a1_0) := bc BK401 0
     have hcz32_1 : w6.cell? ⟨gb401, 1, none⟩ = some (.int .i64 a1_1) := bc BK401 1
     have hcz32_2 : w6.cell? ⟨gb401, 2, none⟩ = some (.bool false) := bc BK401 2
     have hfz32_0 := blk_frozen BK401.out 0
     have hfz32_1 := blk_frozen BK401.out 1
     have hfz32_2 := blk_frozen BK401.out 2
     go_wp2_with (first | (go_at_call 51; (with_reducible refine (impl_InGroup.calls k a0_0 a0_1 false false _ A17.out).mono ?_); rintro e w33 ⟨rfl, hb⟩; replace BK400 := bB BK400 hb; replace BK401 := bB BK401 hb; replace BK402 := bB BK402 hb; replace HB := bS HB hb; (try clear hb); (try clear hb2); (try clear hk); (try clear hi)))
     go_meet
     case rel => exact ⟨_, (true), (by first | rfl | (simp; done) | (simp [*]; done)), H', ⟨by first | omega | exact Nat.le_refl _⟩, ⟨bP BK400⟩, ⟨bP BK401⟩, ⟨bP BK402⟩, ⟨bZ HB⟩⟩
 case rest =>
  clear HC3
  try clear c1
  try clear c2
  try clear p2
  try clear c3
  try clear c7
  try clear c8
  try clear c9
  try clear c11
  try clear c12
  try clear c13
  try clear c15
  try clear c17
  try clear c18
  try clear c20
  try clear c21
  try clear c23
  try clear c28
  try clear c29
  try clear c31
  try clear hcz10_0
  try clear hcz10_1
  try clear hcz10_2
  try clear hcz14_0
  try clear hcz14_1
  try clear hcz14_2
  try clear hcz16_0
  try clear hcz16_1
  try clear hcz16_2
  try clear hcz22_0
  try clear hcz22_1
  try clear hcz22_2
  try clear hcz24_0
  try clear hcz24_1
  try clear hcz24_2
  try clear hcz26_0
  try clear hcz26_1
  try clear hcz26_2
  try clear hcz30_0
  try clear hcz30_1
  try clear hcz30_2
  try clear hcz32_0
  try clear hcz32_1
  try clear hcz32_2
  try clear hfz10_0
  try clear hfz10_1
  try clear hfz10_2
  try clear hfz14_0
  try clear hfz14_1
  try clear hfz14_2
  try clear hfz16_0
  try clear hfz16_1
  try clear hfz16_2
  try clear hfz22_0
  try clear hfz22_1
  try clear hfz22_2
  try clear hfz24_0
  try clear hfz24_1
  try clear hfz24_2
  try clear hfz26_0
  try clear hfz26_1
  try clear hfz26_2
  try clear hfz30_0
  try clear hfz30_1
  try clear hfz30_2
  try clear hfz32_0
  try clear hfz32_1
  try clear hfz32_2
  obtain ⟨kq, x21_2, rfl, HA, HJ2, BK400, BK401, BK402, HB⟩ := hcut
  cases kq with
  | zero => exact absurd HA.out (by simp [impl_Pairing.j0])
  | succ kj2 =>
   have H := HA.out
   clear HA
   simp only [impl_Pairing.j0] at H
   by_cases c34 : x21_2 = true
   ·subst c34
    have H1 : (some (1, 0)) = some (r1, r2) := by rw [if_pos rfl] at H; exact H
    clear H
    have H := H1
    clear H1
    simp only [Option.some.injEq, Prod.mk.injEq] at H
    obtain ⟨rfl, rfl⟩ := H
    have hnb35 := NB402_400.out
    have hnc35 := NB400_402.out
    have hnb36 := NB402_401.out
    have hnc36 := NB401_402.out
    have hcz37_0 : wc.cell? ⟨gb402, 0, none⟩ = some (.int .i64 0) := bc BK402 0
    have hcz37_1 : wc.cell? ⟨gb402, 1, none⟩ = some (.int .i64 0) := bc BK402 1
    have hfz37_0 := blk_frozen BK402.out 0
    have hfz37_1 := blk_frozen BK402.out 1
    go_wp2
    refine bodyPost_ret (results_cell_row rfl _ _ gb402 31 #[.int .i64 1, .int .i64 0] (0, 0) _ rfl (by (with_reducible repeat (first | refine blk_drewN ?_ _ | refine blk_drew ?_ | refine blk_alloc ?_ _)); refine blk_put (cs := #[.int .i64 1, .int .i64 0]) ?_ 1 _ rfl; (with_reducible repeat (first | refine blk_drewN ?_ _ | refine blk_drew ?_ | refine blk_alloc ?_ _)); refine blk_put (cs := #[.int .i64 0, .int .i64 0]) ?_ 0 _ rfl; (with_reducible repeat (first | refine blk_drewN ?_ _ | refine blk_drew ?_ | refine blk_alloc ?_ _)); exact BK402.out) Try.underlying31 rfl (by kernel_rfl)) rfl ?_
    exact ⟨by first | rfl | (simp [errW_none, errW_some] <;> rfl) | (simp [*, errW_none, errW_some] <;> rfl), bZ HB⟩
   ·replace c34 := Bool.eq_false_iff.mpr c34
    subst c34
    have H1 : ((impl_Miller.f kj2 a0_0 a0_1 a0_2 a1_0 a1_1 a1_2).bind fun bt405 => ((impl_TwoTurn.f bt405.1 bt405.2).bind fun bt408 => ((impl_TwoInv.f kj2 bt405.1 bt405.2).bind fun bt410 => ((impl_TwoMul.f bt408.1 bt408.2 bt410.1 bt410.2).bind fun bt412 => ((impl_TwoPow.f kj2 bt412.1 bt412.2 12).bind fun bt414 => (some (bt414.1, bt414.2))))))) = some (r1, r2) := by rw [if_neg (show ¬ (false = true) by decide)] at H; exact H
    clear H
    have H := H1
    clear H1
    replace H := Option.bind_eq_some_iff.mp H
    obtain ⟨⟨t405, t406⟩, A380, H⟩ := H
    replace H : ((impl_TwoTurn.f t405 t406).bind fun bt408 => ((impl_TwoInv.f kj2 t405 t406).bind fun bt410 => ((impl_TwoMul.f bt408.1 bt408.2 bt410.1 bt410.2).bind fun bt412 => ((impl_TwoPow.f kj2 bt412.1 bt412.2 12).bind fun bt414 => (some (bt414.1, bt414.2)))))) = some (r1, r2) := H
    have A38 := Aside0.mk A380
    clear A380
    replace H := Option.bind_eq_some_iff.mp H
    obtain ⟨⟨t408, t409⟩, A390, H⟩ := H
    replace H : ((impl_TwoInv.f kj2 t405 t406).bind fun bt410 => ((impl_TwoMul.f t408 t409 bt410.1 bt410.2).bind fun bt412 => ((impl_TwoPow.f kj2 bt412.1 bt412.2 12).bind fun bt414 => (some (bt414.1, bt414.2))))) = some (r1, r2) := H
    have A39 := Aside0.mk A390
    clear A390
    replace H := Option.bind_eq_some_iff.mp H
    obtain ⟨⟨t410, t411⟩, A400, H⟩ := H
    replace H : ((impl_TwoMul.f t408 t409 t410 t411).bind fun bt412 => ((impl_TwoPow.f kj2 bt412.1 bt412.2 12).bind fun bt414 => (some (bt414.1, bt414.2)))) = some (r1, r2) := H
    have A40 := Aside0.mk A400
    clear A400
    replace H := Option.bind_eq_some_iff.mp H
    obtain ⟨⟨t412, t413⟩, A410, H⟩ := H
    replace H : ((impl_TwoPow.f kj2 t412 t413 12).bind fun bt414 => (some (bt414.1, bt414.2))) = some (r1, r2) := H
    have A41 := Aside0.mk A410
    clear A410
    replace H := Option.bind_eq_some_iff.mp H
    obtain ⟨⟨t414, t415⟩, A420, H⟩ := H
    replace H : (some (t414, t415)) = some (r1, r2) := H
    have A42 := Aside0.mk A420
    clear A420
    simp only [Option.some.injEq, Prod.mk.injEq] at H
    obtain ⟨rfl, rfl⟩ := H
    have hnb43 := NB400_401.out
    have hnc43 := NB401_400.out
    have hnb44 := NB400_402.out
    have hnc44 := NB402_400.out
    have hcz45_0 : wc.cell? ⟨gb400, 0, none⟩ = some (.int .i64 a0_0) := bc BK400 0
    have hcz45_1 : wc.cell? ⟨gb400, 1, none⟩ = some (.int .i64 a0_1) := bc BK400 1
    have hcz45_2 : wc.cell? ⟨gb400, 2, none⟩ = some (.bool a0_2) := bc BK400 2
    have hfz45_0 := blk_frozen BK400.out 0
    have hfz45_1 := blk_frozen BK400.out 1
    have hfz45_2 := blk_frozen BK400.out 2
    have hnb46 := NB401_402.out
    have hnc46 := NB402_401.out
    have hcz47_0 : wc.cell? ⟨gb401, 0, none⟩ = some (.int .i64 a1_0) := bc BK401 0
    have hcz47_1 : wc.cell? ⟨gb401, 1, none⟩ = some (.int .i64 a1_1) := bc BK401 1
    have hcz47_2 : wc.cell? ⟨gb401, 2, none⟩ = some (.bool a1_2) := bc BK401 2
    have hfz47_0 := blk_frozen BK401.out 0
    have hfz47_1 := blk_frozen BK401.out 1
    have hfz47_2 := blk_frozen BK401.out 2
    try go_wp2_with (first | ((with_reducible refine gate_callee (f := 40) rfl ?_); refine goesL_ (some 25) rfl rfl Try.func40 (by kernel_rfl) rfl #[.agg #[.int .i64 a0_0, .int .i64 a0_1, .bool a0_2], .agg #[.int .i64 a1_0, .int .i64 a1_1, .bool a1_2]] rfl (by (try simp only [List.map_toArray, List.map_cons, List.map_nil]); first | done | rfl | (simp only [List.length_drop, List.length_take]; rfl)) ?_; (with_reducible refine (impl_Miller.calls kj2 a0_0 a0_1 a0_2 a1_0 a1_1 a1_2 t405 t406 _ A38.out).mono ?_); rintro e w48 ⟨rfl, hb⟩; refine ⟨_, rfl, ?_⟩; replace BK400 := bB BK400 hb; replace BK401 := bB BK401 hb; replace BK402 := bB BK402 hb; replace HB := bS HB hb; (try clear hb); (try clear hb2); (try clear hk); (try clear hi)) | ((with_reducible refine gate_dst (N := 5) rfl ?_); refine box_event ?hg (N := 5) ?hd (cs := #[.int .i64 0, .int .i64 0]) (t := 31) ?hr ?_; (case hd => rfl); (case hg => rfl); (case hr => first | (go_simp; done) | (go_simp; rfl)); intro gb407 hg w49 hbox hb; have BK407 := Aside0.mk (hbox); have GW407 := bG HB hg; have GE407 := bG HB hg; replace HB := bS HB hb; have NB400_407 := bL BK400 hg; have NB407_400 := bR BK400 hg; replace BK400 := bB BK400 hb; have NB401_407 := bL BK401 hg; have NB407_401 := bR BK401 hg; replace BK401 := bB BK401 hb; have NB402_407 := bL BK402 hg; have NB407_402 := bR BK402 hg; replace BK402 := bB BK402 hb; clear hb hbox hg; have hnb50 := NB407_400.out; have hnc50 := NB400_407.out; have hnb51 := NB407_401.out; have hnc51 := NB401_407.out; have hnb52 := NB407_402.out; have hnc52 := NB402_407.out; have hcz53_0 : w49.cell? ⟨gb407, 0, none⟩ = some (.int .i64 0) := bc BK407 0; have hcz53_1 : w49.cell? ⟨gb407, 1, none⟩ = some (.int .i64 0) := bc BK407 1; have hfz53_0 := blk_frozen BK407.out 0; have hfz53_1 := blk_frozen BK407.out 1))
    have n0_ : Aside0 (((w49.setCell ⟨gb407, 0, none⟩ (.int .i64 t405)).setCell ⟨gb407, 1, none⟩ (.int .i64 t406)).heap[gb400]? = some (.cells #[.int .i64 a0_0, .int .i64 a0_1, .bool a0_2] 25 (0, 0))) := ⟨bP BK400⟩
    have n1_ : Aside0 (((w49.setCell ⟨gb407, 0, none⟩ (.int .i64 t405)).setCell ⟨gb407, 1, none⟩ (.int .i64 t406)).heap[gb401]? = some (.cells #[.int .i64 a1_0, .int .i64 a1_1, .bool a1_2] 25 (0, 0))) := ⟨bP BK401⟩
    have n2_ : Aside0 (((w49.setCell ⟨gb407, 0, none⟩ (.int .i64 t405)).setCell ⟨gb407, 1, none⟩ (.int .i64 t406)).heap[gb402]? = some (.cells #[.int .i64 0, .int .i64 0] 31 (0, 0))) := ⟨bP BK402⟩
    have n3_ : Aside0 (((w49.setCell ⟨gb407, 0, none⟩ (.int .i64 t405)).setCell ⟨gb407, 1, none⟩ (.int .i64 t406)).heap[gb407]? = some (.cells #[.int .i64 t405, .int .i64 t406] 31 (0, 0))) := ⟨by (with_reducible repeat (first | refine blk_drewN ?_ _ | refine blk_drew ?_ | refine blk_alloc ?_ _)); refine blk_put (cs := #[.int .i64 t405, .int .i64 0]) ?_ 1 _ rfl; (with_reducible repeat (first | refine blk_drewN ?_ _ | refine blk_drew ?_ | refine blk_alloc ?_ _)); refine blk_put (cs := #[.int .i64 0, .int .i64 0]) ?_ 0 _ rfl; (with_reducible repeat (first | refine blk_drewN ?_ _ | refine blk_drew ?_ | refine blk_alloc ?_ _)); exact BK407.out⟩
    have n4_ : Aside0 (Below w.heap.size w ((w49.setCell ⟨gb407, 0, none⟩ (.int .i64 t405)).setCell ⟨gb407, 1, none⟩ (.int .i64 t406))) := ⟨bZ HB⟩
    (try clear BK400)
    (try clear BK401)
    (try clear BK402)
    (try clear BK407)
    (try clear HB)
    generalize ((w49.setCell ⟨gb407, 0, none⟩ (.int .i64 t405)).setCell ⟨gb407, 1, none⟩ (.int .i64 t406)) = w54 at n0_ n1_ n2_ n3_ n4_ ⊢
    have BK400 := n0_
    have BK401 := n1_
    have BK402 := n2_
    have BK407 := n3_
    have HB := n4_
    clear n0_ n1_ n2_ n3_ n4_
    replace BK400 := Aside0.mk (blk_drew BK400.out)
    replace BK401 := Aside0.mk (blk_drew BK401.out)
    replace BK402 := Aside0.mk (blk_drew BK402.out)
    replace BK407 := Aside0.mk (blk_drew BK407.out)
    replace HB := Aside0.mk (below_drew1 HB.out)
    refine start_ (n := 7) (S := fun w' => w'.cell? ⟨gb407, 0, none⟩ = some (.int .i64 t405) ∧ w'.cell? ⟨gb407, 1, none⟩ = some (.int .i64 t406)) (ds := []) #[false, false, false, false, false, false, false] (by kernel_rfl) rfl rfl ⟨bc BK407 0, bc BK407 1⟩ (fun hHeld => ?_)
    generalize w54.drew = w55 at BK400 BK401 BK402 BK407 HB hHeld ⊢
    refine take_ (i := 0) (N := some 26) (v := ?_) (a' := ?_) #[true, false, false, false, false, false, false] rfl rfl (by kernel_rfl) (fun _ _ _ h => h) (Or.inl ⟨by rfl, ?_⟩) hHeld ?_ ?_
    rotate_left
    ·rintro w' ⟨s0, s1⟩
     go_simp
     with_reducible rfl
    rotate_left
    ·simp only [Act.put, List.setIfInBounds_toArray, List.set_cons_zero, List.set_cons_succ, i64_w, i32_w]
     rfl
    refine take_ (i := 2) (N := some 28) (v := ?_) (a' := ?_) #[true, false, true, false, false, false, false] rfl rfl (by kernel_rfl) (fun _ _ _ h => h) (Or.inl ⟨by rfl, ?_⟩) hHeld ?_ ?_
    rotate_left
    ·rintro w' ⟨s0, s1⟩
     go_simp
     with_reducible rfl
    rotate_left
    ·simp only [Act.put, List.setIfInBounds_toArray, List.set_cons_zero, List.set_cons_succ, i64_w, i32_w]
     rfl
    refine one_ (i := 1) (N := some 27) #[true, true, true, false, false, false, false] rfl rfl (by kernel_rfl) (by decide) (fun K hK => ?_)
    refine goes_ Try.func63 (by kernel_rfl) rfl #[.agg #[.int .i64 t405, .int .i64 t406]] (by rfl) rfl rfl (by (try simp only [List.map_toArray, List.map_cons, List.map_nil]); first | done | rfl | (simp only [List.length_drop, List.length_take]; rfl)) ?_
    with_reducible refine (impl_TwoTurn.calls t405 t406 t408 t409 _ A39.out).mono ?_
    rintro e w56 ⟨rfl, hb⟩
    refine ⟨_, rfl, ?_⟩
    replace BK400 := bB BK400 hb
    replace BK401 := bB BK401 hb
    replace BK402 := bB BK402 hb
    replace BK407 := bB BK407 hb
    replace HB := bS HB hb
    (try clear hb)
    (try clear hb2)
    (try clear hk)
    (try clear hi)
    refine hK.out _ _ ⟨bc BK407 0, bc BK407 1⟩ (fun hHeld => ?_)
    clear hK K
    refine norm_ (a' := ?_) ?_ ?_
    rotate_left
    ·show Act.put _ (some 27) _ = _
     simp only [Act.put, List.setIfInBounds_toArray, List.set_cons_zero, List.set_cons_succ, i64_w, i32_w]
     rfl
    refine one_ (i := 3) (N := some 29) #[true, true, true, true, false, false, false] rfl rfl (by kernel_rfl) (by decide) (fun K hK => ?_)
    refine goes_ Try.func64 (by kernel_rfl) rfl #[.agg #[.int .i64 t405, .int .i64 t406]] (by rfl) rfl rfl (by (try simp only [List.map_toArray, List.map_cons, List.map_nil]); first | done | rfl | (simp only [List.length_drop, List.length_take]; rfl)) ?_
    with_reducible refine (impl_TwoInv.calls kj2 t405 t406 t410 t411 _ A40.out).mono ?_
    rintro e w57 ⟨rfl, hb⟩
    refine ⟨_, rfl, ?_⟩
    replace BK400 := bB BK400 hb
    replace BK401 := bB BK401 hb
    replace BK402 := bB BK402 hb
    replace BK407 := bB BK407 hb
    replace HB := bS HB hb
    (try clear hb)
    (try clear hb2)
    (try clear hk)
    (try clear hi)
    refine hK.out _ _ ⟨bc BK407 0, bc BK407 1⟩ (fun hHeld => ?_)
    clear hK K
    refine norm_ (a' := ?_) ?_ ?_
    rotate_left
    ·show Act.put _ (some 29) _ = _
     simp only [Act.put, List.setIfInBounds_toArray, List.set_cons_zero, List.set_cons_succ, i64_w, i32_w]
     rfl
    refine one_ (i := 4) (N := some 30) #[true, true, true, true, true, false, false] rfl rfl (by kernel_rfl) (by decide) (fun K hK => ?_)
    refine goes_ Try.func21 (by kernel_rfl) rfl #[.agg #[.int .i64 t408, .int .i64 t409], .agg #[.int .i64 t410, .int .i64 t411]] (by rfl) rfl rfl (by (try simp only [List.map_toArray, List.map_cons, List.map_nil]); first | done | rfl | (simp only [List.length_drop, List.length_take]; rfl)) ?_
    with_reducible refine (impl_TwoMul.calls t408 t409 t410 t411 t412 t413 _ A41.out).mono ?_
    rintro e w58 ⟨rfl, hb⟩
    refine ⟨_, rfl, ?_⟩
    replace BK400 := bB BK400 hb
    replace BK401 := bB BK401 hb
    replace BK402 := bB BK402 hb
    replace BK407 := bB BK407 hb
    replace HB := bS HB hb
    (try clear hb)
    (try clear hb2)
    (try clear hk)
    (try clear hi)
    refine hK.out _ _ ⟨bc BK407 0, bc BK407 1⟩ (fun hHeld => ?_)
    clear hK K
    refine norm_ (a' := ?_) ?_ ?_
    rotate_left
    ·show Act.put _ (some 30) _ = _
     simp only [Act.put, List.setIfInBounds_toArray, List.set_cons_zero, List.set_cons_succ, i64_w, i32_w]
     rfl
    refine one_ (i := 5) (N := some 31) #[true, true, true, true, true, true, false] rfl rfl (by kernel_rfl) (by decide) (fun K hK => ?_)
    refine goes_ Try.func20 (by kernel_rfl) rfl #[.agg #[.int .i64 t412, .int .i64 t413], .int .i64 12] (by rfl) rfl rfl (by (try simp only [List.map_toArray, List.map_cons, List.map_nil]); first | done | rfl | (simp only [List.length_drop, List.length_take]; rfl)) ?_
    with_reducible refine (impl_TwoPow.calls kj2 t412 t413 12 t414 t415 _ A42.out).mono ?_
    rintro e w59 ⟨rfl, hb⟩
    refine ⟨_, rfl, ?_⟩
    replace BK400 := bB BK400 hb
    replace BK401 := bB BK401 hb
    replace BK402 := bB BK402 hb
    replace BK407 := bB BK407 hb
    replace HB := bS HB hb
    (try clear hb)
    (try clear hb2)
    (try clear hk)
    (try clear hi)
    refine hK.out _ _ ⟨bc BK407 0, bc BK407 1⟩ (fun hHeld => ?_)
    clear hK K
    refine norm_ (a' := ?_) ?_ ?_
    rotate_left
    ·show Act.put _ (some 31) _ = _
     simp only [Act.put, List.setIfInBounds_toArray, List.set_cons_zero, List.set_cons_succ, i64_w, i32_w]
     rfl
    refine one_ (i := 6) (N := none) #[true, true, true, true, true, true, true] rfl rfl (by kernel_rfl) (by decide) (fun K hK => ?_)
    have hs60 : w59.cell? ⟨gb402, 0, none⟩ = some (.int .i64 0) := bc BK402 0
    have hfs60 := blk_frozen BK402.out 0
    have hns60_0 := NB400_402.out
    have hns60_1 := NB401_402.out
    have hns60_3 := NB407_402.out
    have hms60_0 := NB402_400.out
    have hms60_1 := NB402_401.out
    have hms60_3 := NB402_407.out
    have hs61 : w59.cell? ⟨gb402, 1, none⟩ = some (.int .i64 0) := bc BK402 1
    have hfs61 := blk_frozen BK402.out 1
    have hns61_0 := NB400_402.out
    have hns61_1 := NB401_402.out
    have hns61_3 := NB407_402.out
    have hms61_0 := NB402_400.out
    have hms61_1 := NB402_401.out
    have hms61_3 := NB402_407.out
    refine skip_ (w1 := ?_) (by rfl) rfl ?_ ?_
    rotate_left
    ·go_simp
     rfl
    refine hK.out _ _ ⟨((cell_far (p := ⟨gb402, _, none⟩) NB407_402.out _).trans (((cell_far (p := ⟨gb402, _, none⟩) NB407_402.out _).trans (hHeld.1)))), ((cell_far (p := ⟨gb402, _, none⟩) NB407_402.out _).trans (((cell_far (p := ⟨gb402, _, none⟩) NB407_402.out _).trans (hHeld.2))))⟩ (fun hHeld => ?_)
    clear hK K
    refine done_ (by kernel_rfl) ?_
    try go_wp2
    refine bodyPost_ret (results_cell_row rfl _ _ gb402 31 #[.int .i64 t414, .int .i64 t415] (0, 0) _ rfl (by (with_reducible repeat (first | refine blk_drewN ?_ _ | refine blk_drew ?_ | refine blk_alloc ?_ _)); refine blk_put (cs := #[.int .i64 t414, .int .i64 0]) ?_ 1 _ rfl; (with_reducible repeat (first | refine blk_drewN ?_ _ | refine blk_drew ?_ | refine blk_alloc ?_ _)); refine blk_put (cs := #[.int .i64 0, .int .i64 0]) ?_ 0 _ rfl; (with_reducible repeat (first | refine blk_drewN ?_ _ | refine blk_drew ?_ | refine blk_alloc ?_ _)); exact BK402.out) Try.underlying31 rfl (by kernel_rfl)) rfl ?_
    exact ⟨by first | rfl | (simp [errW_none, errW_some] <;> rfl) | (simp [*, errW_none, errW_some] <;> rfl), bZ HB⟩
/-! ### spec_FpOf: function 102 -/
def spec_FpOf.f (a0 : Int) : Option (Int) := if (Int.tmod a0 12107) < 0 then (some (wrap64 ((Int.tmod a0 12107) + 12107))) else (some (Int.tmod a0 12107))
set_option maxHeartbeats 8000000 in
set_option maxRecDepth 100000 in
theorem spec_FpOf.calls (a0 : Int) (r : Int) (w : World) (h : spec_FpOf.f a0 = some r) :
  Calls Try.prog 102 #[.int .i64 a0] w fun e w' => e = .returned (.int .i64 r) ∧ Drawn0 w w' := by
 have H : (if (Int.tmod a0 12107) < 0 then (some (wrap64 ((Int.tmod a0 12107) + 12107))) else (some (Int.tmod a0 12107))) = some r := h
 clear h
 by_cases c2 : (Int.tmod a0 12107) < 0
 ·rw [if_pos c2] at H
  have c2b0 : decide ((Int.tmod a0 12107) < 0) = true := decide_eq_true c2
  clear c2
  obtain rfl := Option.some.inj H
  go_enter Try.func102, Try.ntmps102
  go_wp2
  go_ret
  exact ⟨by first | rfl | (simp; done) | (simp [*]; done), by repeat (first | exact Drawn0.refl _ | apply Drawn0.step)⟩
 ·rw [if_neg c2] at H
  have c2b0 : decide ((Int.tmod a0 12107) < 0) = false := decide_eq_false c2
  clear c2
  obtain rfl := Option.some.inj H
  go_enter Try.func102, Try.ntmps102
  go_wp2
  go_ret
  exact ⟨by first | rfl | (simp; done) | (simp [*]; done), by repeat (first | exact Drawn0.refl _ | apply Drawn0.step)⟩
/-! ### spec_FpMul: function 76 -/
def spec_FpMul.f (a0 : Int) (a1 : Int) : Option (Int) := (spec_FpOf.f a0).bind fun t104 => ((spec_FpOf.f a1).bind fun t105 => ((spec_FpOf.f (wrap64 (t104 * t105))).bind fun t106 => (some t106)))
set_option maxHeartbeats 8000000 in
set_option maxRecDepth 100000 in
theorem spec_FpMul.calls (a0 : Int) (a1 : Int) (r : Int) (w : World) (h : spec_FpMul.f a0 a1 = some r) :
  Calls Try.prog 76 #[.int .i64 a0, .int .i64 a1] w fun e w' => e = .returned (.int .i64 r) ∧ Drawn0 w w' := by
 have H : ((spec_FpOf.f a0).bind fun t104 => ((spec_FpOf.f a1).bind fun t105 => ((spec_FpOf.f (wrap64 (t104 * t105))).bind fun t106 => (some t106)))) = some r := h
 clear h
 replace H := Option.bind_eq_some_iff.mp H
 obtain ⟨t104, A30, H⟩ := H
 replace H : ((spec_FpOf.f a1).bind fun t105 => ((spec_FpOf.f (wrap64 (t104 * t105))).bind fun t106 => (some t106))) = some r := H
 have A3 := Aside0.mk A30
 clear A30
 replace H := Option.bind_eq_some_iff.mp H
 obtain ⟨t105, A40, H⟩ := H
 replace H : ((spec_FpOf.f (wrap64 (t104 * t105))).bind fun t106 => (some t106)) = some r := H
 have A4 := Aside0.mk A40
 clear A40
 replace H := Option.bind_eq_some_iff.mp H
 obtain ⟨t106, A50, H⟩ := H
 replace H : (some t106) = some r := H
 have A5 := Aside0.mk A50
 clear A50
 obtain rfl := Option.some.inj H
 go_enter Try.func76, Try.ntmps76
 go_wp2_with (first | ((with_reducible refine gate_callee (f := 102) rfl ?_); refine goesL_ (some 6) rfl rfl Try.func102 (by kernel_rfl) rfl #[.int .i64 a0] rfl (by (try simp only [List.map_toArray, List.map_cons, List.map_nil]); first | done | rfl | (simp only [List.length_drop, List.length_take]; rfl)) ?_; (with_reducible refine (spec_FpOf.calls a0 t104 _ A3.out).mono ?_); rintro e w' ⟨rfl, ⟨nd, rfl⟩⟩; refine ⟨_, rfl, ?_⟩) | ((with_reducible refine gate_callee (f := 102) rfl ?_); refine goesL_ (some 8) rfl rfl Try.func102 (by kernel_rfl) rfl #[.int .i64 a1] rfl (by (try simp only [List.map_toArray, List.map_cons, List.map_nil]); first | done | rfl | (simp only [List.length_drop, List.length_take]; rfl)) ?_; (with_reducible refine (spec_FpOf.calls a1 t105 _ A4.out).mono ?_); rintro e w' ⟨rfl, ⟨nd, rfl⟩⟩; refine ⟨_, rfl, ?_⟩) | ((with_reducible refine gate_callee (f := 102) rfl ?_); refine goesL_ (some 10) rfl rfl Try.func102 (by kernel_rfl) rfl #[.int .i64 (wrap64 (t104 * t105))] rfl (by (try simp only [List.map_toArray, List.map_cons, List.map_nil]); first | done | rfl | (simp only [List.length_drop, List.length_take]; rfl)) ?_; (with_reducible refine (spec_FpOf.calls (wrap64 (t104 * t105)) t106 _ A5.out).mono ?_); rintro e w' ⟨rfl, ⟨nd, rfl⟩⟩; refine ⟨_, rfl, ?_⟩))
 go_ret
 exact ⟨by first | rfl | (simp; done) | (simp [*]; done), by repeat (first | exact Drawn0.refl _ | apply Drawn0.step)⟩
/-! ### spec_FpAdd: function 103 -/
def spec_FpAdd.f (a0 : Int) (a1 : Int) : Option (Int) := (spec_FpOf.f a0).bind fun t108 => ((spec_FpOf.f a1).bind fun t109 => ((spec_FpOf.f (wrap64 (t108 + t109))).bind fun t110 => (some t110)))
set_option maxHeartbeats 8000000 in
set_option maxRecDepth 100000 in
theorem spec_FpAdd.calls (a0 : Int) (a1 : Int) (r : Int) (w : World) (h : spec_FpAdd.f a0 a1 = some r) :
  Calls Try.prog 103 #[.int .i64 a0, .int .i64 a1] w fun e w' => e = .returned (.int .i64 r) ∧ Drawn0 w w' := by
 have H : ((spec_FpOf.f a0).bind fun t108 => ((spec_FpOf.f a1).bind fun t109 => ((spec_FpOf.f (wrap64 (t108 + t109))).bind fun t110 => (some t110)))) = some r := h
 clear h
 replace H := Option.bind_eq_some_iff.mp H
 obtain ⟨t108, A30, H⟩ := H
 replace H : ((spec_FpOf.f a1).bind fun t109 => ((spec_FpOf.f (wrap64 (t108 + t109))).bind fun t110 => (some t110))) = some r := H
 have A3 := Aside0.mk A30
 clear A30
 replace H := Option.bind_eq_some_iff.mp H
 obtain ⟨t109, A40, H⟩ := H
 replace H : ((spec_FpOf.f (wrap64 (t108 + t109))).bind fun t110 => (some t110)) = some r := H
 have A4 := Aside0.mk A40
 clear A40
 replace H := Option.bind_eq_some_iff.mp H
 obtain ⟨t110, A50, H⟩ := H
 replace H : (some t110) = some r := H
 have A5 := Aside0.mk A50
 clear A50
 obtain rfl := Option.some.inj H
 go_enter Try.func103, Try.ntmps103
 go_wp2_with (first | ((with_reducible refine gate_callee (f := 102) rfl ?_); refine goesL_ (some 6) rfl rfl Try.func102 (by kernel_rfl) rfl #[.int .i64 a0] rfl (by (try simp only [List.map_toArray, List.map_cons, List.map_nil]); first | done | rfl | (simp only [List.length_drop, List.length_take]; rfl)) ?_; (with_reducible refine (spec_FpOf.calls a0 t108 _ A3.out).mono ?_); rintro e w' ⟨rfl, ⟨nd, rfl⟩⟩; refine ⟨_, rfl, ?_⟩) | ((with_reducible refine gate_callee (f := 102) rfl ?_); refine goesL_ (some 8) rfl rfl Try.func102 (by kernel_rfl) rfl #[.int .i64 a1] rfl (by (try simp only [List.map_toArray, List.map_cons, List.map_nil]); first | done | rfl | (simp only [List.length_drop, List.length_take]; rfl)) ?_; (with_reducible refine (spec_FpOf.calls a1 t109 _ A4.out).mono ?_); rintro e w' ⟨rfl, ⟨nd, rfl⟩⟩; refine ⟨_, rfl, ?_⟩) | ((with_reducible refine gate_callee (f := 102) rfl ?_); refine goesL_ (some 10) rfl rfl Try.func102 (by kernel_rfl) rfl #[.int .i64 (wrap64 (t108 + t109))] rfl (by (try simp only [List.map_toArray, List.map_cons, List.map_nil]); first | done | rfl | (simp only [List.length_drop, List.length_take]; rfl)) ?_; (with_reducible refine (spec_FpOf.calls (wrap64 (t108 + t109)) t110 _ A5.out).mono ?_); rintro e w' ⟨rfl, ⟨nd, rfl⟩⟩; refine ⟨_, rfl, ?_⟩))
 go_ret
 exact ⟨by first | rfl | (simp; done) | (simp [*]; done), by repeat (first | exact Drawn0.refl _ | apply Drawn0.step)⟩
/-! ### spec_FpSub: function 75 -/
def spec_FpSub.f (a0 : Int) (a1 : Int) : Option (Int) := (spec_FpOf.f a0).bind fun t120 => ((spec_FpOf.f a1).bind fun t121 => ((spec_FpOf.f (wrap64 (t120 - t121))).bind fun t122 => (some t122)))
set_option maxHeartbeats 8000000 in
set_option maxRecDepth 100000 in
theorem spec_FpSub.calls (a0 : Int) (a1 : Int) (r : Int) (w : World) (h : spec_FpSub.f a0 a1 = some r) :
  Calls Try.prog 75 #[.int .i64 a0, .int .i64 a1] w fun e w' => e = .returned (.int .i64 r) ∧ Drawn0 w w' := by
 have H : ((spec_FpOf.f a0).bind fun t120 => ((spec_FpOf.f a1).bind fun t121 => ((spec_FpOf.f (wrap64 (t120 - t121))).bind fun t122 => (some t122)))) = some r := h
 clear h
 replace H := Option.bind_eq_some_iff.mp H
 obtain ⟨t120, A30, H⟩ := H
 replace H : ((spec_FpOf.f a1).bind fun t121 => ((spec_FpOf.f (wrap64 (t120 - t121))).bind fun t122 => (some t122))) = some r := H
 have A3 := Aside0.mk A30
 clear A30
 replace H := Option.bind_eq_some_iff.mp H
 obtain ⟨t121, A40, H⟩ := H
 replace H : ((spec_FpOf.f (wrap64 (t120 - t121))).bind fun t122 => (some t122)) = some r := H
 have A4 := Aside0.mk A40
 clear A40
 replace H := Option.bind_eq_some_iff.mp H
 obtain ⟨t122, A50, H⟩ := H
 replace H : (some t122) = some r := H
 have A5 := Aside0.mk A50
 clear A50
 obtain rfl := Option.some.inj H
 go_enter Try.func75, Try.ntmps75
 go_wp2_with (first | ((with_reducible refine gate_callee (f := 102) rfl ?_); refine goesL_ (some 6) rfl rfl Try.func102 (by kernel_rfl) rfl #[.int .i64 a0] rfl (by (try simp only [List.map_toArray, List.map_cons, List.map_nil]); first | done | rfl | (simp only [List.length_drop, List.length_take]; rfl)) ?_; (with_reducible refine (spec_FpOf.calls a0 t120 _ A3.out).mono ?_); rintro e w' ⟨rfl, ⟨nd, rfl⟩⟩; refine ⟨_, rfl, ?_⟩) | ((with_reducible refine gate_callee (f := 102) rfl ?_); refine goesL_ (some 8) rfl rfl Try.func102 (by kernel_rfl) rfl #[.int .i64 a1] rfl (by (try simp only [List.map_toArray, List.map_cons, List.map_nil]); first | done | rfl | (simp only [List.length_drop, List.length_take]; rfl)) ?_; (with_reducible refine (spec_FpOf.calls a1 t121 _ A4.out).mono ?_); rintro e w' ⟨rfl, ⟨nd, rfl⟩⟩; refine ⟨_, rfl, ?_⟩) | ((with_reducible refine gate_callee (f := 102) rfl ?_); refine goesL_ (some 10) rfl rfl Try.func102 (by kernel_rfl) rfl #[.int .i64 (wrap64 (t120 - t121))] rfl (by (try simp only [List.map_toArray, List.map_cons, List.map_nil]); first | done | rfl | (simp only [List.length_drop, List.length_take]; rfl)) ?_; (with_reducible refine (spec_FpOf.calls (wrap64 (t120 - t121)) t122 _ A5.out).mono ?_); rintro e w' ⟨rfl, ⟨nd, rfl⟩⟩; refine ⟨_, rfl, ?_⟩))
 go_ret
 exact ⟨by first | rfl | (simp; done) | (simp [*]; done), by repeat (first | exact Drawn0.refl _ | apply Drawn0.step)⟩
/-! ### spec_TwoMul: function 71 -/
def spec_TwoMul.f (a0_0 : Int) (a0_1 : Int) (a1_0 : Int) (a1_1 : Int) : Option (Int × Int) := (spec_FpMul.f a0_0 a1_0).bind fun t445 => ((spec_FpMul.f a0_1 a1_1).bind fun t446 => ((spec_FpSub.f t445 t446).bind fun t447 => ((spec_FpMul.f a0_0 a1_1).bind fun t448 => ((spec_FpMul.f a0_1 a1_0).bind fun t449 => ((spec_FpAdd.f t448 t449).bind fun t450 => (some (t447, t450)))))))
def spec_TwoMul.T1 : Bool × List (List Nat × List Nat) := (true, [([], []), ([0], [0]), ([], []), ([2], [2]), ([1, 3], [1, 3]), ([], []), ([5], [5]), ([], []), ([7], [7]), ([6, 8, 4], [6, 8]), ([4, 9, 9], [4, 9]), ([], []), ([11], [11]), ([], []), ([13], [13]), ([12, 14, 10], [12, 14]), ([], []), ([16], [16]), ([], []), ([18], [18]), ([17, 19, 15], [17, 19]), ([15, 20, 20], [15, 20]), ([10, 21], [10, 21]), ([22, 21, 0, 1, 2, 3, 4, 5, 6, 7, 8, 9, 10, 11, 12, 13, 14, 15, 16, 17, 18, 19, 20, 21, 22], [22])])
def spec_TwoMul.B1 : List Nat := [0, 1, 0, 4, 15, 0, 32, 0, 128, 511, 1023, 0, 2048, 0, 8192, 32767, 0, 65536, 0, 262144, 1048575, 2097151, 4194303, 8388607]
theorem spec_TwoMul.tab1 : rtab .any (opsOf Try.f71 1) = spec_TwoMul.T1 := by kernel_rfl
theorem spec_TwoMul.bits1 : waitsOk spec_TwoMul.T1.2 spec_TwoMul.B1 = true := by kernel_rfl
set_option maxHeartbeats 8000000 in
set_option maxRecDepth 100000 in
theorem spec_TwoMul.calls (a0_0 : Int) (a0_1 : Int) (a1_0 : Int) (a1_1 : Int) (r1 : Int) (r2 : Int) (w : World) (h : spec_TwoMul.f a0_0 a0_1 a1_0 a1_1 = some (r1, r2)) :
  Calls Try.prog 71 #[.agg #[.int .i64 a0_0, .int .i64 a0_1], .agg #[.int .i64 a1_0, .int .i64 a1_1]] w fun e w' => e = .returned (.agg #[.int .i64 r1, .int .i64 r2]) ∧ Below w.heap.size w w' := by
 have hu31 := Try.underlying31
 have HB := Aside0.mk (Below.refl w.heap.size w)
 have H : ((spec_FpMul.f a0_0 a1_0).bind fun t445 => ((spec_FpMul.f a0_1 a1_1).bind fun t446 => ((spec_FpSub.f t445 t446).bind fun t447 => ((spec_FpMul.f a0_0 a1_1).bind fun t448 => ((spec_FpMul.f a0_1 a1_0).bind fun t449 => ((spec_FpAdd.f t448 t449).bind fun t450 => (some (t447, t450)))))))) = some (r1, r2) := h
 clear h
 replace H := Option.bind_eq_some_iff.mp H
 obtain ⟨t445, A30, H⟩ := H
 replace H : ((spec_FpMul.f a0_1 a1_1).bind fun t446 => ((spec_FpSub.f t445 t446).bind fun t447 => ((spec_FpMul.f a0_0 a1_1).bind fun t448 => ((spec_FpMul.f a0_1 a1_0).bind fun t449 => ((spec_FpAdd.f t448 t449).bind fun t450 => (some (t447, t450))))))) = some (r1, r2) := H
 have A3 := Aside0.mk A30
 clear A30
 replace H := Option.bind_eq_some_iff.mp H
 obtain ⟨t446, A40, H⟩ := H
 replace H : ((spec_FpSub.f t445 t446).bind fun t447 => ((spec_FpMul.f a0_0 a1_1).bind fun t448 => ((spec_FpMul.f a0_1 a1_0).bind fun t449 => ((spec_FpAdd.f t448 t449).bind fun t450 => (some (t447, t450)))))) = some (r1, r2) := H
 have A4 := Aside0.mk A40
 clear A40
 replace H := Option.bind_eq_some_iff.mp H
 obtain ⟨t447, A50, H⟩ := H
 replace H : ((spec_FpMul.f a0_0 a1_1).bind fun t448 => ((spec_FpMul.f a0_1 a1_0).bind fun t449 => ((spec_FpAdd.f t448 t449).bind fun t450 => (some (t447, t450))))) = some (r1, r2) := H
 have A5 := Aside0.mk A50
 clear A50
 replace H := Option.bind_eq_some_iff.mp H
 obtain ⟨t448, A60, H⟩ := H
 replace H : ((spec_FpMul.f a0_1 a1_0).bind fun t449 => ((spec_FpAdd.f t448 t449).bind fun t450 => (some (t447, t450)))) = some (r1, r2) := H
 have A6 := Aside0.mk A60
 clear A60
 replace H := Option.bind_eq_some_iff.mp H
 obtain ⟨t449, A70, H⟩ := H
 replace H : ((spec_FpAdd.f t448 t449).bind fun t450 => (some (t447, t450))) = some (r1, r2) := H
 have A7 := Aside0.mk A70
 clear A70
 replace H := Option.bind_eq_some_iff.mp H
 obtain ⟨t450, A80, H⟩ := H
 replace H : (some (t447, t450)) = some (r1, r2) := H
 have A8 := Aside0.mk A80
 clear A80
 simp only [Option.some.injEq, Prod.mk.injEq] at H
 obtain ⟨rfl, rfl⟩ := H
 go_enter Try.func71, Try.ntmps71
 try go_wp2_with (first | ((with_reducible refine gate_dst (N := 2) rfl ?_); refine box_event ?hg (N := 2) ?hd (cs := #[.int .i64 a0_0, .int .i64 a0_1]) (t := 31) ?hr ?_; (case hd => rfl); (case hg => rfl); (case hr => first | (go_simp; done) | (go_simp; rfl)); intro gb442 hg w9 hbox hb; have BK442 := Aside0.mk (hbox); have GW442 := bG HB hg; have GE442 := bG HB hg; replace HB := bS HB hb; clear hb hbox hg) | ((with_reducible refine gate_dst (N := 3) rfl ?_); refine box_event ?hg (N := 3) ?hd (cs := #[.int .i64 a1_0, .int .i64 a1_1]) (t := 31) ?hr ?_; (case hd => rfl); (case hg => rfl); (case hr => first | (go_simp; done) | (go_simp; rfl)); intro gb443 hg w10 hbox hb; have BK443 := Aside0.mk (hbox); have GW443 := bG HB hg; have GE443 := bG HB hg; replace HB := bS HB hb; have NB442_443 := bL BK442 hg; have NB443_442 := bR BK442 hg; replace BK442 := bB BK442 hb; clear hb hbox hg) | ((with_reducible refine gate_dst (N := 4) rfl ?_); refine box_event ?hg (N := 4) ?hd (cs := #[.int .i64 0, .int .i64 0]) (t := 31) ?hr ?_; (case hd => rfl); (case hg => rfl); (case hr => first | (go_simp; done) | (go_simp; rfl)); intro gb444 hg w11 hbox hb; have BK444 := Aside0.mk (hbox); have GW444 := bG HB hg; have GE444 := bG HB hg; replace HB := bS HB hb; have NB442_444 := bL BK442 hg; have NB444_442 := bR BK442 hg; replace BK442 := bB BK442 hb; have NB443_444 := bL BK443 hg; have NB444_443 := bR BK443 hg; replace BK443 := bB BK443 hb; clear hb hbox hg))
 replace BK442 := Aside0.mk (blk_drew BK442.out)
 replace BK443 := Aside0.mk (blk_drew BK443.out)
 replace BK444 := Aside0.mk (blk_drew BK444.out)
 replace HB := Aside0.mk (below_drew1 HB.out)
 refine start_ (n := 24) (S := fun w' => w'.cell? ⟨gb442, 0, none⟩ = some (.int .i64 a0_0) ∧ w'.cell? ⟨gb442, 1, none⟩ = some (.int .i64 a0_1) ∧ w'.cell? ⟨gb443, 0, none⟩ = some (.int .i64 a1_0) ∧ w'.cell? ⟨gb443, 1, none⟩ = some (.int .i64 a1_1)) (ds := []) #[false, false, false, false, false, false, false, false, false, false, false, false, false, false, false, false, false, false, false, false, false, false, false, false] (by kernel_rfl) rfl rfl ⟨bc BK442 0, bc BK442 1, bc BK443 0, bc BK443 1⟩ (fun hHeld => ?_); refine with_tabW spec_TwoMul.tab1 spec_TwoMul.bits1 (fun HT_ HW_ => ?_)
 generalize w11.drew = w12 at BK442 BK443 BK444 HB hHeld ⊢
 refine pure_ (i := 0) (N := some 5) (v := ?_) (a' := ?_) #[true, false, false, false, false, false, false, false, false, false, false, false, false, false, false, false, false, false, false, false, false, false, false, false] rfl rfl (any_of HT_.out (by kernel_rfl)) (fun _ _ _ h => h) (Or.inl ⟨by rfl, ?_⟩) ?_ ?_
 rotate_left
 ·intro w'
  go_simp
  with_reducible rfl
 rotate_left
 ·simp only [Act.put, List.setIfInBounds_toArray, List.set_cons_zero, List.set_cons_succ, i64_w, i32_w]
  rfl
 refine pure_ (i := 2) (N := some 7) (v := ?_) (a' := ?_) #[true, false, true, false, false, false, false, false, false, false, false, false, false, false, false, false, false, false, false, false, false, false, false, false] rfl rfl (any_of HT_.out (by kernel_rfl)) (fun _ _ _ h => h) (Or.inl ⟨by rfl, ?_⟩) ?_ ?_
 rotate_left
 ·intro w'
  go_simp
  with_reducible rfl
 rotate_left
 ·simp only [Act.put, List.setIfInBounds_toArray, List.set_cons_zero, List.set_cons_succ, i64_w, i32_w]
  rfl
 refine pure_ (i := 5) (N := some 10) (v := ?_) (a' := ?_) #[true, false, true, false, false, true, false, false, false, false, false, false, false, false, false, false, false, false, false, false, false, false, false, false] rfl rfl (any_of HT_.out (by kernel_rfl)) (fun _ _ _ h => h) (Or.inl ⟨by rfl, ?_⟩) ?_ ?_
 rotate_left
 ·intro w'
  go_simp
  with_reducible rfl
 rotate_left
 ·simp only [Act.put, List.setIfInBounds_toArray, List.set_cons_zero, List.set_cons_succ, i64_w, i32_w]
  rfl
 refine pure_ (i := 7) (N := some 12) (v := ?_) (a' := ?_) #[true, false, true, false, false, true, false, true, false, false, false, false, false, false, false, false, false, false, false, false, false, false, false, false] rfl rfl (any_of HT_.out (by kernel_rfl)) (fun _ _ _ h => h) (Or.inl ⟨by rfl, ?_⟩) ?_ ?_
 rotate_left
 ·intro w'
  go_simp
  with_reducible rfl
 rotate_left
 ·simp only [Act.put, List.setIfInBounds_toArray, List.set_cons_zero, List.set_cons_succ, i64_w, i32_w]
  rfl
 refine pure_ (i := 11) (N := some 16) (v := ?_) (a' := ?_) #[true, false, true, false, false, true, false, true, false, false, false, true, false, false, false, false, false, false, false, false, false, false, false, false] rfl rfl (any_of HT_.out (by kernel_rfl)) (fun _ _ _ h => h) (Or.inl ⟨by rfl, ?_⟩) ?_ ?_
 rotate_left
 ·intro w'
  go_simp
  with_reducible rfl
 rotate_left
 ·simp only [Act.put, List.setIfInBounds_toArray, List.set_cons_zero, List.set_cons_succ, i64_w, i32_w]
  rfl
 refine pure_ (i := 13) (N := some 18) (v := ?_) (a' := ?_) #[true, false, true, false, false, true, false, true, false, false, false, true, false, true, false, false, false, false, false, false, false, false, false, false] rfl rfl (any_of HT_.out (by kernel_rfl)) (fun _ _ _ h => h) (Or.inl ⟨by rfl, ?_⟩) ?_ ?_
 rotate_left
 ·intro w'
  go_simp
  with_reducible rfl
 rotate_left
 ·simp only [Act.put, List.setIfInBounds_toArray, List.set_cons_zero, List.set_cons_succ, i64_w, i32_w]
  rfl
 refine pure_ (i := 16) (N := some 21) (v := ?_) (a' := ?_) #[true, false, true, false, false, true, false, true, false, false, false, true, false, true, false, false, true, false, false, false, false, false, false, false] rfl rfl (any_of HT_.out (by kernel_rfl)) (fun _ _ _ h => h) (Or.inl ⟨by rfl, ?_⟩) ?_ ?_
 rotate_left
 ·intro w'
  go_simp
  with_reducible rfl
 rotate_left
 ·simp only [Act.put, List.setIfInBounds_toArray, List.set_cons_zero, List.set_cons_succ, i64_w, i32_w]
  rfl
 refine pure_ (i := 18) (N := some 23) (v := ?_) (a' := ?_) #[true, false, true, false, false, true, false, true, false, false, false, true, false, true, false, false, true, false, true, false, false, false, false, false] rfl rfl (any_of HT_.out (by kernel_rfl)) (fun _ _ _ h => h) (Or.inl ⟨by rfl, ?_⟩) ?_ ?_
 rotate_left
 ·intro w'
  go_simp
  with_reducible rfl
 rotate_left
 ·simp only [Act.put, List.setIfInBounds_toArray, List.set_cons_zero, List.set_cons_succ, i64_w, i32_w]
  rfl
 refine take_ (i := 1) (N := some 6) (v := ?_) (a' := ?_) #[true, true, true, false, false, true, false, true, false, false, false, true, false, true, false, false, true, false, true, false, false, false, false, false] rfl rfl (take_ofW HT_.out HW_.out (by kernel_rfl)) (fun _ _ _ h => h) (Or.inl ⟨by rfl, ?_⟩) hHeld ?_ ?_
 rotate_left
 ·rintro w' ⟨s0, s1, s2, s3⟩
  go_simp
  with_reducible rfl
 rotate_left
 ·simp only [Act.put, List.setIfInBounds_toArray, List.set_cons_zero, List.set_cons_succ, i64_w, i32_w]
  rfl
 refine take_ (i := 3) (N := some 8) (v := ?_) (a' := ?_) #[true, true, true, true, false, true, false, true, false, false, false, true, false, true, false, false, true, false, true, false, false, false, false, false] rfl rfl (take_ofW HT_.out HW_.out (by kernel_rfl)) (fun _ _ _ h => h) (Or.inl ⟨by rfl, ?_⟩) hHeld ?_ ?_
 rotate_left
 ·rintro w' ⟨s0, s1, s2, s3⟩
  go_simp
  with_reducible rfl
 rotate_left
 ·simp only [Act.put, List.setIfInBounds_toArray, List.set_cons_zero, List.set_cons_succ, i64_w, i32_w]
  rfl
 refine take_ (i := 6) (N := some 11) (v := ?_) (a' := ?_) #[true, true, true, true, false, true, true, true, false, false, false, true, false, true, false, false, true, false, true, false, false, false, false, false] rfl rfl (take_ofW HT_.out HW_.out (by kernel_rfl)) (fun _ _ _ h => h) (Or.inl ⟨by rfl, ?_⟩) hHeld ?_ ?_
 rotate_left
 ·rintro w' ⟨s0, s1, s2, s3⟩
  go_simp
  with_reducible rfl
 rotate_left
 ·simp only [Act.put, List.setIfInBounds_toArray, List.set_cons_zero, List.set_cons_succ, i64_w, i32_w]
  rfl
 refine take_ (i := 8) (N := some 13) (v := ?_) (a' := ?_) #[true, true, true, true, false, true, true, true, true, false, false, true, false, true, false, false, true, false, true, false, false, false, false, false] rfl rfl (take_ofW HT_.out HW_.out (by kernel_rfl)) (fun _ _ _ h => h) (Or.inl ⟨by rfl, ?_⟩) hHeld ?_ ?_
 rotate_left
 ·rintro w' ⟨s0, s1, s2, s3⟩
  go_simp
  with_reducible rfl
 rotate_left
 ·simp only [Act.put, List.setIfInBounds_toArray, List.set_cons_zero, List.set_cons_succ, i64_w, i32_w]
  rfl
 refine take_ (i := 12) (N := some 17) (v := ?_) (a' := ?_) #[true, true, true, true, false, true, true, true, true, false, false, true, true, true, false, false, true, false, true, false, false, false, false, false] rfl rfl (take_ofW HT_.out HW_.out (by kernel_rfl)) (fun _ _ _ h => h) (Or.inl ⟨by rfl, ?_⟩) hHeld ?_ ?_
 rotate_left
 ·rintro w' ⟨s0, s1, s2, s3⟩
  go_simp
  with_reducible rfl
 rotate_left
 ·simp only [Act.put, List.setIfInBounds_toArray, List.set_cons_zero, List.set_cons_succ, i64_w, i32_w]
  rfl
 refine take_ (i := 14) (N := some 19) (v := ?_) (a' := ?_) #[true, true, true, true, false, true, true, true, true, false, false, true, true, true, true, false, true, false, true, false, false, false, false, false] rfl rfl (take_ofW HT_.out HW_.out (by kernel_rfl)) (fun _ _ _ h => h) (Or.inl ⟨by rfl, ?_⟩) hHeld ?_ ?_
 rotate_left
 ·rintro w' ⟨s0, s1, s2, s3⟩
  go_simp
  with_reducible rfl
 rotate_left
 ·simp only [Act.put, List.setIfInBounds_toArray, List.set_cons_zero, List.set_cons_succ, i64_w, i32_w]
  rfl
 refine take_ (i := 17) (N := some 22) (v := ?_) (a' := ?_) #[true, true, true, true, false, true, true, true, true, false, false, true, true, true, true, false, true, true, true, false, false, false, false, false] rfl rfl (take_ofW HT_.out HW_.out (by kernel_rfl)) (fun _ _ _ h => h) (Or.inl ⟨by rfl, ?_⟩) hHeld ?_ ?_
 rotate_left
 ·rintro w' ⟨s0, s1, s2, s3⟩
  go_simp
  with_reducible rfl
 rotate_left
 ·simp only [Act.put, List.setIfInBounds_toArray, List.set_cons_zero, List.set_cons_succ, i64_w, i32_w]
  rfl
 refine take_ (i := 19) (N := some 24) (v := ?_) (a' := ?_) #[true, true, true, true, false, true, true, true, true, false, false, true, true, true, true, false, true, true, true, true, false, false, false, false] rfl rfl (take_ofW HT_.out HW_.out (by kernel_rfl)) (fun _ _ _ h => h) (Or.inl ⟨by rfl, ?_⟩) hHeld ?_ ?_
 rotate_left
 ·rintro w' ⟨s0, s1, s2, s3⟩
  go_simp
  with_reducible rfl
 rotate_left
 ·simp only [Act.put, List.setIfInBounds_toArray, List.set_cons_zero, List.set_cons_succ, i64_w, i32_w]
  rfl
 refine one_ (i := 4) (N := some 9) #[true, true, true, true, true, true, true, true, true, false, false, true, true, true, true, false, true, true, true, true, false, false, false, false] rfl rfl (one_of HT_.out (by kernel_rfl)) (by decide) (fun K hK => ?_)
 refine goes_ Try.func76 (by kernel_rfl) rfl #[.int .i64 a0_0, .int .i64 a1_0] (by rfl) rfl rfl (by (try simp only [List.map_toArray, List.map_cons, List.map_nil]); first | done | rfl | (simp only [List.length_drop, List.length_take]; rfl)) ?_
 with_reducible refine (spec_FpMul.calls a0_0 a1_0 t445 _ A3.out).mono ?_
 rintro e w' ⟨rfl, ⟨nd, rfl⟩⟩
 refine ⟨_, rfl, ?_⟩
 refine hK.out _ _ ⟨bc BK442 0, bc BK442 1, bc BK443 0, bc BK443 1⟩ (fun hHeld => ?_)
 clear hK K
 refine norm_ (a' := ?_) ?_ ?_
 rotate_left
 ·show Act.put _ (some 9) _ = _
  simp only [Act.put, List.setIfInBounds_toArray, List.set_cons_zero, List.set_cons_succ, i64_w, i32_w]
  rfl
 refine one_ (i := 9) (N := some 14) #[true, true, true, true, true, true, true, true, true, true, false, true, true, true, true, false, true, true, true, true, false, false, false, false] rfl rfl (one_of HT_.out (by kernel_rfl)) (by decide) (fun K hK => ?_)
 refine goes_ Try.func76 (by kernel_rfl) rfl #[.int .i64 a0_1, .int .i64 a1_1] (by rfl) rfl rfl (by (try simp only [List.map_toArray, List.map_cons, List.map_nil]); first | done | rfl | (simp only [List.length_drop, List.length_take]; rfl)) ?_
 with_reducible refine (spec_FpMul.calls a0_1 a1_1 t446 _ A4.out).mono ?_
 rintro e w' ⟨rfl, ⟨nd, rfl⟩⟩
 refine ⟨_, rfl, ?_⟩
 refine hK.out _ _ ⟨bc BK442 0, bc BK442 1, bc BK443 0, bc BK443 1⟩ (fun hHeld => ?_)
 clear hK K
 refine norm_ (a' := ?_) ?_ ?_
 rotate_left
 ·show Act.put _ (some 14) _ = _
  simp only [Act.put, List.setIfInBounds_toArray, List.set_cons_zero, List.set_cons_succ, i64_w, i32_w]
  rfl
 refine one_ (i := 10) (N := some 15) #[true, true, true, true, true, true, true, true, true, true, true, true, true, true, true, false, true, true, true, true, false, false, false, false] rfl rfl (one_of HT_.out (by kernel_rfl)) (by decide) (fun K hK => ?_)
 refine goes_ Try.func75 (by kernel_rfl) rfl #[.int .i64 t445, .int .i64 t446] (by rfl) rfl rfl (by (try simp only [List.map_toArray, List.map_cons, List.map_nil]); first | done | rfl | (simp only [List.length_drop, List.length_take]; rfl)) ?_
 with_reducible refine (spec_FpSub.calls t445 t446 t447 _ A5.out).mono ?_
 rintro e w' ⟨rfl, ⟨nd, rfl⟩⟩
 refine ⟨_, rfl, ?_⟩
 refine hK.out _ _ ⟨bc BK442 0, bc BK442 1, bc BK443 0, bc BK443 1⟩ (fun hHeld => ?_)
 clear hK K
 refine norm_ (a' := ?_) ?_ ?_
 rotate_left
 ·show Act.put _ (some 15) _ = _
  simp only [Act.put, List.setIfInBounds_toArray, List.set_cons_zero, List.set_cons_succ, i64_w, i32_w]
  rfl
 refine one_ (i := 15) (N := some 20) #[true, true, true, true, true, true, true, true, true, true, true, true, true, true, true, true, true, true, true, true, false, false, false, false] rfl rfl (one_of HT_.out (by kernel_rfl)) (by decide) (fun K hK => ?_)
 refine goes_ Try.func76 (by kernel_rfl) rfl #[.int .i64 a0_0, .int .i64 a1_1] (by rfl) rfl rfl (by (try simp only [List.map_toArray, List.map_cons, List.map_nil]); first | done | rfl | (simp only [List.length_drop, List.length_take]; rfl)) ?_
 with_reducible refine (spec_FpMul.calls a0_0 a1_1 t448 _ A6.out).mono ?_
 rintro e w' ⟨rfl, ⟨nd, rfl⟩⟩
 refine ⟨_, rfl, ?_⟩
 refine hK.out _ _ ⟨bc BK442 0, bc BK442 1, bc BK443 0, bc BK443 1⟩ (fun hHeld => ?_)
 clear hK K
 refine norm_ (a' := ?_) ?_ ?_
 rotate_left
 ·show Act.put _ (some 20) _ = _
  simp only [Act.put, List.setIfInBounds_toArray, List.set_cons_zero, List.set_cons_succ, i64_w, i32_w]
  rfl
 refine one_ (i := 20) (N := some 25) #[true, true, true, true, true, true, true, true, true, true, true, true, true, true, true, true, true, true, true, true, true, false, false, false] rfl rfl (one_of HT_.out (by kernel_rfl)) (by decide) (fun K hK => ?_)
 refine goes_ Try.func76 (by kernel_rfl) rfl #[.int .i64 a0_1, .int .i64 a1_0] (by rfl) rfl rfl (by (try simp only [List.map_toArray, List.map_cons, List.map_nil]); first | done | rfl | (simp only [List.length_drop, List.length_take]; rfl)) ?_
 with_reducible refine (spec_FpMul.calls a0_1 a1_0 t449 _ A7.out).mono ?_
 rintro e w' ⟨rfl, ⟨nd, rfl⟩⟩
 refine ⟨_, rfl, ?_⟩
 refine hK.out _ _ ⟨bc BK442 0, bc BK442 1, bc BK443 0, bc BK443 1⟩ (fun hHeld => ?_)
 clear hK K
 refine norm_ (a' := ?_) ?_ ?_
 rotate_left
 ·show Act.put _ (some 25) _ = _
  simp only [Act.put, List.setIfInBounds_toArray, List.set_cons_zero, List.set_cons_succ, i64_w, i32_w]
  rfl
 refine one_ (i := 21) (N := some 26) #[true, true, true, true, true, true, true, true, true, true, true, true, true, true, true, true, true, true, true, true, true, true, false, false] rfl rfl (one_of HT_.out (by kernel_rfl)) (by decide) (fun K hK => ?_)
 refine goes_ Try.func103 (by kernel_rfl) rfl #[.int .i64 t448, .int .i64 t449] (by rfl) rfl rfl (by (try simp only [List.map_toArray, List.map_cons, List.map_nil]); first | done | rfl | (simp only [List.length_drop, List.length_take]; rfl)) ?_
 with_reducible refine (spec_FpAdd.calls t448 t449 t450 _ A8.out).mono ?_
 rintro e w' ⟨rfl, ⟨nd, rfl⟩⟩
 refine ⟨_, rfl, ?_⟩
 refine hK.out _ _ ⟨bc BK442 0, bc BK442 1, bc BK443 0, bc BK443 1⟩ (fun hHeld => ?_)
 clear hK K
 refine norm_ (a' := ?_) ?_ ?_
 rotate_left
 ·show Act.put _ (some 26) _ = _
  simp only [Act.put, List.setIfInBounds_toArray, List.set_cons_zero, List.set_cons_succ, i64_w, i32_w]
  rfl
 refine pure_ (i := 22) (N := some 27) (v := ?_) (a' := ?_) #[true, true, true, true, true, true, true, true, true, true, true, true, true, true, true, true, true, true, true, true, true, true, true, false] rfl rfl (any_of HT_.out (by kernel_rfl)) (fun _ _ _ h => h) (Or.inl ⟨by rfl, ?_⟩) ?_ ?_
 rotate_left
 ·intro w'
  go_simp
  with_reducible rfl
 rotate_left
 ·simp only [Act.put, List.setIfInBounds_toArray, List.set_cons_zero, List.set_cons_succ, i64_w, i32_w]
  rfl
 refine one_ (i := 23) (N := none) #[true, true, true, true, true, true, true, true, true, true, true, true, true, true, true, true, true, true, true, true, true, true, true, true] rfl rfl (one_of HT_.out (by kernel_rfl)) (by decide) (fun K hK => ?_)
 have hs13 : w12.cell? ⟨gb444, 0, none⟩ = some (.int .i64 0) := bc BK444 0
 have hfs13 := blk_frozen BK444.out 0
 have hns13_0 := NB442_444.out
 have hns13_1 := NB443_444.out
 have hms13_0 := NB444_442.out
 have hms13_1 := NB444_443.out
 have hs14 : w12.cell? ⟨gb444, 1, none⟩ = some (.int .i64 0) := bc BK444 1
 have hfs14 := blk_frozen BK444.out 1
 have hns14_0 := NB442_444.out
 have hns14_1 := NB443_444.out
 have hms14_0 := NB444_442.out
 have hms14_1 := NB444_443.out
 refine skip_ (w1 := ?_) (by rfl) rfl ?_ ?_
 rotate_left
 ·go_simp
  rfl
 refine hK.out _ _ ⟨((cell_far (p := ⟨gb444, _, none⟩) NB442_444.out _).trans (((cell_far (p := ⟨gb444, _, none⟩) NB442_444.out _).trans (hHeld.1)))), ((cell_far (p := ⟨gb444, _, none⟩) NB442_444.out _).trans (((cell_far (p := ⟨gb444, _, none⟩) NB442_444.out _).trans (hHeld.2.1)))), ((cell_far (p := ⟨gb444, _, none⟩) NB443_444.out _).trans (((cell_far (p := ⟨gb444, _, none⟩) NB443_444.out _).trans (hHeld.2.2.1)))), ((cell_far (p := ⟨gb444, _, none⟩) NB443_444.out _).trans (((cell_far (p := ⟨gb444, _, none⟩) NB443_444.out _).trans (hHeld.2.2.2))))⟩ (fun hHeld => ?_)
 clear hK K
 refine done_ (done_of HT_.out (by kernel_rfl)) ?_
 try go_wp2
 refine bodyPost_ret (results_cell_row rfl _ _ gb444 31 #[.int .i64 t447, .int .i64 t450] (0, 0) _ rfl (by (with_reducible repeat (first | refine blk_drewN ?_ _ | refine blk_drew ?_ | refine blk_alloc ?_ _)); refine blk_put (cs := #[.int .i64 t447, .int .i64 0]) ?_ 1 _ rfl; (with_reducible repeat (first | refine blk_drewN ?_ _ | refine blk_drew ?_ | refine blk_alloc ?_ _)); refine blk_put (cs := #[.int .i64 0, .int .i64 0]) ?_ 0 _ rfl; (with_reducible repeat (first | refine blk_drewN ?_ _ | refine blk_drew ?_ | refine blk_alloc ?_ _)); exact BK444.out) Try.underlying31 rfl (by kernel_rfl)) rfl ?_
 exact ⟨by first | rfl | (simp [errW_none, errW_some] <;> rfl) | (simp [*, errW_none, errW_some] <;> rfl), bZ HB⟩
/-! ### spec_l01In: function 109 -/
def spec_l01In.f (a0 : Int) (a1 : Int) (a2 : Int) : Option (Bool) := if a0 ≥ a1 then (some (decide (a0 ≤ a2))) else (some false)
set_option maxHeartbeats 8000000 in
set_option maxRecDepth 100000 in
theorem spec_l01In.calls (a0 : Int) (a1 : Int) (a2 : Int) (r : Bool) (w : World) (h : spec_l01In.f a0 a1 a2 = some r) :
  Calls Try.prog 109 #[.int .i64 a0, .int .i64 a1, .int .i64 a2] w fun e w' => e = .returned (.bool r) ∧ Drawn0 w w' := by
 have H : (if a0 ≥ a1 then (some (decide (a0 ≤ a2))) else (some false)) = some r := h
 clear h
 by_cases c4 : a0 ≥ a1
 ·rw [if_pos c4] at H
  have c4b0 : decide (a1 ≤ a0) = true := decide_eq_true c4
  clear c4
  obtain rfl := Option.some.inj H
  go_enter Try.func109, Try.ntmps109
  go_wp2
  go_ret
  exact ⟨by first | rfl | (simp; done) | (simp [*]; done), by repeat (first | exact Drawn0.refl _ | apply Drawn0.step)⟩
 ·rw [if_neg c4] at H
  have c4b0 : decide (a1 ≤ a0) = false := decide_eq_false c4
  clear c4
  obtain rfl := Option.some.inj H
  go_enter Try.func109, Try.ntmps109
  go_wp2
  go_ret
  exact ⟨by first | rfl | (simp; done) | (simp [*]; done), by repeat (first | exact Drawn0.refl _ | apply Drawn0.step)⟩
/-! ### spec_FpOk: function 93 -/
def spec_FpOk.f (a0 : Int) : Option (Bool) := (spec_l01In.f a0 0 12106).bind fun t107 => (some t107)
set_option maxHeartbeats 8000000 in
set_option maxRecDepth 100000 in
theorem spec_FpOk.calls (a0 : Int) (r : Bool) (w : World) (h : spec_FpOk.f a0 = some r) :
  Calls Try.prog 93 #[.int .i64 a0] w fun e w' => e = .returned (.bool r) ∧ Drawn0 w w' := by
 have H : ((spec_l01In.f a0 0 12106).bind fun t107 => (some t107)) = some r := h
 clear h
 replace H := Option.bind_eq_some_iff.mp H
 obtain ⟨t107, A20, H⟩ := H
 replace H : (some t107) = some r := H
 have A2 := Aside0.mk A20
 clear A20
 obtain rfl := Option.some.inj H
 go_enter Try.func93, Try.ntmps93
 go_wp2_with (first | ((with_reducible refine gate_callee (f := 109) rfl ?_); refine goesL_ (some 4) rfl rfl Try.func109 (by kernel_rfl) rfl #[.int .i64 a0, .int .i64 0, .int .i64 12106] rfl (by (try simp only [List.map_toArray, List.map_cons, List.map_nil]); first | done | rfl | (simp only [List.length_drop, List.length_take]; rfl)) ?_; (with_reducible refine (spec_l01In.calls a0 0 12106 t107 _ A2.out).mono ?_); rintro e w' ⟨rfl, ⟨nd, rfl⟩⟩; refine ⟨_, rfl, ?_⟩))
 go_ret
 exact ⟨by first | rfl | (simp; done) | (simp [*]; done), by repeat (first | exact Drawn0.refl _ | apply Drawn0.step)⟩
/-! ### spec_l07Right: function 95 -/
def spec_l07Right.f (a0 : Int) : Option (Int) := (spec_FpMul.f a0 a0).bind fun t111 => ((spec_FpMul.f t111 a0).bind fun t112 => ((spec_FpAdd.f t112 a0).bind fun t113 => (some t113)))
set_option maxHeartbeats 8000000 in
set_option maxRecDepth 100000 in
theorem spec_l07Right.calls (a0 : Int) (r : Int) (w : World) (h : spec_l07Right.f a0 = some r) :
  Calls Try.prog 95 #[.int .i64 a0] w fun e w' => e = .returned (.int .i64 r) ∧ Drawn0 w w' := by
 have H : ((spec_FpMul.f a0 a0).bind fun t111 => ((spec_FpMul.f t111 a0).bind fun t112 => ((spec_FpAdd.f t112 a0).bind fun t113 => (some t113)))) = some r := h
 clear h
 replace H := Option.bind_eq_some_iff.mp H
 obtain ⟨t111, A20, H⟩ := H
 replace H : ((spec_FpMul.f t111 a0).bind fun t112 => ((spec_FpAdd.f t112 a0).bind fun t113 => (some t113))) = some r := H
 have A2 := Aside0.mk A20
 clear A20
 replace H := Option.bind_eq_some_iff.mp H
 obtain ⟨t112, A30, H⟩ := H
 replace H : ((spec_FpAdd.f t112 a0).bind fun t113 => (some t113)) = some r := H
 have A3 := Aside0.mk A30
 clear A30
 replace H := Option.bind_eq_some_iff.mp H
 obtain ⟨t113, A40, H⟩ := H
 replace H : (some t113) = some r := H
 have A4 := Aside0.mk A40
 clear A40
 obtain rfl := Option.some.inj H
 go_enter Try.func95, Try.ntmps95
 go_wp2_with (first | ((with_reducible refine gate_callee (f := 76) rfl ?_); refine goesL_ (some 5) rfl rfl Try.func76 (by kernel_rfl) rfl #[.int .i64 a0, .int .i64 a0] rfl (by (try simp only [List.map_toArray, List.map_cons, List.map_nil]); first | done | rfl | (simp only [List.length_drop, List.length_take]; rfl)) ?_; (with_reducible refine (spec_FpMul.calls a0 a0 t111 _ A2.out).mono ?_); rintro e w' ⟨rfl, ⟨nd, rfl⟩⟩; refine ⟨_, rfl, ?_⟩) | ((with_reducible refine gate_callee (f := 76) rfl ?_); refine goesL_ (some 7) rfl rfl Try.func76 (by kernel_rfl) rfl #[.int .i64 t111, .int .i64 a0] rfl (by (try simp only [List.map_toArray, List.map_cons, List.map_nil]); first | done | rfl | (simp only [List.length_drop, List.length_take]; rfl)) ?_; (with_reducible refine (spec_FpMul.calls t111 a0 t112 _ A3.out).mono ?_); rintro e w' ⟨rfl, ⟨nd, rfl⟩⟩; refine ⟨_, rfl, ?_⟩) | ((with_reducible refine gate_callee (f := 103) rfl ?_); refine goesL_ (some 9) rfl rfl Try.func103 (by kernel_rfl) rfl #[.int .i64 t112, .int .i64 a0] rfl (by (try simp only [List.map_toArray, List.map_cons, List.map_nil]); first | done | rfl | (simp only [List.length_drop, List.length_take]; rfl)) ?_; (with_reducible refine (spec_FpAdd.calls t112 a0 t113 _ A4.out).mono ?_); rintro e w' ⟨rfl, ⟨nd, rfl⟩⟩; refine ⟨_, rfl, ?_⟩))
 go_ret
 exact ⟨by first | rfl | (simp; done) | (simp [*]; done), by repeat (first | exact Drawn0.refl _ | apply Drawn0.step)⟩
/-! ### spec_PointOk: function 55 -/
def spec_PointOk.f (a0_0 : Int) (a0_1 : Int) (a0_2 : Bool) : Option (Bool) := if a0_2 = true then (if a0_0 = 0 then (some (a0_1 == 0)) else (some false)) else ((spec_FpOk.f a0_0).bind fun t115 => (if t115 = true then ((spec_FpOk.f a0_1).bind fun t116 => (if t116 = true then ((spec_FpMul.f a0_1 a0_1).bind fun t117 => ((spec_l07Right.f a0_0).bind fun t118 => (some (t117 == t118)))) else (some false))) else (some false)))
set_option maxHeartbeats 8000000 in
set_option maxRecDepth 100000 in
theorem spec_PointOk.calls (a0_0 : Int) (a0_1 : Int) (a0_2 : Bool) (r : Bool) (w : World) (h : spec_PointOk.f a0_0 a0_1 a0_2 = some r) :
  Calls Try.prog 55 #[.agg #[.int .i64 a0_0, .int .i64 a0_1, .bool a0_2]] w fun e w' => e = .returned (.bool r) ∧ Below w.heap.size w w' := by
 have hu25 := Try.underlying25
 have HB := Aside0.mk (Below.refl w.heap.size w)
 have H : (if a0_2 = true then (if a0_0 = 0 then (some (a0_1 == 0)) else (some false)) else ((spec_FpOk.f a0_0).bind fun t115 => (if t115 = true then ((spec_FpOk.f a0_1).bind fun t116 => (if t116 = true then ((spec_FpMul.f a0_1 a0_1).bind fun t117 => ((spec_l07Right.f a0_0).bind fun t118 => (some (t117 == t118)))) else (some false))) else (some false)))) = some r := h
 clear h
 by_cases c2 : a0_2 = true
 ·subst c2
  have H1 : (if a0_0 = 0 then (some (a0_1 == 0)) else (some false)) = some r := by rw [if_pos rfl] at H; exact H
  clear H
  have H := H1
  clear H1
  by_cases c3 : a0_0 = 0
  ·rw [if_pos c3] at H
   have c3b0 : (a0_0 == 0) = true := beq_iff_eq.mpr c3
   have c3b1 : (a0_0 != 0) = false := bne_eq_false_iff_eq.mpr c3
   clear c3
   obtain rfl := Option.some.inj H
   go_enter Try.func55, Try.ntmps55
   go_wp2_with (first | ((with_reducible refine gate_dst (N := 1) rfl ?_); refine box_event ?hg (N := 1) ?hd (cs := #[.int .i64 a0_0, .int .i64 a0_1, .bool true]) (t := 25) ?hr ?_; (case hd => rfl); (case hg => rfl); (case hr => first | (go_simp; done) | (go_simp; rfl)); intro gb114 hg w4 hbox hb; have BK114 := Aside0.mk (hbox); have GW114 := bG HB hg; have GE114 := bG HB hg; replace HB := bS HB hb; clear hb hbox hg; have hcz5_0 : w4.cell? ⟨gb114, 0, none⟩ = some (.int .i64 a0_0) := bc BK114 0; have hcz5_1 : w4.cell? ⟨gb114, 1, none⟩ = some (.int .i64 a0_1) := bc BK114 1; have hcz5_2 : w4.cell? ⟨gb114, 2, none⟩ = some (.bool true) := bc BK114 2; have hfz5_0 := blk_frozen BK114.out 0; have hfz5_1 := blk_frozen BK114.out 1; have hfz5_2 := blk_frozen BK114.out 2))
   repeat (go_quiet (first | ((with_reducible refine gate_dst (N := 1) rfl ?_); refine box_event ?hg (N := 1) ?hd (cs := #[.int .i64 a0_0, .int .i64 a0_1, .bool true]) (t := 25) ?hr ?_; (case hd => rfl); (case hg => rfl); (case hr => first | (go_simp; done) | (go_simp; rfl)); intro gb114 hg w4 hbox hb; have BK114 := Aside0.mk (hbox); have GW114 := bG HB hg; have GE114 := bG HB hg; replace HB := bS HB hb; clear hb hbox hg; have hcz5_0 : w4.cell? ⟨gb114, 0, none⟩ = some (.int .i64 a0_0) := bc BK114 0; have hcz5_1 : w4.cell? ⟨gb114, 1, none⟩ = some (.int .i64 a0_1) := bc BK114 1; have hcz5_2 : w4.cell? ⟨gb114, 2, none⟩ = some (.bool true) := bc BK114 2; have hfz5_0 := blk_frozen BK114.out 0; have hfz5_1 := blk_frozen BK114.out 1; have hfz5_2 := blk_frozen BK114.out 2)); try go_wp2_with (first | ((with_reducible refine gate_dst (N := 1) rfl ?_); refine box_event ?hg (N := 1) ?hd (cs := #[.int .i64 a0_0, .int .i64 a0_1, .bool true]) (t := 25) ?hr ?_; (case hd => rfl); (case hg => rfl); (case hr => first | (go_simp; done) | (go_simp; rfl)); intro gb114 hg w4 hbox hb; have BK114 := Aside0.mk (hbox); have GW114 := bG HB hg; have GE114 := bG HB hg; replace HB := bS HB hb; clear hb hbox hg; have hcz5_0 : w4.cell? ⟨gb114, 0, none⟩ = some (.int .i64 a0_0) := bc BK114 0; have hcz5_1 : w4.cell? ⟨gb114, 1, none⟩ = some (.int .i64 a0_1) := bc BK114 1; have hcz5_2 : w4.cell? ⟨gb114, 2, none⟩ = some (.bool true) := bc BK114 2; have hfz5_0 := blk_frozen BK114.out 0; have hfz5_1 := blk_frozen BK114.out 1; have hfz5_2 := blk_frozen BK114.out 2)))
   go_ret
   exact ⟨by first | rfl | (simp [errW_none, errW_some] <;> rfl) | (simp [*, errW_none, errW_some] <;> rfl), bZ HB⟩
  ·rw [if_neg c3] at H
   have c3b0 : (a0_0 == 0) = false := beq_eq_false_iff_ne.mpr c3
   have c3b1 : (a0_0 != 0) = true := bne_iff_ne.mpr c3
   obtain rfl := Option.some.inj H
   go_enter Try.func55, Try.ntmps55
   go_wp2_with (first | ((with_reducible refine gate_dst (N := 1) rfl ?_); refine box_event ?hg (N := 1) ?hd (cs := #[.int .i64 a0_0, .int .i64 a0_1, .bool true]) (t := 25) ?hr ?_; (case hd => rfl); (case hg => rfl); (case hr => first | (go_simp; done) | (go_simp; rfl)); intro gb114 hg w6 hbox hb; have BK114 := Aside0.mk (hbox); have GW114 := bG HB hg; have GE114 := bG HB hg; replace HB := bS HB hb; clear hb hbox hg; have hcz7_0 : w6.cell? ⟨gb114, 0, none⟩ = some (.int .i64 a0_0) := bc BK114 0; have hcz7_1 : w6.cell? ⟨gb114, 1, none⟩ = some (.int .i64 a0_1) := bc BK114 1; have hcz7_2 : w6.cell? ⟨gb114, 2, none⟩ = some (.bool true) := bc BK114 2; have hfz7_0 := blk_frozen BK114.out 0; have hfz7_1 := blk_frozen BK114.out 1; have hfz7_2 := blk_frozen BK114.out 2))
   repeat (go_quiet (first | ((with_reducible refine gate_dst (N := 1) rfl ?_); refine box_event ?hg (N := 1) ?hd (cs := #[.int .i64 a0_0, .int .i64 a0_1, .bool true]) (t := 25) ?hr ?_; (case hd => rfl); (case hg => rfl); (case hr => first | (go_simp; done) | (go_simp; rfl)); intro gb114 hg w6 hbox hb; have BK114 := Aside0.mk (hbox); have GW114 := bG HB hg; have GE114 := bG HB hg; replace HB := bS HB hb; clear hb hbox hg; have hcz7_0 : w6.cell? ⟨gb114, 0, none⟩ = some (.int .i64 a0_0) := bc BK114 0; have hcz7_1 : w6.cell? ⟨gb114, 1, none⟩ = some (.int .i64 a0_1) := bc BK114 1; have hcz7_2 : w6.cell? ⟨gb114, 2, none⟩ = some (.bool true) := bc BK114 2; have hfz7_0 := blk_frozen BK114.out 0; have hfz7_1 := blk_frozen BK114.out 1; have hfz7_2 := blk_frozen BK114.out 2)); try go_wp2_with (first | ((with_reducible refine gate_dst (N := 1) rfl ?_); refine box_event ?hg (N := 1) ?hd (cs := #[.int .i64 a0_0, .int .i64 a0_1, .bool true]) (t := 25) ?hr ?_; (case hd => rfl); (case hg => rfl); (case hr => first | (go_simp; done) | (go_simp; rfl)); intro gb114 hg w6 hbox hb; have BK114 := Aside0.mk (hbox); have GW114 := bG HB hg; have GE114 := bG HB hg; replace HB := bS HB hb; clear hb hbox hg; have hcz7_0 : w6.cell? ⟨gb114, 0, none⟩ = some (.int .i64 a0_0) := bc BK114 0; have hcz7_1 : w6.cell? ⟨gb114, 1, none⟩ = some (.int .i64 a0_1) := bc BK114 1; have hcz7_2 : w6.cell? ⟨gb114, 2, none⟩ = some (.bool true) := bc BK114 2; have hfz7_0 := blk_frozen BK114.out 0; have hfz7_1 := blk_frozen BK114.out 1; have hfz7_2 := blk_frozen BK114.out 2)))
   go_ret
   exact ⟨by first | rfl | (simp [errW_none, errW_some] <;> rfl) | (simp [*, errW_none, errW_some] <;> rfl), bZ HB⟩
 ·replace c2 := Bool.eq_false_iff.mpr c2
  subst c2
  have H1 : ((spec_FpOk.f a0_0).bind fun t115 => (if t115 = true then ((spec_FpOk.f a0_1).bind fun t116 => (if t116 = true then ((spec_FpMul.f a0_1 a0_1).bind fun t117 => ((spec_l07Right.f a0_0).bind fun t118 => (some (t117 == t118)))) else (some false))) else (some false))) = some r := by rw [if_neg (show ¬ (false = true) by decide)] at H; exact H
  clear H
  have H := H1
  clear H1
  replace H := Option.bind_eq_some_iff.mp H
  obtain ⟨t115, A80, H⟩ := H
  replace H : (if t115 = true then ((spec_FpOk.f a0_1).bind fun t116 => (if t116 = true then ((spec_FpMul.f a0_1 a0_1).bind fun t117 => ((spec_l07Right.f a0_0).bind fun t118 => (some (t117 == t118)))) else (some false))) else (some false)) = some r := H
  have A8 := Aside0.mk A80
  clear A80
  by_cases c9 : t115 = true
  ·subst c9
   have H1 : ((spec_FpOk.f a0_1).bind fun t116 => (if t116 = true then ((spec_FpMul.f a0_1 a0_1).bind fun t117 => ((spec_l07Right.f a0_0).bind fun t118 => (some (t117 == t118)))) else (some false))) = some r := by rw [if_pos rfl] at H; exact H
   clear H
   have H := H1
   clear H1
   replace H := Option.bind_eq_some_iff.mp H
   obtain ⟨t116, A100, H⟩ := H
   replace H : (if t116 = true then ((spec_FpMul.f a0_1 a0_1).bind fun t117 => ((spec_l07Right.f a0_0).bind fun t118 => (some (t117 == t118)))) else (some false)) = some r := H
   have A10 := Aside0.mk A100
   clear A100
   by_cases c11 : t116 = true
   ·subst c11
    have H1 : ((spec_FpMul.f a0_1 a0_1).bind fun t117 => ((spec_l07Right.f a0_0).bind fun t118 => (some (t117 == t118)))) = some r := by rw [if_pos rfl] at H; exact H
    clear H
    have H := H1
    clear H1
    replace H := Option.bind_eq_some_iff.mp H
    obtain ⟨t117, A120, H⟩ := H
    replace H : ((spec_l07Right.f a0_0).bind fun t118 => (some (t117 == t118))) = some r := H
    have A12 := Aside0.mk A120
    clear A120
    replace H := Option.bind_eq_some_iff.mp H
    obtain ⟨t118, A130, H⟩ := H
    replace H : (some (t117 == t118)) = some r := H
    have A13 := Aside0.mk A130
    clear A130
    obtain rfl := Option.some.inj H
    go_enter Try.func55, Try.ntmps55
    go_wp2_with (first | ((with_reducible refine gate_dst (N := 1) rfl ?_); refine box_event ?hg (N := 1) ?hd (cs := #[.int .i64 a0_0, .int .i64 a0_1, .bool false]) (t := 25) ?hr ?_; (case hd => rfl); (case hg => rfl); (case hr => first | (go_simp; done) | (go_simp; rfl)); intro gb114 hg w14 hbox hb; have BK114 := Aside0.mk (hbox); have GW114 := bG HB hg; have GE114 := bG HB hg; replace HB := bS HB hb; clear hb hbox hg; have hcz15_0 : w14.cell? ⟨gb114, 0, none⟩ = some (.int .i64 a0_0) := bc BK114 0; have hcz15_1 : w14.cell? ⟨gb114, 1, none⟩ = some (.int .i64 a0_1) := bc BK114 1; have hcz15_2 : w14.cell? ⟨gb114, 2, none⟩ = some (.bool false) := bc BK114 2; have hfz15_0 := blk_frozen BK114.out 0; have hfz15_1 := blk_frozen BK114.out 1; have hfz15_2 := blk_frozen BK114.out 2) | (go_at_call 93; (with_reducible refine (spec_FpOk.calls a0_0 true _ A8.out).mono ?_); rintro e w' ⟨rfl, ⟨nd, rfl⟩⟩; (try first | exact ⟨rfl, _, World.drewN_drewN _ _ _⟩ | exact ⟨rfl, _, Eq.trans (World.drewN_drewN _ _ _) (congrArg (World.drewN _) (Nat.add_assoc _ _ _))⟩)) | (go_at_call 93; (with_reducible refine (spec_FpOk.calls a0_1 true _ A10.out).mono ?_); rintro e w' ⟨rfl, ⟨nd, rfl⟩⟩; (try first | exact ⟨rfl, _, World.drewN_drewN _ _ _⟩ | exact ⟨rfl, _, Eq.trans (World.drewN_drewN _ _ _) (congrArg (World.drewN _) (Nat.add_assoc _ _ _))⟩)) | (go_at_call 76; (with_reducible refine (spec_FpMul.calls a0_1 a0_1 t117 _ A12.out).mono ?_); rintro e w' ⟨rfl, ⟨nd, rfl⟩⟩; (try first | exact ⟨rfl, _, World.drewN_drewN _ _ _⟩ | exact ⟨rfl, _, Eq.trans (World.drewN_drewN _ _ _) (congrArg (World.drewN _) (Nat.add_assoc _ _ _))⟩)) | (go_at_call 95; (with_reducible refine (spec_l07Right.calls a0_0 t118 _ A13.out).mono ?_); rintro e w' ⟨rfl, ⟨nd, rfl⟩⟩; (try first | exact ⟨rfl, _, World.drewN_drewN _ _ _⟩ | exact ⟨rfl, _, Eq.trans (World.drewN_drewN _ _ _) (congrArg (World.drewN _) (Nat.add_assoc _ _ _))⟩)))
    repeat (go_quiet (first | ((with_reducible refine gate_dst (N := 1) rfl ?_); refine box_event ?hg (N := 1) ?hd (cs := #[.int .i64 a0_0, .int .i64 a0_1, .bool false]) (t := 25) ?hr ?_; (case hd => rfl); (case hg => rfl); (case hr => first | (go_simp; done) | (go_simp; rfl)); intro gb114 hg w14 hbox hb; have BK114 := Aside0.mk (hbox); have GW114 := bG HB hg; have GE114 := bG HB hg; replace HB := bS HB hb; clear hb hbox hg; have hcz15_0 : w14.cell? ⟨gb114, 0, none⟩ = some (.int .i64 a0_0) := bc BK114 0; have hcz15_1 : w14.cell? ⟨gb114, 1, none⟩ = some (.int .i64 a0_1) := bc BK114 1; have hcz15_2 : w14.cell? ⟨gb114, 2, none⟩ = some (.bool false) := bc BK114 2; have hfz15_0 := blk_frozen BK114.out 0; have hfz15_1 := blk_frozen BK114.out 1; have hfz15_2 := blk_frozen BK114.out 2) | (go_at_call 93; (with_reducible refine (spec_FpOk.calls a0_0 true _ A8.out).mono ?_); rintro e w' ⟨rfl, ⟨nd, rfl⟩⟩; (try first | exact ⟨rfl, _, World.drewN_drewN _ _ _⟩ | exact ⟨rfl, _, Eq.trans (World.drewN_drewN _ _ _) (congrArg (World.drewN _) (Nat.add_assoc _ _ _))⟩)) | (go_at_call 93; (with_reducible refine (spec_FpOk.calls a0_1 true _ A10.out).mono ?_); rintro e w' ⟨rfl, ⟨nd, rfl⟩⟩; (try first | exact ⟨rfl, _, World.drewN_drewN _ _ _⟩ | exact ⟨rfl, _, Eq.trans (World.drewN_drewN _ _ _) (congrArg (World.drewN _) (Nat.add_assoc _ _ _))⟩)) | (go_at_call 76; (with_reducible refine (spec_FpMul.calls a0_1 a0_1 t117 _ A12.out).mono ?_); rintro e w' ⟨rfl, ⟨nd, rfl⟩⟩; (try first | exact ⟨rfl, _, World.drewN_drewN _ _ _⟩ | exact ⟨rfl, _, Eq.trans (World.drewN_drewN _ _ _) (congrArg (World.drewN _) (Nat.add_assoc _ _ _))⟩)) | (go_at_call 95; (with_reducible refine (spec_l07Right.calls a0_0 t118 _ A13.out).mono ?_); rintro e w' ⟨rfl, ⟨nd, rfl⟩⟩; (try first | exact ⟨rfl, _, World.drewN_drewN _ _ _⟩ | exact ⟨rfl, _, Eq.trans (World.drewN_drewN _ _ _) (congrArg (World.drewN _) (Nat.add_assoc _ _ _))⟩))); try go_wp2_with (first | ((with_reducible refine gate_dst (N := 1) rfl ?_); refine box_event ?hg (N := 1) ?hd (cs := #[.int .i64 a0_0, .int .i64 a0_1, .bool false]) (t := 25) ?hr ?_; (case hd => rfl); (case hg => rfl); (case hr => first | (go_simp; done) | (go_simp; rfl)); intro gb114 hg w14 hbox hb; have BK114 := Aside0.mk (hbox); have GW114 := bG HB hg; have GE114 := bG HB hg; replace HB := bS HB hb; clear hb hbox hg; have hcz15_0 : w14.cell? ⟨gb114, 0, none⟩ = some (.int .i64 a0_0) := bc BK114 0; have hcz15_1 : w14.cell? ⟨gb114, 1, none⟩ = some (.int .i64 a0_1) := bc BK114 1; have hcz15_2 : w14.cell? ⟨gb114, 2, none⟩ = some (.bool false) := bc BK114 2; have hfz15_0 := blk_frozen BK114.out 0; have hfz15_1 := blk_frozen BK114.out 1; have hfz15_2 := blk_frozen BK114.out 2) | (go_at_call 93; (with_reducible refine (spec_FpOk.calls a0_0 true _ A8.out).mono ?_); rintro e w' ⟨rfl, ⟨nd, rfl⟩⟩; (try first | exact ⟨rfl, _, World.drewN_drewN _ _ _⟩ | exact ⟨rfl, _, Eq.trans (World.drewN_drewN _ _ _) (congrArg (World.drewN _) (Nat.add_assoc _ _ _))⟩)) | (go_at_call 93; (with_reducible refine (spec_FpOk.calls a0_1 true _ A10.out).mono ?_); rintro e w' ⟨rfl, ⟨nd, rfl⟩⟩; (try first | exact ⟨rfl, _, World.drewN_drewN _ _ _⟩ | exact ⟨rfl, _, Eq.trans (World.drewN_drewN _ _ _) (congrArg (World.drewN _) (Nat.add_assoc _ _ _))⟩)) | (go_at_call 76; (with_reducible refine (spec_FpMul.calls a0_1 a0_1 t117 _ A12.out).mono ?_); rintro e w' ⟨rfl, ⟨nd, rfl⟩⟩; (try first | exact ⟨rfl, _, World.drewN_drewN _ _ _⟩ | exact ⟨rfl, _, Eq.trans (World.drewN_drewN _ _ _) (congrArg (World.drewN _) (Nat.add_assoc _ _ _))⟩)) | (go_at_call 95; (with_reducible refine (spec_l07Right.calls a0_0 t118 _ A13.out).mono ?_); rintro e w' ⟨rfl, ⟨nd, rfl⟩⟩; (try first | exact ⟨rfl, _, World.drewN_drewN _ _ _⟩ | exact ⟨rfl, _, Eq.trans (World.drewN_drewN _ _ _) (congrArg (World.drewN _) (Nat.add_assoc _ _ _))⟩))))
    go_ret
    exact ⟨by first | rfl | (simp [errW_none, errW_some] <;> rfl) | (simp [*, errW_none, errW_some] <;> rfl), bZ HB⟩
   ·replace c11 := Bool.eq_false_iff.mpr c11
    subst c11
    have H1 : (some false) = some r := by rw [if_neg (show ¬ (false = true) by decide)] at H; exact H
    clear H
    have H := H1
    clear H1
    obtain rfl := Option.some.inj H
    go_enter Try.func55, Try.ntmps55
    go_wp2_with (first | ((with_reducible refine gate_dst (N := 1) rfl ?_); refine box_event ?hg (N := 1) ?hd (cs := #[.int .i64 a0_0, .int .i64 a0_1, .bool false]) (t := 25) ?hr ?_; (case hd => rfl); (case hg => rfl); (case hr => first | (go_simp; done) | (go_simp; rfl)); intro gb114 hg w16 hbox hb; have BK114 := Aside0.mk (hbox); have GW114 := bG HB hg; have GE114 := bG HB hg; replace HB := bS HB hb; clear hb hbox hg; have hcz17_0 : w16.cell? ⟨gb114, 0, none⟩ = some (.int .i64 a0_0) := bc BK114 0; have hcz17_1 : w16.cell? ⟨gb114, 1, none⟩ = some (.int .i64 a0_1) := bc BK114 1; have hcz17_2 : w16.cell? ⟨gb114, 2, none⟩ = some (.bool false) := bc BK114 2; have hfz17_0 := blk_frozen BK114.out 0; have hfz17_1 := blk_frozen BK114.out 1; have hfz17_2 := blk_frozen BK114.out 2) | (go_at_call 93; (with_reducible refine (spec_FpOk.calls a0_0 true _ A8.out).mono ?_); rintro e w' ⟨rfl, ⟨nd, rfl⟩⟩; (try first | exact ⟨rfl, _, World.drewN_drewN _ _ _⟩ | exact ⟨rfl, _, Eq.trans (World.drewN_drewN _ _ _) (congrArg (World.drewN _) (Nat.add_assoc _ _ _))⟩)) | (go_at_call 93; (with_reducible refine (spec_FpOk.calls a0_1 false _ A10.out).mono ?_); rintro e w' ⟨rfl, ⟨nd, rfl⟩⟩; (try first | exact ⟨rfl, _, World.drewN_drewN _ _ _⟩ | exact ⟨rfl, _, Eq.trans (World.drewN_drewN _ _ _) (congrArg (World.drewN _) (Nat.add_assoc _ _ _))⟩)))
    repeat (go_quiet (first | ((with_reducible refine gate_dst (N := 1) rfl ?_); refine box_event ?hg (N := 1) ?hd (cs := #[.int .i64 a0_0, .int .i64 a0_1, .bool false]) (t := 25) ?hr ?_; (case hd => rfl); (case hg => rfl); (case hr => first | (go_simp; done) | (go_simp; rfl)); intro gb114 hg w16 hbox hb; have BK114 := Aside0.mk (hbox); have GW114 := bG HB hg; have GE114 := bG HB hg; replace HB := bS HB hb; clear hb hbox hg; have hcz17_0 : w16.cell? ⟨gb114, 0, none⟩ = some (.int .i64 a0_0) := bc BK114 0; have hcz17_1 : w16.cell? ⟨gb114, 1, none⟩ = some (.int .i64 a0_1) := bc BK114 1; have hcz17_2 : w16.cell? ⟨gb114, 2, none⟩ = some (.bool false) := bc BK114 2; have hfz17_0 := blk_frozen BK114.out 0; have hfz17_1 := blk_frozen BK114.out 1; have hfz17_2 := blk_frozen BK114.out 2) | (go_at_call 93; (with_reducible refine (spec_FpOk.calls a0_0 true _ A8.out).mono ?_); rintro e w' ⟨rfl, ⟨nd, rfl⟩⟩; (try first | exact ⟨rfl, _, World.drewN_drewN _ _ _⟩ | exact ⟨rfl, _, Eq.trans (World.drewN_drewN _ _ _) (congrArg (World.drewN _) (Nat.add_assoc _ _ _))⟩)) | (go_at_call 93; (with_reducible refine (spec_FpOk.calls a0_1 false _ A10.out).mono ?_); rintro e w' ⟨rfl, ⟨nd, rfl⟩⟩; (try first | exact ⟨rfl, _, World.drewN_drewN _ _ _⟩ | exact ⟨rfl, _, Eq.trans (World.drewN_drewN _ _ _) (congrArg (World.drewN _) (Nat.add_assoc _ _ _))⟩))); try go_wp2_with (first | ((with_reducible refine gate_dst (N := 1) rfl ?_); refine box_event ?hg (N := 1) ?hd (cs := #[.int .i64 a0_0, .int .i64 a0_1, .bool false]) (t := 25) ?hr ?_; (case hd => rfl); (case hg => rfl); (case hr => first | (go_simp; done) | (go_simp; rfl)); intro gb114 hg w16 hbox hb; have BK114 := Aside0.mk (hbox); have GW114 := bG HB hg; have GE114 := bG HB hg; replace HB := bS HB hb; clear hb hbox hg; have hcz17_0 : w16.cell? ⟨gb114, 0, none⟩ = some (.int .i64 a0_0) := bc BK114 0; have hcz17_1 : w16.cell? ⟨gb114, 1, none⟩ = some (.int .i64 a0_1) := bc BK114 1; have hcz17_2 : w16.cell? ⟨gb114, 2, none⟩ = some (.bool false) := bc BK114 2; have hfz17_0 := blk_frozen BK114.out 0; have hfz17_1 := blk_frozen BK114.out 1; have hfz17_2 := blk_frozen BK114.out 2) | (go_at_call 93; (with_reducible refine (spec_FpOk.calls a0_0 true _ A8.out).mono ?_); rintro e w' ⟨rfl, ⟨nd, rfl⟩⟩; (try first | exact ⟨rfl, _, World.drewN_drewN _ _ _⟩ | exact ⟨rfl, _, Eq.trans (World.drewN_drewN _ _ _) (congrArg (World.drewN _) (Nat.add_assoc _ _ _))⟩)) | (go_at_call 93; (with_reducible refine (spec_FpOk.calls a0_1 false _ A10.out).mono ?_); rintro e w' ⟨rfl, ⟨nd, rfl⟩⟩; (try first | exact ⟨rfl, _, World.drewN_drewN _ _ _⟩ | exact ⟨rfl, _, Eq.trans (World.drewN_drewN _ _ _) (congrArg (World.drewN _) (Nat.add_assoc _ _ _))⟩))))
    go_ret
    exact ⟨by first | rfl | (simp [errW_none, errW_some] <;> rfl) | (simp [*, errW_none, errW_some] <;> rfl), bZ HB⟩
  ·replace c9 := Bool.eq_false_iff.mpr c9
   subst c9
   have H1 : (some false) = some r := by rw [if_neg (show ¬ (false = true) by decide)] at H; exact H
   clear H
   have H := H1
   clear H1
   obtain rfl := Option.some.inj H
   go_enter Try.func55, Try.ntmps55
   go_wp2_with (first | ((with_reducible refine gate_dst (N := 1) rfl ?_); refine box_event ?hg (N := 1) ?hd (cs := #[.int .i64 a0_0, .int .i64 a0_1, .bool false]) (t := 25) ?hr ?_; (case hd => rfl); (case hg => rfl); (case hr => first | (go_simp; done) | (go_simp; rfl)); intro gb114 hg w18 hbox hb; have BK114 := Aside0.mk (hbox); have GW114 := bG HB hg; have GE114 := bG HB hg; replace HB := bS HB hb; clear hb hbox hg; have hcz19_0 : w18.cell? ⟨gb114, 0, none⟩ = some (.int .i64 a0_0) := bc BK114 0; have hcz19_1 : w18.cell? ⟨gb114, 1, none⟩ = some (.int .i64 a0_1) := bc BK114 1; have hcz19_2 : w18.cell? ⟨gb114, 2, none⟩ = some (.bool false) := bc BK114 2; have hfz19_0 := blk_frozen BK114.out 0; have hfz19_1 := blk_frozen BK114.out 1; have hfz19_2 := blk_frozen BK114.out 2) | (go_at_call 93; (with_reducible refine (spec_FpOk.calls a0_0 false _ A8.out).mono ?_); rintro e w' ⟨rfl, ⟨nd, rfl⟩⟩; (try first | exact ⟨rfl, _, World.drewN_drewN _ _ _⟩ | exact ⟨rfl, _, Eq.trans (World.drewN_drewN _ _ _) (congrArg (World.drewN _) (Nat.add_assoc _ _ _))⟩)))
   repeat (go_quiet (first | ((with_reducible refine gate_dst (N := 1) rfl ?_); refine box_event ?hg (N := 1) ?hd (cs := #[.int .i64 a0_0, .int .i64 a0_1, .bool false]) (t := 25) ?hr ?_; (case hd => rfl); (case hg => rfl); (case hr => first | (go_simp; done) | (go_simp; rfl)); intro gb114 hg w18 hbox hb; have BK114 := Aside0.mk (hbox); have GW114 := bG HB hg; have GE114 := bG HB hg; replace HB := bS HB hb; clear hb hbox hg; have hcz19_0 : w18.cell? ⟨gb114, 0, none⟩ = some (.int .i64 a0_0) := bc BK114 0; have hcz19_1 : w18.cell? ⟨gb114, 1, none⟩ = some (.int .i64 a0_1) := bc BK114 1; have hcz19_2 : w18.cell? ⟨gb114, 2, none⟩ = some (.bool false) := bc BK114 2; have hfz19_0 := blk_frozen BK114.out 0; have hfz19_1 := blk_frozen BK114.out 1; have hfz19_2 := blk_frozen BK114.out 2) | (go_at_call 93; (with_reducible refine (spec_FpOk.calls a0_0 false _ A8.out).mono ?_); rintro e w' ⟨rfl, ⟨nd, rfl⟩⟩; (try first | exact ⟨rfl, _, World.drewN_drewN _ _ _⟩ | exact ⟨rfl, _, Eq.trans (World.drewN_drewN _ _ _) (congrArg (World.drewN _) (Nat.add_assoc _ _ _))⟩))); try go_wp2_with (first | ((with_reducible refine gate_dst (N := 1) rfl ?_); refine box_event ?hg (N := 1) ?hd (cs := #[.int .i64 a0_0, .int .i64 a0_1, .bool false]) (t := 25) ?hr ?_; (case hd => rfl); (case hg => rfl); (case hr => first | (go_simp; done) | (go_simp; rfl)); intro gb114 hg w18 hbox hb; have BK114 := Aside0.mk (hbox); have GW114 := bG HB hg; have GE114 := bG HB hg; replace HB := bS HB hb; clear hb hbox hg; have hcz19_0 : w18.cell? ⟨gb114, 0, none⟩ = some (.int .i64 a0_0) := bc BK114 0; have hcz19_1 : w18.cell? ⟨gb114, 1, none⟩ = some (.int .i64 a0_1) := bc BK114 1; have hcz19_2 : w18.cell? ⟨gb114, 2, none⟩ = some (.bool false) := bc BK114 2; have hfz19_0 := blk_frozen BK114.out 0; have hfz19_1 := blk_frozen BK114.out 1; have hfz19_2 := blk_frozen BK114.out 2) | (go_at_call 93; (with_reducible refine (spec_FpOk.calls a0_0 false _ A8.out).mono ?_); rintro e w' ⟨rfl, ⟨nd, rfl⟩⟩; (try first | exact ⟨rfl, _, World.drewN_drewN _ _ _⟩ | exact ⟨rfl, _, Eq.trans (World.drewN_drewN _ _ _) (congrArg (World.drewN _) (Nat.add_assoc _ _ _))⟩))))
   go_ret
   exact ⟨by first | rfl | (simp [errW_none, errW_some] <;> rfl) | (simp [*, errW_none, errW_some] <;> rfl), bZ HB⟩
/-! ### spec_FpPow: function 110 -/
def spec_FpPow.l0 : Nat → Int → Int → Int → Option (Int)
 | 0, _, _, _ => none
 | k + 1, x1, x5, x6 => if x1 > 0 then (if (Int.tmod x1 2) = 1 then ((spec_FpMul.f x5 x6).bind fun t130 => ((spec_FpMul.f x6 x6).bind fun t131 => (spec_FpPow.l0 k (wrap64 (Int.tdiv x1 2)) t130 t131))) else ((spec_FpMul.f x6 x6).bind fun t132 => (spec_FpPow.l0 k (wrap64 (Int.tdiv x1 2)) x5 t132))) else (some x5)
def spec_FpPow.f (k : Nat) (a0 : Int) (a1 : Int) : Option (Int) := if a1 < 0 then (some 0) else ((spec_FpOf.f a0).bind fun t129 => (spec_FpPow.l0 k a1 1 t129))
theorem spec_FpPow.mono_l : ∀ k, (∀ y0 y1 y2, LeO (spec_FpPow.l0 k y0 y1 y2) (spec_FpPow.l0 (k + 1) y0 y1 y2))
 | 0 => fun _ _ _ r h => by simp [spec_FpPow.l0] at h
 | k + 1 => by
  have ih0 := spec_FpPow.mono_l k
  ·intro y0 y1 y2
   unfold spec_FpPow.l0
   repeat' first
   | (with_reducible exact ih0 _ _ _)
   | (with_reducible exact LeO.refl _)
   | (with_reducible exact LeO.none _)
   | (with_reducible refine LeO.ite ?_ ?_)
   | (with_reducible refine LeO.bind ?_ (fun _ => ?_))
   | exact ih0 _ _ _
   | exact LeO.none _
   | refine LeO.ite ?_ ?_
   | refine LeO.bind ?_ (fun _ => ?_)
theorem spec_FpPow.mono : ∀ a0 a1 k, LeO (spec_FpPow.f k a0 a1) (spec_FpPow.f (k + 1) a0 a1) := by
 intro a0 a1 k
 have ih0 := spec_FpPow.mono_l k
 unfold spec_FpPow.f
 repeat' first
   | (with_reducible exact ih0 _ _ _)
   | (with_reducible exact LeO.refl _)
   | (with_reducible exact LeO.none _)
   | (with_reducible refine LeO.ite ?_ ?_)
   | (with_reducible refine LeO.bind ?_ (fun _ => ?_))
   | exact ih0 _ _ _
   | exact LeO.none _
   | refine LeO.ite ?_ ?_
   | refine LeO.bind ?_ (fun _ => ?_)
set_option maxHeartbeats 8000000 in
set_option maxRecDepth 100000 in
theorem spec_FpPow.calls (k : Nat) (a0 : Int) (a1 : Int) (r : Int) (w : World) (h : spec_FpPow.f k a0 a1 = some r) :
  Calls Try.prog 110 #[.int .i64 a0, .int .i64 a1] w fun e w' => e = .returned (.int .i64 r) ∧ Drawn0 w w' := by
 have H : (if a1 < 0 then (some 0) else ((spec_FpOf.f a0).bind fun t129 => (spec_FpPow.l0 k a1 1 t129))) = some r := h
 clear h
 by_cases c3 : a1 < 0
 ·rw [if_pos c3] at H
  have c3b0 : decide (a1 < 0) = true := decide_eq_true c3
  clear c3
  obtain rfl := Option.some.inj H
  go_enter Try.func110, Try.ntmps110
  go_wp2
  go_ret
  exact ⟨by first | rfl | (simp; done) | (simp [*]; done), by repeat (first | exact Drawn0.refl _ | apply Drawn0.step)⟩
 ·rw [if_neg c3] at H
  have c3b0 : decide (a1 < 0) = false := decide_eq_false c3
  clear c3
  replace H := Option.bind_eq_some_iff.mp H
  obtain ⟨t129, A40, H⟩ := H
  replace H : (spec_FpPow.l0 k a1 1 t129) = some r := H
  have A4 := Aside0.mk A40
  clear A40
  have H' := Aside0.mk H
  clear H
  go_enter Try.func110, Try.ntmps110
  go_wp2_with (first | ((with_reducible refine gate_callee (f := 102) rfl ?_); refine goesL_ (some 10) rfl rfl Try.func102 (by kernel_rfl) rfl #[.int .i64 a0] rfl (by (try simp only [List.map_toArray, List.map_cons, List.map_nil]); first | done | rfl | (simp only [List.length_drop, List.length_take]; rfl)) ?_; (with_reducible refine (spec_FpOf.calls a0 t129 _ A4.out).mono ?_); rintro e w' ⟨rfl, ⟨nd, rfl⟩⟩; refine ⟨_, rfl, ?_⟩))
  go_loopg [1, 5, 6] k (fun kq v1 v5 v6 w' => ∃ (x1_1 : Int) (x5_1 : Int) (x6_1 : Int), v1 = .int .i64 x1_1 ∧ v5 = .int .i64 x5_1 ∧ v6 = .int .i64 x6_1 ∧ Aside0 (spec_FpPow.l0 kq x1_1 x5_1 x6_1 = some r) ∧ Aside0 (kq ≤ k) ∧ Drawn0 w w')
  case atStart => exact ⟨(a1), (1), (t129), (by first | rfl | (simp; done) | (simp [*]; done)), (by first | rfl | (simp; done) | (simp [*]; done)), (by first | rfl | (simp; done) | (simp [*]; done)), H', ⟨Nat.le_refl _⟩, by repeat (first | exact Drawn0.refl _ | apply Drawn0.step)⟩
  case round =>
   clear H'
   try clear c1
   try clear p2
   try clear c3
   try clear c3b0
   obtain ⟨x1_1, x5_1, x6_1, rfl, rfl, rfl, HA, HK1, ⟨m1, rfl⟩⟩ := hrel
   cases gk with
   | zero => exact absurd HA.out (by simp [spec_FpPow.l0])
   | succ k1 =>
    have H := HA.out
    clear HA
    simp only [spec_FpPow.l0] at H
    by_cases c5 : x1_1 > 0
    ·rw [if_pos c5] at H
     have c5b0 : decide (0 < x1_1) = true := decide_eq_true c5
     clear c5
     by_cases c6 : (Int.tmod x1_1 2) = 1
     ·rw [if_pos c6] at H
      have c6b0 : ((Int.tmod x1_1 2) == 1) = true := beq_iff_eq.mpr c6
      have c6b1 : ((Int.tmod x1_1 2) != 1) = false := bne_eq_false_iff_eq.mpr c6
      clear c6
      replace H := Option.bind_eq_some_iff.mp H
      obtain ⟨t130, A70, H⟩ := H
      replace H : ((spec_FpMul.f x6_1 x6_1).bind fun t131 => (spec_FpPow.l0 k1 (wrap64 (Int.tdiv x1_1 2)) t130 t131)) = some r := H
      have A7 := Aside0.mk A70
      clear A70
      replace H := Option.bind_eq_some_iff.mp H
      obtain ⟨t131, A80, H⟩ := H
      replace H : (spec_FpPow.l0 k1 (wrap64 (Int.tdiv x1_1 2)) t130 t131) = some r := H
      have A8 := Aside0.mk A80
      clear A80
      have H' := Aside0.mk H
      clear H
      go_wp2_with (first | ((with_reducible refine gate_callee (f := 76) rfl ?_); refine goesL_ (some 18) rfl rfl Try.func76 (by kernel_rfl) rfl #[.int .i64 x5_1, .int .i64 x6_1] rfl (by (try simp only [List.map_toArray, List.map_cons, List.map_nil]); first | done | rfl | (simp only [List.length_drop, List.length_take]; rfl)) ?_; (with_reducible refine (spec_FpMul.calls x5_1 x6_1 t130 _ A7.out).mono ?_); rintro e w' ⟨rfl, ⟨nd, rfl⟩⟩; refine ⟨_, rfl, ?_⟩) | ((with_reducible refine gate_callee (f := 76) rfl ?_); refine goesL_ (some 21) rfl rfl Try.func76 (by kernel_rfl) rfl #[.int .i64 x6_1, .int .i64 x6_1] rfl (by (try simp only [List.map_toArray, List.map_cons, List.map_nil]); first | done | rfl | (simp only [List.length_drop, List.length_take]; rfl)) ?_; (with_reducible refine (spec_FpMul.calls x6_1 x6_1 t131 _ A8.out).mono ?_); rintro e w' ⟨rfl, ⟨nd, rfl⟩⟩; refine ⟨_, rfl, ?_⟩))
      go_roundg k1
      case measure => have := HK1.out; omega
      case rel => exact ⟨(wrap64 (Int.tdiv x1_1 2)), (t130), (t131), (by first | rfl | (simp; done) | (simp [*]; done)), (by first | rfl | (simp; done) | (simp [*]; done)), (by first | rfl | (simp; done) | (simp [*]; done)), H', ⟨by have := HK1.out; omega⟩, by repeat (first | exact Drawn0.refl _ | apply Drawn0.step)⟩
     ·rw [if_neg c6] at H
      have c6b0 : ((Int.tmod x1_1 2) == 1) = false := beq_eq_false_iff_ne.mpr c6
      have c6b1 : ((Int.tmod x1_1 2) != 1) = true := bne_iff_ne.mpr c6
      replace H := Option.bind_eq_some_iff.mp H
      obtain ⟨t132, A90, H⟩ := H
      replace H : (spec_FpPow.l0 k1 (wrap64 (Int.tdiv x1_1 2)) x5_1 t132) = some r := H
      have A9 := Aside0.mk A90
      clear A90
      have H' := Aside0.mk H
      clear H
      go_wp2_with (first | ((with_reducible refine gate_callee (f := 76) rfl ?_); refine goesL_ (some 21) rfl rfl Try.func76 (by kernel_rfl) rfl #[.int .i64 x6_1, .int .i64 x6_1] rfl (by (try simp only [List.map_toArray, List.map_cons, List.map_nil]); first | done | rfl | (simp only [List.length_drop, List.length_take]; rfl)) ?_; (with_reducible refine (spec_FpMul.calls x6_1 x6_1 t132 _ A9.out).mono ?_); rintro e w' ⟨rfl, ⟨nd, rfl⟩⟩; refine ⟨_, rfl, ?_⟩))
      go_roundg k1
      case measure => have := HK1.out; omega
      case rel => exact ⟨(wrap64 (Int.tdiv x1_1 2)), (x5_1), (t132), (by first | rfl | (simp; done) | (simp [*]; done)), (by first | rfl | (simp; done) | (simp [*]; done)), (by first | rfl | (simp; done) | (simp [*]; done)), H', ⟨by have := HK1.out; omega⟩, by repeat (first | exact Drawn0.refl _ | apply Drawn0.step)⟩
    ·rw [if_neg c5] at H
     have c5b0 : decide (0 < x1_1) = false := decide_eq_false c5
     clear c5
     obtain rfl := Option.some.inj H
     go_wp2
     go_ret
     exact ⟨by first | rfl | (simp; done) | (simp [*]; done), by repeat (first | exact Drawn0.refl _ | apply Drawn0.step)⟩
/-! ### spec_FpInv: function 104 -/
def spec_FpInv.f (k : Nat) (a0 : Int) : Option (Int) := (spec_FpPow.f k a0 12105).bind fun t133 => (some t133)
theorem spec_FpInv.mono : ∀ a0 k, LeO (spec_FpInv.f k a0) (spec_FpInv.f (k + 1) a0) := by
 intro a0 k
 unfold spec_FpInv.f
 repeat' first
   | (with_reducible exact spec_FpPow.mono _ _ _)
   | (with_reducible exact LeO.refl _)
   | (with_reducible exact LeO.none _)
   | (with_reducible refine LeO.ite ?_ ?_)
   | (with_reducible refine LeO.bind ?_ (fun _ => ?_))
   | exact spec_FpPow.mono _ _ _
   | exact LeO.none _
   | refine LeO.ite ?_ ?_
   | refine LeO.bind ?_ (fun _ => ?_)
set_option maxHeartbeats 8000000 in
set_option maxRecDepth 100000 in
theorem spec_FpInv.calls (k : Nat) (a0 : Int) (r : Int) (w : World) (h : spec_FpInv.f k a0 = some r) :
  Calls Try.prog 104 #[.int .i64 a0] w fun e w' => e = .returned (.int .i64 r) ∧ Drawn0 w w' := by
 have H : ((spec_FpPow.f k a0 12105).bind fun t133 => (some t133)) = some r := h
 clear h
 replace H := Option.bind_eq_some_iff.mp H
 obtain ⟨t133, A20, H⟩ := H
 replace H : (some t133) = some r := H
 have A2 := Aside0.mk A20
 clear A20
 obtain rfl := Option.some.inj H
 go_enter Try.func104, Try.ntmps104
 go_wp2_with (first | ((with_reducible refine gate_callee (f := 110) rfl ?_); refine goesL_ (some 4) rfl rfl Try.func110 (by kernel_rfl) rfl #[.int .i64 a0, .int .i64 12105] rfl (by (try simp only [List.map_toArray, List.map_cons, List.map_nil]); first | done | rfl | (simp only [List.length_drop, List.length_take]; rfl)) ?_; (with_reducible refine (spec_FpPow.calls k a0 12105 t133 _ A2.out).mono ?_); rintro e w' ⟨rfl, ⟨nd, rfl⟩⟩; refine ⟨_, rfl, ?_⟩))
 go_ret
 exact ⟨by first | rfl | (simp; done) | (simp [*]; done), by repeat (first | exact Drawn0.refl _ | apply Drawn0.step)⟩
/-! ### spec_l07Slope: function 74 -/
def spec_l07Slope.f (k : Nat) (a0_0 : Int) (a0_1 : Int) (a0_2 : Bool) (a1_0 : Int) (a1_1 : Int) (a1_2 : Bool) : Option (Int × Bool) := if a0_0 = a1_0 then ((spec_FpAdd.f a0_1 a1_1).bind fun t140 => (if t140 = 0 then (some (0, false)) else ((spec_FpMul.f a0_0 a0_0).bind fun t141 => ((spec_FpMul.f 3 t141).bind fun t142 => ((spec_FpAdd.f t142 1).bind fun t143 => ((spec_FpMul.f 2 a0_1).bind fun t144 => ((spec_FpInv.f k t144).bind fun t145 => ((spec_FpMul.f t143 t145).bind fun t146 => (some (t146, true)))))))))) else ((spec_FpSub.f a1_1 a0_1).bind fun t136 => ((spec_FpSub.f a1_0 a0_0).bind fun t137 => ((spec_FpInv.f k t137).bind fun t138 => ((spec_FpMul.f t136 t138).bind fun t139 => (some (t139, true))))))
theorem spec_l07Slope.mono : ∀ a0 a1 a2 a3 a4 a5 k, LeO (spec_l07Slope.f k a0 a1 a2 a3 a4 a5) (spec_l07Slope.f (k + 1) a0 a1 a2 a3 a4 a5) := by
 intro a0 a1 a2 a3 a4 a5 k
 unfold spec_l07Slope.f
 repeat' first
   | (with_reducible exact spec_FpInv.mono _ _)
   | (with_reducible exact LeO.refl _)
   | (with_reducible exact LeO.none _)
   | (with_reducible refine LeO.ite ?_ ?_)
   | (with_reducible refine LeO.bind ?_ (fun _ => ?_))
   | exact spec_FpInv.mono _ _
   | exact LeO.none _
   | refine LeO.ite ?_ ?_
   | refine LeO.bind ?_ (fun _ => ?_)
set_option maxHeartbeats 8000000 in
set_option maxRecDepth 100000 in
theorem spec_l07Slope.calls (k : Nat) (a0_0 : Int) (a0_1 : Int) (a0_2 : Bool) (a1_0 : Int) (a1_1 : Int) (a1_2 : Bool) (r1 : Int) (r2 : Bool) (w : World) (h : spec_l07Slope.f k a0_0 a0_1 a0_2 a1_0 a1_1 a1_2 = some (r1, r2)) :
  Calls Try.prog 74 #[.agg #[.int .i64 a0_0, .int .i64 a0_1, .bool a0_2], .agg #[.int .i64 a1_0, .int .i64 a1_1, .bool a1_2]] w fun e w' => e = .returned (.tuple #[.int .i64 r1, .bool r2]) ∧ Below w.heap.size w w' := by
 have hu25 := Try.underlying25
 have HB := Aside0.mk (Below.refl w.heap.size w)
 have H : (if a0_0 = a1_0 then ((spec_FpAdd.f a0_1 a1_1).bind fun t140 => (if t140 = 0 then (some (0, false)) else ((spec_FpMul.f a0_0 a0_0).bind fun t141 => ((spec_FpMul.f 3 t141).bind fun t142 => ((spec_FpAdd.f t142 1).bind fun t143 => ((spec_FpMul.f 2 a0_1).bind fun t144 => ((spec_FpInv.f k t144).bind fun t145 => ((spec_FpMul.f t143 t145).bind fun t146 => (some (t146, true)))))))))) else ((spec_FpSub.f a1_1 a0_1).bind fun t136 => ((spec_FpSub.f a1_0 a0_0).bind fun t137 => ((spec_FpInv.f k t137).bind fun t138 => ((spec_FpMul.f t136 t138).bind fun t139 => (some (t139, true))))))) = some (r1, r2) := h
 clear h
 by_cases c3 : a0_0 = a1_0
 ·rw [if_pos c3] at H
  have c3b0 : (a0_0 == a1_0) = true := beq_iff_eq.mpr c3
  have c3b1 : (a0_0 != a1_0) = false := bne_eq_false_iff_eq.mpr c3
  clear c3
  replace H := Option.bind_eq_some_iff.mp H
  obtain ⟨t140, A40, H⟩ := H
  replace H : (if t140 = 0 then (some (0, false)) else ((spec_FpMul.f a0_0 a0_0).bind fun t141 => ((spec_FpMul.f 3 t141).bind fun t142 => ((spec_FpAdd.f t142 1).bind fun t143 => ((spec_FpMul.f 2 a0_1).bind fun t144 => ((spec_FpInv.f k t144).bind fun t145 => ((spec_FpMul.f t143 t145).bind fun t146 => (some (t146, true))))))))) = some (r1, r2) := H
  have A4 := Aside0.mk A40
  clear A40
  by_cases c5 : t140 = 0
  ·rw [if_pos c5] at H
   have c5b0 : (t140 == 0) = true := beq_iff_eq.mpr c5
   have c5b1 : (t140 != 0) = false := bne_eq_false_iff_eq.mpr c5
   clear c5
   simp only [Option.some.injEq, Prod.mk.injEq] at H
   obtain ⟨rfl, rfl⟩ := H
   go_enter Try.func74, Try.ntmps74
   go_wp2_with (first | ((with_reducible refine gate_dst (N := 2) rfl ?_); refine box_event ?hg (N := 2) ?hd (cs := #[.int .i64 a0_0, .int .i64 a0_1, .bool a0_2]) (t := 25) ?hr ?_; (case hd => rfl); (case hg => rfl); (case hr => first | (go_simp; done) | (go_simp; rfl)); intro gb134 hg w6 hbox hb; have BK134 := Aside0.mk (hbox); have GW134 := bG HB hg; have GE134 := bG HB hg; replace HB := bS HB hb; clear hb hbox hg) | ((with_reducible refine gate_dst (N := 3) rfl ?_); refine box_event ?hg (N := 3) ?hd (cs := #[.int .i64 a1_0, .int .i64 a1_1, .bool a1_2]) (t := 25) ?hr ?_; (case hd => rfl); (case hg => rfl); (case hr => first | (go_simp; done) | (go_simp; rfl)); intro gb135 hg w7 hbox hb; have BK135 := Aside0.mk (hbox); have GW135 := bG HB hg; have GE135 := bG HB hg; replace HB := bS HB hb; have NB134_135 := bL BK134 hg; have NB135_134 := bR BK134 hg; replace BK134 := bB BK134 hb; clear hb hbox hg; have hnb8 := NB134_135.out; have hnc8 := NB135_134.out; have hcz9_0 : w7.cell? ⟨gb134, 0, none⟩ = some (.int .i64 a0_0) := bc BK134 0; have hcz9_1 : w7.cell? ⟨gb134, 1, none⟩ = some (.int .i64 a0_1) := bc BK134 1; have hcz9_2 : w7.cell? ⟨gb134, 2, none⟩ = some (.bool a0_2) := bc BK134 2; have hfz9_0 := blk_frozen BK134.out 0; have hfz9_1 := blk_frozen BK134.out 1; have hfz9_2 := blk_frozen BK134.out 2; have hcz10_0 : w7.cell? ⟨gb135, 0, none⟩ = some (.int .i64 a1_0) := bc BK135 0; have hcz10_1 : w7.cell? ⟨gb135, 1, none⟩ = some (.int .i64 a1_1) := bc BK135 1; have hcz10_2 : w7.cell? ⟨gb135, 2, none⟩ = some (.bool a1_2) := bc BK135 2; have hfz10_0 := blk_frozen BK135.out 0; have hfz10_1 := blk_frozen BK135.out 1; have hfz10_2 := blk_frozen BK135.out 2) | (go_at_call 103; (with_reducible refine (spec_FpAdd.calls a0_1 a1_1 t140 _ A4.out).mono ?_); rintro e w' ⟨rfl, ⟨nd, rfl⟩⟩; (try first | exact ⟨rfl, _, World.drewN_drewN _ _ _⟩ | exact ⟨rfl, _, Eq.trans (World.drewN_drewN _ _ _) (congrArg (World.drewN _) (Nat.add_assoc _ _ _))⟩)))
   repeat (go_quiet (first | ((with_reducible refine gate_dst (N := 2) rfl ?_); refine box_event ?hg (N := 2) ?hd (cs := #[.int .i64 a0_0, .int .i64 a0_1, .bool a0_2]) (t := 25) ?hr ?_; (case hd => rfl); (case hg => rfl); (case hr => first | (go_simp; done) | (go_simp; rfl)); intro gb134 hg w6 hbox hb; have BK134 := Aside0.mk (hbox); have GW134 := bG HB hg; have GE134 := bG HB hg; replace HB := bS HB hb; clear hb hbox hg) | ((with_reducible refine gate_dst (N := 3) rfl ?_); refine box_event ?hg (N := 3) ?hd (cs := #[.int .i64 a1_0, .int .i64 a1_1, .bool a1_2]) (t := 25) ?hr ?_; (case hd => rfl); (case hg => rfl); (case hr => first | (go_simp; done) | (go_simp; rfl)); intro gb135 hg w7 hbox hb; have BK135 := Aside0.mk (hbox); have GW135 := bG HB hg; have GE135 := bG HB hg; replace HB := bS HB hb; have NB134_135 := bL BK134 hg; have NB135_134 := bR BK134 hg; replace BK134 := bB BK134 hb; clear hb hbox hg; have hnb8 := NB134_135.out; have hnc8 := NB135_134.out; have hcz9_0 : w7.cell? ⟨gb134, 0, none⟩ = some (.int .i64 a0_0) := bc BK134 0; have hcz9_1 : w7.cell? ⟨gb134, 1, none⟩ = some (.int .i64 a0_1) := bc BK134 1; have hcz9_2 : w7.cell? ⟨gb134, 2, none⟩ = some (.bool a0_2) := bc BK134 2; have hfz9_0 := blk_frozen BK134.out 0; have hfz9_1 := blk_frozen BK134.out 1; have hfz9_2 := blk_frozen BK134.out 2; have hcz10_0 : w7.cell? ⟨gb135, 0, none⟩ = some (.int .i64 a1_0) := bc BK135 0; have hcz10_1 : w7.cell? ⟨gb135, 1, none⟩ = some (.int .i64 a1_1) := bc BK135 1; have hcz10_2 : w7.cell? ⟨gb135, 2, none⟩ = some (.bool a1_2) := bc BK135 2; have hfz10_0 := blk_frozen BK135.out 0; have hfz10_1 := blk_frozen BK135.out 1; have hfz10_2 := blk_frozen BK135.out 2) | (go_at_call 103; (with_reducible refine (spec_FpAdd.calls a0_1 a1_1 t140 _ A4.out).mono ?_); rintro e w' ⟨rfl, ⟨nd, rfl⟩⟩; (try first | exact ⟨rfl, _, World.drewN_drewN _ _ _⟩ | exact ⟨rfl, _, Eq.trans (World.drewN_drewN _ _ _) (congrArg (World.drewN _) (Nat.add_assoc _ _ _))⟩))); try go_wp2_with (first | ((with_reducible refine gate_dst (N := 2) rfl ?_); refine box_event ?hg (N := 2) ?hd (cs := #[.int .i64 a0_0, .int .i64 a0_1, .bool a0_2]) (t := 25) ?hr ?_; (case hd => rfl); (case hg => rfl); (case hr => first | (go_simp; done) | (go_simp; rfl)); intro gb134 hg w6 hbox hb; have BK134 := Aside0.mk (hbox); have GW134 := bG HB hg; have GE134 := bG HB hg; replace HB := bS HB hb; clear hb hbox hg) | ((with_reducible refine gate_dst (N := 3) rfl ?_); refine box_event ?hg (N := 3) ?hd (cs := #[.int .i64 a1_0, .int .i64 a1_1, .bool a1_2]) (t := 25) ?hr ?_; (case hd => rfl); (case hg => rfl); (case hr => first | (go_simp; done) | (go_simp; rfl)); intro gb135 hg w7 hbox hb; have BK135 := Aside0.mk (hbox); have GW135 := bG HB hg; have GE135 := bG HB hg; replace HB := bS HB hb; have NB134_135 := bL BK134 hg; have NB135_134 := bR BK134 hg; replace BK134 := bB BK134 hb; clear hb hbox hg; have hnb8 := NB134_135.out; have hnc8 := NB135_134.out; have hcz9_0 : w7.cell? ⟨gb134, 0, none⟩ = some (.int .i64 a0_0) := bc BK134 0; have hcz9_1 : w7.cell? ⟨gb134, 1, none⟩ = some (.int .i64 a0_1) := bc BK134 1; have hcz9_2 : w7.cell? ⟨gb134, 2, none⟩ = some (.bool a0_2) := bc BK134 2; have hfz9_0 := blk_frozen BK134.out 0; have hfz9_1 := blk_frozen BK134.out 1; have hfz9_2 := blk_frozen BK134.out 2; have hcz10_0 : w7.cell? ⟨gb135, 0, none⟩ = some (.int .i64 a1_0) := bc BK135 0; have hcz10_1 : w7.cell? ⟨gb135, 1, none⟩ = some (.int .i64 a1_1) := bc BK135 1; have hcz10_2 : w7.cell? ⟨gb135, 2, none⟩ = some (.bool a1_2) := bc BK135 2; have hfz10_0 := blk_frozen BK135.out 0; have hfz10_1 := blk_frozen BK135.out 1; have hfz10_2 := blk_frozen BK135.out 2) | (go_at_call 103; (with_reducible refine (spec_FpAdd.calls a0_1 a1_1 t140 _ A4.out).mono ?_); rintro e w' ⟨rfl, ⟨nd, rfl⟩⟩; (try first | exact ⟨rfl, _, World.drewN_drewN _ _ _⟩ | exact ⟨rfl, _, Eq.trans (World.drewN_drewN _ _ _) (congrArg (World.drewN _) (Nat.add_assoc _ _ _))⟩))))
   go_ret2
   exact ⟨by first | rfl | (simp [errW_none, errW_some] <;> rfl) | (simp [*, errW_none, errW_some] <;> rfl), bZ HB⟩
  ·rw [if_neg c5] at H
   have c5b0 : (t140 == 0) = false := beq_eq_false_iff_ne.mpr c5
   have c5b1 : (t140 != 0) = true := bne_iff_ne.mpr c5
   replace H := Option.bind_eq_some_iff.mp H
   obtain ⟨t141, A110, H⟩ := H
   replace H : ((spec_FpMul.f 3 t141).bind fun t142 => ((spec_FpAdd.f t142 1).bind fun t143 => ((spec_FpMul.f 2 a0_1).bind fun t144 => ((spec_FpInv.f k t144).bind fun t145 => ((spec_FpMul.f t143 t145).bind fun t146 => (some (t146, true))))))) = some (r1, r2) := H
   have A11 := Aside0.mk A110
   clear A110
   replace H := Option.bind_eq_some_iff.mp H
   obtain ⟨t142, A120, H⟩ := H
   replace H : ((spec_FpAdd.f t142 1).bind fun t143 => ((spec_FpMul.f 2 a0_1).bind fun t144 => ((spec_FpInv.f k t144).bind fun t145 => ((spec_FpMul.f t143 t145).bind fun t146 => (some (t146, true)))))) = some (r1, r2) := H
   have A12 := Aside0.mk A120
   clear A120
   replace H := Option.bind_eq_some_iff.mp H
   obtain ⟨t143, A130, H⟩ := H
   replace H : ((spec_FpMul.f 2 a0_1).bind fun t144 => ((spec_FpInv.f k t144).bind fun t145 => ((spec_FpMul.f t143 t145).bind fun t146 => (some (t146, true))))) = some (r1, r2) := H
   have A13 := Aside0.mk A130
   clear A130
   replace H := Option.bind_eq_some_iff.mp H
   obtain ⟨t144, A140, H⟩ := H
   replace H : ((spec_FpInv.f k t144).bind fun t145 => ((spec_FpMul.f t143 t145).bind fun t146 => (some (t146, true)))) = some (r1, r2) := H
   have A14 := Aside0.mk A140
   clear A140
   replace H := Option.bind_eq_some_iff.mp H
   obtain ⟨t145, A150, H⟩ := H
   replace H : ((spec_FpMul.f t143 t145).bind fun t146 => (some (t146, true))) = some (r1, r2) := H
   have A15 := Aside0.mk A150
   clear A150
   replace H := Option.bind_eq_some_iff.mp H
   obtain ⟨t146, A160, H⟩ := H
   replace H : (some (t146, true)) = some (r1, r2) := H
   have A16 := Aside0.mk A160
   clear A160
   simp only [Option.some.injEq, Prod.mk.injEq] at H
   obtain ⟨rfl, rfl⟩ := H
   go_enter Try.func74, Try.ntmps74
   go_wp2_with (first | ((with_reducible refine gate_dst (N := 2) rfl ?_); refine box_event ?hg (N := 2) ?hd (cs := #[.int .i64 a0_0, .int .i64 a0_1, .bool a0_2]) (t := 25) ?hr ?_; (case hd => rfl); (case hg => rfl); (case hr => first | (go_simp; done) | (go_simp; rfl)); intro gb134 hg w17 hbox hb; have BK134 := Aside0.mk (hbox); have GW134 := bG HB hg; have GE134 := bG HB hg; replace HB := bS HB hb; clear hb hbox hg) | ((with_reducible refine gate_dst (N := 3) rfl ?_); refine box_event ?hg (N := 3) ?hd (cs := #[.int .i64 a1_0, .int .i64 a1_1, .bool a1_2]) (t := 25) ?hr ?_; (case hd => rfl); (case hg => rfl); (case hr => first | (go_simp; done) | (go_simp; rfl)); intro gb135 hg w18 hbox hb; have BK135 := Aside0.mk (hbox); have GW135 := bG HB hg; have GE135 := bG HB hg; replace HB := bS HB hb; have NB134_135 := bL BK134 hg; have NB135_134 := bR BK134 hg; replace BK134 := bB BK134 hb; clear hb hbox hg; have hnb19 := NB134_135.out; have hnc19 := NB135_134.out; have hcz20_0 : w18.cell? ⟨gb134, 0, none⟩ = some (.int .i64 a0_0) := bc BK134 0; have hcz20_1 : w18.cell? ⟨gb134, 1, none⟩ = some (.int .i64 a0_1) := bc BK134 1; have hcz20_2 : w18.cell? ⟨gb134, 2, none⟩ = some (.bool a0_2) := bc BK134 2; have hfz20_0 := blk_frozen BK134.out 0; have hfz20_1 := blk_frozen BK134.out 1; have hfz20_2 := blk_frozen BK134.out 2; have hcz21_0 : w18.cell? ⟨gb135, 0, none⟩ = some (.int .i64 a1_0) := bc BK135 0; have hcz21_1 : w18.cell? ⟨gb135, 1, none⟩ = some (.int .i64 a1_1) := bc BK135 1; have hcz21_2 : w18.cell? ⟨gb135, 2, none⟩ = some (.bool a1_2) := bc BK135 2; have hfz21_0 := blk_frozen BK135.out 0; have hfz21_1 := blk_frozen BK135.out 1; have hfz21_2 := blk_frozen BK135.out 2) | (go_at_call 103; (with_reducible refine (spec_FpAdd.calls a0_1 a1_1 t140 _ A4.out).mono ?_); rintro e w' ⟨rfl, ⟨nd, rfl⟩⟩; (try first | exact ⟨rfl, _, World.drewN_drewN _ _ _⟩ | exact ⟨rfl, _, Eq.trans (World.drewN_drewN _ _ _) (congrArg (World.drewN _) (Nat.add_assoc _ _ _))⟩)) | (go_at_call 76; (with_reducible refine (spec_FpMul.calls a0_0 a0_0 t141 _ A11.out).mono ?_); rintro e w' ⟨rfl, ⟨nd, rfl⟩⟩; (try first | exact ⟨rfl, _, World.drewN_drewN _ _ _⟩ | exact ⟨rfl, _, Eq.trans (World.drewN_drewN _ _ _) (congrArg (World.drewN _) (Nat.add_assoc _ _ _))⟩)) | (go_at_call 76; (with_reducible refine (spec_FpMul.calls 3 t141 t142 _ A12.out).mono ?_); rintro e w' ⟨rfl, ⟨nd, rfl⟩⟩; (try first | exact ⟨rfl, _, World.drewN_drewN _ _ _⟩ | exact ⟨rfl, _, Eq.trans (World.drewN_drewN _ _ _) (congrArg (World.drewN _) (Nat.add_assoc _ _ _))⟩)) | (go_at_call 103; (with_reducible refine (spec_FpAdd.calls t142 1 t143 _ A13.out).mono ?_); rintro e w' ⟨rfl, ⟨nd, rfl⟩⟩; (try first | exact ⟨rfl, _, World.drewN_drewN _ _ _⟩ | exact ⟨rfl, _, Eq.trans (World.drewN_drewN _ _ _) (congrArg (World.drewN _) (Nat.add_assoc _ _ _))⟩)) | (go_at_call 76; (with_reducible refine (spec_FpMul.calls 2 a0_1 t144 _ A14.out).mono ?_); rintro e w' ⟨rfl, ⟨nd, rfl⟩⟩; (try first | exact ⟨rfl, _, World.drewN_drewN _ _ _⟩ | exact ⟨rfl, _, Eq.trans (World.drewN_drewN _ _ _) (congrArg (World.drewN _) (Nat.add_assoc _ _ _))⟩)) | (go_at_call 104; (with_reducible refine (spec_FpInv.calls k t144 t145 _ A15.out).mono ?_); rintro e w' ⟨rfl, ⟨nd, rfl⟩⟩; (try first | exact ⟨rfl, _, World.drewN_drewN _ _ _⟩ | exact ⟨rfl, _, Eq.trans (World.drewN_drewN _ _ _) (congrArg (World.drewN _) (Nat.add_assoc _ _ _))⟩)) | (go_at_call 76; (with_reducible refine (spec_FpMul.calls t143 t145 t146 _ A16.out).mono ?_); rintro e w' ⟨rfl, ⟨nd, rfl⟩⟩; (try first | exact ⟨rfl, _, World.drewN_drewN _ _ _⟩ | exact ⟨rfl, _, Eq.trans (World.drewN_drewN _ _ _) (congrArg (World.drewN _) (Nat.add_assoc _ _ _))⟩)))
   repeat (go_quiet (first | ((with_reducible refine gate_dst (N := 2) rfl ?_); refine box_event ?hg (N := 2) ?hd (cs := #[.int .i64 a0_0, .int .i64 a0_1, .bool a0_2]) (t := 25) ?hr ?_; (case hd => rfl); (case hg => rfl); (case hr => first | (go_simp; done) | (go_simp; rfl)); intro gb134 hg w17 hbox hb; have BK134 := Aside0.mk (hbox); have GW134 := bG HB hg; have GE134 := bG HB hg; replace HB := bS HB hb; clear hb hbox hg) | ((with_reducible refine gate_dst (N := 3) rfl ?_); refine box_event ?hg (N := 3) ?hd (cs := #[.int .i64 a1_0, .int .i64 a1_1, .bool a1_2]) (t := 25) ?hr ?_; (case hd => rfl); (case hg => rfl); (case hr => first | (go_simp; done) | (go_simp; rfl)); intro gb135 hg w18 hbox hb; have BK135 := Aside0.mk (hbox); have GW135 := bG HB hg; have GE135 := bG HB hg; replace HB := bS HB hb; have NB134_135 := bL BK134 hg; have NB135_134 := bR BK134 hg; replace BK134 := bB BK134 hb; clear hb hbox hg; have hnb19 := NB134_135.out; have hnc19 := NB135_134.out; have hcz20_0 : w18.cell? ⟨gb134, 0, none⟩ = some (.int .i64 a0_0) := bc BK134 0; have hcz20_1 : w18.cell? ⟨gb134, 1, none⟩ = some (.int .i64 a0_1) := bc BK134 1; have hcz20_2 : w18.cell? ⟨gb134, 2, none⟩ = some (.bool a0_2) := bc BK134 2; have hfz20_0 := blk_frozen BK134.out 0; have hfz20_1 := blk_frozen BK134.out 1; have hfz20_2 := blk_frozen BK134.out 2; have hcz21_0 : w18.cell? ⟨gb135, 0, none⟩ = some (.int .i64 a1_0) := bc BK135 0; have hcz21_1 : w18.cell? ⟨gb135, 1, none⟩ = some (.int .i64 a1_1) := bc BK135 1; have hcz21_2 : w18.cell? ⟨gb135, 2, none⟩ = some (.bool a1_2) := bc BK135 2; have hfz21_0 := blk_frozen BK135.out 0; have hfz21_1 := blk_frozen BK135.out 1; have hfz21_2 := blk_frozen BK135.out 2) | (go_at_call 103; (with_reducible refine (spec_FpAdd.calls a0_1 a1_1 t140 _ A4.out).mono ?_); rintro e w' ⟨rfl, ⟨nd, rfl⟩⟩; (try first | exact ⟨rfl, _, World.drewN_drewN _ _ _⟩ | exact ⟨rfl, _, Eq.trans (World.drewN_drewN _ _ _) (congrArg (World.drewN _) (Nat.add_assoc _ _ _))⟩)) | (go_at_call 76; (with_reducible refine (spec_FpMul.calls a0_0 a0_0 t141 _ A11.out).mono ?_); rintro e w' ⟨rfl, ⟨nd, rfl⟩⟩; (try first | exact ⟨rfl, _, World.drewN_drewN _ _ _⟩ | exact ⟨rfl, _, Eq.trans (World.drewN_drewN _ _ _) (congrArg (World.drewN _) (Nat.add_assoc _ _ _))⟩)) | (go_at_call 76; (with_reducible refine (spec_FpMul.calls 3 t141 t142 _ A12.out).mono ?_); rintro e w' ⟨rfl, ⟨nd, rfl⟩⟩; (try first | exact ⟨rfl, _, World.drewN_drewN _ _ _⟩ | exact ⟨rfl, _, Eq.trans (World.drewN_drewN _ _ _) (congrArg (World.drewN _) (Nat.add_assoc _ _ _))⟩)) | (go_at_call 103; (with_reducible refine (spec_FpAdd.calls t142 1 t143 _ A13.out).mono ?_); rintro e w' ⟨rfl, ⟨nd, rfl⟩⟩; (try first | exact ⟨rfl, _, World.drewN_drewN _ _ _⟩ | exact ⟨rfl, _, Eq.trans (World.drewN_drewN _ _ _) (congrArg (World.drewN _) (Nat.add_assoc _ _ _))⟩)) | (go_at_call 76; (with_reducible refine (spec_FpMul.calls 2 a0_1 t144 _ A14.out).mono ?_); rintro e w' ⟨rfl, ⟨nd, rfl⟩⟩; (try first | exact ⟨rfl, _, World.drewN_drewN _ _ _⟩ | exact ⟨rfl, _, Eq.trans (World.drewN_drewN _ _ _) (congrArg (World.drewN _) (Nat.add_assoc _ _ _))⟩)) | (go_at_call 104; (with_reducible refine (spec_FpInv.calls k t144 t145 _ A15.out).mono ?_); rintro e w' ⟨rfl, ⟨nd, rfl⟩⟩; (try first | exact ⟨rfl, _, World.drewN_drewN _ _ _⟩ | exact ⟨rfl, _, Eq.trans (World.drewN_drewN _ _ _) (congrArg (World.drewN _) (Nat.add_assoc _ _ _))⟩)) | (go_at_call 76; (with_reducible refine (spec_FpMul.calls t143 t145 t146 _ A16.out).mono ?_); rintro e w' ⟨rfl, ⟨nd, rfl⟩⟩; (try first | exact ⟨rfl, _, World.drewN_drewN _ _ _⟩ | exact ⟨rfl, _, Eq.trans (World.drewN_drewN _ _ _) (congrArg (World.drewN _) (Nat.add_assoc _ _ _))⟩))); try go_wp2_with (first | ((with_reducible refine gate_dst (N := 2) rfl ?_); refine box_event ?hg (N := 2) ?hd (cs := #[.int .i64 a0_0, .int .i64 a0_1, .bool a0_2]) (t := 25) ?hr ?_; (case hd => rfl); (case hg => rfl); (case hr => first | (go_simp; done) | (go_simp; rfl)); intro gb134 hg w17 hbox hb; have BK134 := Aside0.mk (hbox); have GW134 := bG HB hg; have GE134 := bG HB hg; replace HB := bS HB hb; clear hb hbox hg) | ((with_reducible refine gate_dst (N := 3) rfl ?_); refine box_event ?hg (N := 3) ?hd (cs := #[.int .i64 a1_0, .int .i64 a1_1, .bool a1_2]) (t := 25) ?hr ?_; (case hd => rfl); (case hg => rfl); (case hr => first | (go_simp; done) | (go_simp; rfl)); intro gb135 hg w18 hbox hb; have BK135 := Aside0.mk (hbox); have GW135 := bG HB hg; have GE135 := bG HB hg; replace HB := bS HB hb; have NB134_135 := bL BK134 hg; have NB135_134 := bR BK134 hg; replace BK134 := bB BK134 hb; clear hb hbox hg; have hnb19 := NB134_135.out; have hnc19 := NB135_134.out; have hcz20_0 : w18.cell? ⟨gb134, 0, none⟩ = some (.int .i64 a0_0) := bc BK134 0; have hcz20_1 : w18.cell? ⟨gb134, 1, none⟩ = some (.int .i64 a0_1) := bc BK134 1; have hcz20_2 : w18.cell? ⟨gb134, 2, none⟩ = some (.bool a0_2) := bc BK134 2; have hfz20_0 := blk_frozen BK134.out 0; have hfz20_1 := blk_frozen BK134.out 1; have hfz20_2 := blk_frozen BK134.out 2; have hcz21_0 : w18.cell? ⟨gb135, 0, none⟩ = some (.int .i64 a1_0) := bc BK135 0; have hcz21_1 : w18.cell? ⟨gb135, 1, none⟩ = some (.int .i64 a1_1) := bc BK135 1; have hcz21_2 : w18.cell? ⟨gb135, 2, none⟩ = some (.bool a1_2) := bc BK135 2; have hfz21_0 := blk_frozen BK135.out 0; have hfz21_1 := blk_frozen BK135.out 1; have hfz21_2 := blk_frozen BK135.out 2) | (go_at_call 103; (with_reducible refine (spec_FpAdd.calls a0_1 a1_1 t140 _ A4.out).mono ?_); rintro e w' ⟨rfl, ⟨nd, rfl⟩⟩; (try first | exact ⟨rfl, _, World.drewN_drewN _ _ _⟩ | exact ⟨rfl, _, Eq.trans (World.drewN_drewN _ _ _) (congrArg (World.drewN _) (Nat.add_assoc _ _ _))⟩)) | (go_at_call 76; (with_reducible refine (spec_FpMul.calls a0_0 a0_0 t141 _ A11.out).mono ?_); rintro e w' ⟨rfl, ⟨nd, rfl⟩⟩; (try first | exact ⟨rfl, _, World.drewN_drewN _ _ _⟩ | exact ⟨rfl, _, Eq.trans (World.drewN_drewN _ _ _) (congrArg (World.drewN _) (Nat.add_assoc _ _ _))⟩)) | (go_at_call 76; (with_reducible refine (spec_FpMul.calls 3 t141 t142 _ A12.out).mono ?_); rintro e w' ⟨rfl, ⟨nd, rfl⟩⟩; (try first | exact ⟨rfl, _, World.drewN_drewN _ _ _⟩ | exact ⟨rfl, _, Eq.trans (World.drewN_drewN _ _ _) (congrArg (World.drewN _) (Nat.add_assoc _ _ _))⟩)) | (go_at_call 103; (with_reducible refine (spec_FpAdd.calls t142 1 t143 _ A13.out).mono ?_); rintro e w' ⟨rfl, ⟨nd, rfl⟩⟩; (try first | exact ⟨rfl, _, World.drewN_drewN _ _ _⟩ | exact ⟨rfl, _, Eq.trans (World.drewN_drewN _ _ _) (congrArg (World.drewN _) (Nat.add_assoc _ _ _))⟩)) | (go_at_call 76; (with_reducible refine (spec_FpMul.calls 2 a0_1 t144 _ A14.out).mono ?_); rintro e w' ⟨rfl, ⟨nd, rfl⟩⟩; (try first | exact ⟨rfl, _, World.drewN_drewN _ _ _⟩ | exact ⟨rfl, _, Eq.trans (World.drewN_drewN _ _ _) (congrArg (World.drewN _) (Nat.add_assoc _ _ _))⟩)) | (go_at_call 104; (with_reducible refine (spec_FpInv.calls k t144 t145 _ A15.out).mono ?_); rintro e w' ⟨rfl, ⟨nd, rfl⟩⟩; (try first | exact ⟨rfl, _, World.drewN_drewN _ _ _⟩ | exact ⟨rfl, _, Eq.trans (World.drewN_drewN _ _ _) (congrArg (World.drewN _) (Nat.add_assoc _ _ _))⟩)) | (go_at_call 76; (with_reducible refine (spec_FpMul.calls t143 t145 t146 _ A16.out).mono ?_); rintro e w' ⟨rfl, ⟨nd, rfl⟩⟩; (try first | exact ⟨rfl, _, World.drewN_drewN _ _ _⟩ | exact ⟨rfl, _, Eq.trans (World.drewN_drewN _ _ _) (congrArg (World.drewN _) (Nat.add_assoc _ _ _))⟩))))
   go_ret2
   exact ⟨by first | rfl | (simp [errW_none, errW_some] <;> rfl) | (simp [*, errW_none, errW_some] <;> rfl), bZ HB⟩
 ·rw [if_neg c3] at H
  have c3b0 : (a0_0 == a1_0) = false := beq_eq_false_iff_ne.mpr c3
  have c3b1 : (a0_0 != a1_0) = true := bne_iff_ne.mpr c3
  replace H := Option.bind_eq_some_iff.mp H
  obtain ⟨t136, A220, H⟩ := H
  replace H : ((spec_FpSub.f a1_0 a0_0).bind fun t137 => ((spec_FpInv.f k t137).bind fun t138 => ((spec_FpMul.f t136 t138).bind fun t139 => (some (t139, true))))) = some (r1, r2) := H
  have A22 := Aside0.mk A220
  clear A220
  replace H := Option.bind_eq_some_iff.mp H
  obtain ⟨t137, A230, H⟩ := H
  replace H : ((spec_FpInv.f k t137).bind fun t138 => ((spec_FpMul.f t136 t138).bind fun t139 => (some (t139, true)))) = some (r1, r2) := H
  have A23 := Aside0.mk A230
  clear A230
  replace H := Option.bind_eq_some_iff.mp H
  obtain ⟨t138, A240, H⟩ := H
  replace H : ((spec_FpMul.f t136 t138).bind fun t139 => (some (t139, true))) = some (r1, r2) := H
  have A24 := Aside0.mk A240
  clear A240
  replace H := Option.bind_eq_some_iff.mp H
  obtain ⟨t139, A250, H⟩ := H
  replace H : (some (t139, true)) = some (r1, r2) := H
  have A25 := Aside0.mk A250
  clear A250
  simp only [Option.some.injEq, Prod.mk.injEq] at H
  obtain ⟨rfl, rfl⟩ := H
  go_enter Try.func74, Try.ntmps74
  go_wp2_with (first | ((with_reducible refine gate_dst (N := 2) rfl ?_); refine box_event ?hg (N := 2) ?hd (cs := #[.int .i64 a0_0, .int .i64 a0_1, .bool a0_2]) (t := 25) ?hr ?_; (case hd => rfl); (case hg => rfl); (case hr => first | (go_simp; done) | (go_simp; rfl)); intro gb134 hg w26 hbox hb; have BK134 := Aside0.mk (hbox); have GW134 := bG HB hg; have GE134 := bG HB hg; replace HB := bS HB hb; clear hb hbox hg) | ((with_reducible refine gate_dst (N := 3) rfl ?_); refine box_event ?hg (N := 3) ?hd (cs := #[.int .i64 a1_0, .int .i64 a1_1, .bool a1_2]) (t := 25) ?hr ?_; (case hd => rfl); (case hg => rfl); (case hr => first | (go_simp; done) | (go_simp; rfl)); intro gb135 hg w27 hbox hb; have BK135 := Aside0.mk (hbox); have GW135 := bG HB hg; have GE135 := bG HB hg; replace HB := bS HB hb; have NB134_135 := bL BK134 hg; have NB135_134 := bR BK134 hg; replace BK134 := bB BK134 hb; clear hb hbox hg; have hnb28 := NB134_135.out; have hnc28 := NB135_134.out; have hcz29_0 : w27.cell? ⟨gb134, 0, none⟩ = some (.int .i64 a0_0) := bc BK134 0; have hcz29_1 : w27.cell? ⟨gb134, 1, none⟩ = some (.int .i64 a0_1) := bc BK134 1; have hcz29_2 : w27.cell? ⟨gb134, 2, none⟩ = some (.bool a0_2) := bc BK134 2; have hfz29_0 := blk_frozen BK134.out 0; have hfz29_1 := blk_frozen BK134.out 1; have hfz29_2 := blk_frozen BK134.out 2; have hcz30_0 : w27.cell? ⟨gb135, 0, none⟩ = some (.int .i64 a1_0) := bc BK135 0; have hcz30_1 : w27.cell? ⟨gb135, 1, none⟩ = some (.int .i64 a1_1) := bc BK135 1; have hcz30_2 : w27.cell? ⟨gb135, 2, none⟩ = some (.bool a1_2) := bc BK135 2; have hfz30_0 := blk_frozen BK135.out 0; have hfz30_1 := blk_frozen BK135.out 1; have hfz30_2 := blk_frozen BK135.out 2) | (go_at_call 75; (with_reducible refine (spec_FpSub.calls a1_1 a0_1 t136 _ A22.out).mono ?_); rintro e w' ⟨rfl, ⟨nd, rfl⟩⟩; (try first | exact ⟨rfl, _, World.drewN_drewN _ _ _⟩ | exact ⟨rfl, _, Eq.trans (World.drewN_drewN _ _ _) (congrArg (World.drewN _) (Nat.add_assoc _ _ _))⟩)) | (go_at_call 75; (with_reducible refine (spec_FpSub.calls a1_0 a0_0 t137 _ A23.out).mono ?_); rintro e w' ⟨rfl, ⟨nd, rfl⟩⟩; (try first | exact ⟨rfl, _, World.drewN_drewN _ _ _⟩ | exact ⟨rfl, _, Eq.trans (World.drewN_drewN _ _ _) (congrArg (World.drewN _) (Nat.add_assoc _ _ _))⟩)) | (go_at_call 104; (with_reducible refine (spec_FpInv.calls k t137 t138 _ A24.out).mono ?_); rintro e w' ⟨rfl, ⟨nd, rfl⟩⟩; (try first | exact ⟨rfl, _, World.drewN_drewN _ _ _⟩ | exact ⟨rfl, _, Eq.trans (World.drewN_drewN _ _ _) (congrArg (World.drewN _) (Nat.add_assoc _ _ _))⟩)) | (go_at_call 76; (with_reducible refine (spec_FpMul.calls t136 t138 t139 _ A25.out).mono ?_); rintro e w' ⟨rfl, ⟨nd, rfl⟩⟩; (try first | exact ⟨rfl, _, World.drewN_drewN _ _ _⟩ | exact ⟨rfl, _, Eq.trans (World.drewN_drewN _ _ _) (congrArg (World.drewN _) (Nat.add_assoc _ _ _))⟩)))
  repeat (go_quiet (first | ((with_reducible refine gate_dst (N := 2) rfl ?_); refine box_event ?hg (N := 2) ?hd (cs := #[.int .i64 a0_0, .int .i64 a0_1, .bool a0_2]) (t := 25) ?hr ?_; (case hd => rfl); (case hg => rfl); (case hr => first | (go_simp; done) | (go_simp; rfl)); intro gb134 hg w26 hbox hb; have BK134 := Aside0.mk (hbox); have GW134 := bG HB hg; have GE134 := bG HB hg; replace HB := bS HB hb; clear hb hbox hg) | ((with_reducible refine gate_dst (N := 3) rfl ?_); refine box_event ?hg (N := 3) ?hd (cs := #[.int .i64 a1_0, .int .i64 a1_1, .bool a1_2]) (t := 25) ?hr ?_; (case hd => rfl); (case hg => rfl); (case hr => first | (go_simp; done) | (go_simp; rfl)); intro gb135 hg w27 hbox hb; have BK135 := Aside0.mk (hbox); have GW135 := bG HB hg; have GE135 := bG HB hg; replace HB := bS HB hb; have NB134_135 := bL BK134 hg; have NB135_134 := bR BK134 hg; replace BK134 := bB BK134 hb; clear hb hbox hg; have hnb28 := NB134_135.out; have hnc28 := NB135_134.out; have hcz29_0 : w27.cell? ⟨gb134, 0, none⟩ = some (.int .i64 a0_0) := bc BK134 0; have hcz29_1 : w27.cell? ⟨gb134, 1, none⟩ = some (.int .i64 a0_1) := bc BK134 1; have hcz29_2 : w27.cell? ⟨gb134, 2, none⟩ = some (.bool a0_2) := bc BK134 2; have hfz29_0 := blk_frozen BK134.out 0; have hfz29_1 := blk_frozen BK134.out 1; have hfz29_2 := blk_frozen BK134.out 2; have hcz30_0 : w27.cell? ⟨gb135, 0, none⟩ = some (.int .i64 a1_0) := bc BK135 0; have hcz30_1 : w27.cell? ⟨gb135, 1, none⟩ = some (.int .i64 a1_1) := bc BK135 1; have hcz30_2 : w27.cell? ⟨gb135, 2, none⟩ = some (.bool a1_2) := bc BK135 2; have hfz30_0 := blk_frozen BK135.out 0; have hfz30_1 := blk_frozen BK135.out 1; have hfz30_2 := blk_frozen BK135.out 2) | (go_at_call 75; (with_reducible refine (spec_FpSub.calls a1_1 a0_1 t136 _ A22.out).mono ?_); rintro e w' ⟨rfl, ⟨nd, rfl⟩⟩; (try first | exact ⟨rfl, _, World.drewN_drewN _ _ _⟩ | exact ⟨rfl, _, Eq.trans (World.drewN_drewN _ _ _) (congrArg (World.drewN _) (Nat.add_assoc _ _ _))⟩)) | (go_at_call 75; (with_reducible refine (spec_FpSub.calls a1_0 a0_0 t137 _ A23.out).mono ?_); rintro e w' ⟨rfl, ⟨nd, rfl⟩⟩; (try first | exact ⟨rfl, _, World.drewN_drewN _ _ _⟩ | exact ⟨rfl, _, Eq.trans (World.drewN_drewN _ _ _) (congrArg (World.drewN _) (Nat.add_assoc _ _ _))⟩)) | (go_at_call 104; (with_reducible refine (spec_FpInv.calls k t137 t138 _ A24.out).mono ?_); rintro e w' ⟨rfl, ⟨nd, rfl⟩⟩; (try first | exact ⟨rfl, _, World.drewN_drewN _ _ _⟩ | exact ⟨rfl, _, Eq.trans (World.drewN_drewN _ _ _) (congrArg (World.drewN _) (Nat.add_assoc _ _ _))⟩)) | (go_at_call 76; (with_reducible refine (spec_FpMul.calls t136 t138 t139 _ A25.out).mono ?_); rintro e w' ⟨rfl, ⟨nd, rfl⟩⟩; (try first | exact ⟨rfl, _, World.drewN_drewN _ _ _⟩ | exact ⟨rfl, _, Eq.trans (World.drewN_drewN _ _ _) (congrArg (World.drewN _) (Nat.add_assoc _ _ _))⟩))); try go_wp2_with (first | ((with_reducible refine gate_dst (N := 2) rfl ?_); refine box_event ?hg (N := 2) ?hd (cs := #[.int .i64 a0_0, .int .i64 a0_1, .bool a0_2]) (t := 25) ?hr ?_; (case hd => rfl); (case hg => rfl); (case hr => first | (go_simp; done) | (go_simp; rfl)); intro gb134 hg w26 hbox hb; have BK134 := Aside0.mk (hbox); have GW134 := bG HB hg; have GE134 := bG HB hg; replace HB := bS HB hb; clear hb hbox hg) | ((with_reducible refine gate_dst (N := 3) rfl ?_); refine box_event ?hg (N := 3) ?hd (cs := #[.int .i64 a1_0, .int .i64 a1_1, .bool a1_2]) (t := 25) ?hr ?_; (case hd => rfl); (case hg => rfl); (case hr => first | (go_simp; done) | (go_simp; rfl)); intro gb135 hg w27 hbox hb; have BK135 := Aside0.mk (hbox); have GW135 := bG HB hg; have GE135 := bG HB hg; replace HB := bS HB hb; have NB134_135 := bL BK134 hg; have NB135_134 := bR BK134 hg; replace BK134 := bB BK134 hb; clear hb hbox hg; have hnb28 := NB134_135.out; have hnc28 := NB135_134.out; have hcz29_0 : w27.cell? ⟨gb134, 0, none⟩ = some (.int .i64 a0_0) := bc BK134 0; have hcz29_1 : w27.cell? ⟨gb134, 1, none⟩ = some (.int .i64 a0_1) := bc BK134 1; have hcz29_2 : w27.cell? ⟨gb134, 2, none⟩ = some (.bool a0_2) := bc BK134 2; have hfz29_0 := blk_frozen BK134.out 0; have hfz29_1 := blk_frozen BK134.out 1; have hfz29_2 := blk_frozen BK134.out 2; have hcz30_0 : w27.cell? ⟨gb135, 0, none⟩ = some (.int .i64 a1_0) := bc BK135 0; have hcz30_1 : w27.cell? ⟨gb135, 1, none⟩ = some (.int .i64 a1_1) := bc BK135 1; have hcz30_2 : w27.cell? ⟨gb135, 2, none⟩ = some (.bool a1_2) := bc BK135 2; have hfz30_0 := blk_frozen BK135.out 0; have hfz30_1 := blk_frozen BK135.out 1; have hfz30_2 := blk_frozen BK135.out 2) | (go_at_call 75; (with_reducible refine (spec_FpSub.calls a1_1 a0_1 t136 _ A22.out).mono ?_); rintro e w' ⟨rfl, ⟨nd, rfl⟩⟩; (try first | exact ⟨rfl, _, World.drewN_drewN _ _ _⟩ | exact ⟨rfl, _, Eq.trans (World.drewN_drewN _ _ _) (congrArg (World.drewN _) (Nat.add_assoc _ _ _))⟩)) | (go_at_call 75; (with_reducible refine (spec_FpSub.calls a1_0 a0_0 t137 _ A23.out).mono ?_); rintro e w' ⟨rfl, ⟨nd, rfl⟩⟩; (try first | exact ⟨rfl, _, World.drewN_drewN _ _ _⟩ | exact ⟨rfl, _, Eq.trans (World.drewN_drewN _ _ _) (congrArg (World.drewN _) (Nat.add_assoc _ _ _))⟩)) | (go_at_call 104; (with_reducible refine (spec_FpInv.calls k t137 t138 _ A24.out).mono ?_); rintro e w' ⟨rfl, ⟨nd, rfl⟩⟩; (try first | exact ⟨rfl, _, World.drewN_drewN _ _ _⟩ | exact ⟨rfl, _, Eq.trans (World.drewN_drewN _ _ _) (congrArg (World.drewN _) (Nat.add_assoc _ _ _))⟩)) | (go_at_call 76; (with_reducible refine (spec_FpMul.calls t136 t138 t139 _ A25.out).mono ?_); rintro e w' ⟨rfl, ⟨nd, rfl⟩⟩; (try first | exact ⟨rfl, _, World.drewN_drewN _ _ _⟩ | exact ⟨rfl, _, Eq.trans (World.drewN_drewN _ _ _) (congrArg (World.drewN _) (Nat.add_assoc _ _ _))⟩))))
  go_ret2
  exact ⟨by first | rfl | (simp [errW_none, errW_some] <;> rfl) | (simp [*, errW_none, errW_some] <;> rfl), bZ HB⟩
end Go.Proofs.Ytmbjefdkjdemhaa.Pf
end
