/- What is proved here: part 4 of 5 of the proof of the given statement FnExactReadCommittee: the contracts of the Go functions that it reaches, the plain facts on lists and numbers, and (in the last part) the statement itself. No conditions beyond the given ones. -/
import Derived.Test.YtogcobdgnkiopaaMFnExactReadCommitteewSlim
import Derived.Test.YtogcobdgnkiopaaMFnExactReadCommitteea
import Derived.Test.YtogcobdgnkiopaaMFnExactReadCommitteeb
import Derived.Test.YtogcobdgnkiopaaMFnExactReadCommitteec

section
namespace Go.Proofs.Ytogcobdgnkiopaa.Pf
open Go.RowKit Go.Proofs.YtogcobdgnkiopaaW.PrintWords Go.Proofs.YtogcobdgnkiopaaW.PrintLast Go.Proofs.YtogcobdgnkiopaaW.PrintMore
attribute [local go_sem] max2_int min2_int max_two min_two max_three min_three max_four min_four   -- for this text's walks alone
set_option linter.unusedVariables false
set_option linter.unusedSimpArgs false
/-! ### impl_ReadPoint: function 43 -/
def impl_ReadPoint.f (k : Nat) (a0 : ByteArray) : Option (Int × Int × Bool × Bool) := if (a0.size : Int) = 3 then (if 0 < (a0.size : Int) then (if 1 < (a0.size : Int) then (if (wrap64 ((wrap64 ((wrap64 ((wrap64 (bt a0 0)) * 256)) + (wrap64 (bt a0 1)))) - 1)) < 0 then ((impl_PointText.f 0 0 true).bind fun t558 => (if t558.toList = a0.toList then (some (0, 0, true, true)) else (some (0, 0, false, false)))) else ((impl_curveAt.f (wrap64 ((wrap64 ((wrap64 ((wrap64 (bt a0 0)) * 256)) + (wrap64 (bt a0 1)))) - 1))).bind fun t559 => ((impl_FpRoot.f k t559).bind fun bt560 => (if 2 < (a0.size : Int) then (if (Int.tmod bt560.1 2) = (wrap64 (bt a0 2)) then ((impl_PointText.f (wrap64 ((wrap64 ((wrap64 ((wrap64 (bt a0 0)) * 256)) + (wrap64 (bt a0 1)))) - 1)) bt560.1 false).bind fun t562 => (if t562.toList = a0.toList then (some (wrap64 ((wrap64 ((wrap64 ((wrap64 (bt a0 0)) * 256)) + (wrap64 (bt a0 1)))) - 1), bt560.1, false, true)) else (some (0, 0, false, false)))) else ((impl_PointNeg.f (wrap64 ((wrap64 ((wrap64 ((wrap64 (bt a0 0)) * 256)) + (wrap64 (bt a0 1)))) - 1)) bt560.1 false).bind fun bt563 => ((impl_PointText.f bt563.1 bt563.2.1 bt563.2.2).bind fun t566 => (if t566.toList = a0.toList then (some (bt563.1, bt563.2.1, bt563.2.2, true)) else (some (0, 0, false, false)))))) else (none))))) else (none)) else (none)) else (some (0, 0, false, false))
theorem impl_ReadPoint.mono : ∀ a0 k, LeO (impl_ReadPoint.f k a0) (impl_ReadPoint.f (k + 1) a0) := by
 intro a0 k
 unfold impl_ReadPoint.f
 repeat' first
   | (with_reducible exact impl_FpRoot.mono _ _)
   | (with_reducible exact LeO.refl _)
   | (with_reducible exact LeO.none _)
   | (with_reducible refine LeO.ite ?_ ?_)
   | (with_reducible refine LeO.bind ?_ (fun _ => ?_))
   | exact impl_FpRoot.mono _ _
   | exact LeO.none _
   | refine LeO.ite ?_ ?_
   | refine LeO.bind ?_ (fun _ => ?_)
def impl_ReadPoint.T3 : Bool × List (List Nat × List Nat) := (true, [([], []), ([0], [0]), ([1], [1]), ([2], [2]), ([], []), ([4], [4]), ([5], [5]), ([3, 6], [3, 6]), ([7], [7]), ([8], [8]), ([], []), ([10, 9, 0, 1, 2, 3, 4, 5, 6, 7, 8, 9, 10], [9, 10])])
def impl_ReadPoint.B3 : List Nat := [0, 1, 3, 7, 0, 16, 48, 127, 255, 511, 0, 2047]
theorem impl_ReadPoint.tab3 : rtab .any (opsOf Try.f43 3) = impl_ReadPoint.T3 := by kernel_rfl
theorem impl_ReadPoint.bits3 : waitsOk impl_ReadPoint.T3.2 impl_ReadPoint.B3 = true := by kernel_rfl
set_option maxHeartbeats 8000000 in
set_option maxRecDepth 100000 in
theorem impl_ReadPoint.calls (k : Nat) (a0 : ByteArray) (r1 : Int) (r2 : Int) (r3 : Bool) (r4 : Bool) (w : World) (h : impl_ReadPoint.f k a0 = some (r1, r2, r3, r4)) :
  Calls Try.prog 43 #[.string a0] w fun e w' => e = .returned (.tuple #[.agg #[.int .i64 r1, .int .i64 r2, .bool r3], .bool r4]) ∧ Below w.heap.size w w' := by
 have hu48 := Try.underlying48
 have HB := Aside0.mk (Below.refl w.heap.size w)
 have H : (if (a0.size : Int) = 3 then (if 0 < (a0.size : Int) then (if 1 < (a0.size : Int) then (if (wrap64 ((wrap64 ((wrap64 ((wrap64 (bt a0 0)) * 256)) + (wrap64 (bt a0 1)))) - 1)) < 0 then ((impl_PointText.f 0 0 true).bind fun t558 => (if t558.toList = a0.toList then (some (0, 0, true, true)) else (some (0, 0, false, false)))) else ((impl_curveAt.f (wrap64 ((wrap64 ((wrap64 ((wrap64 (bt a0 0)) * 256)) + (wrap64 (bt a0 1)))) - 1))).bind fun t559 => ((impl_FpRoot.f k t559).bind fun bt560 => (if 2 < (a0.size : Int) then (if (Int.tmod bt560.1 2) = (wrap64 (bt a0 2)) then ((impl_PointText.f (wrap64 ((wrap64 ((wrap64 ((wrap64 (bt a0 0)) * 256)) + (wrap64 (bt a0 1)))) - 1)) bt560.1 false).bind fun t562 => (if t562.toList = a0.toList then (some (wrap64 ((wrap64 ((wrap64 ((wrap64 (bt a0 0)) * 256)) + (wrap64 (bt a0 1)))) - 1), bt560.1, false, true)) else (some (0, 0, false, false)))) else ((impl_PointNeg.f (wrap64 ((wrap64 ((wrap64 ((wrap64 (bt a0 0)) * 256)) + (wrap64 (bt a0 1)))) - 1)) bt560.1 false).bind fun bt563 => ((impl_PointText.f bt563.1 bt563.2.1 bt563.2.2).bind fun t566 => (if t566.toList = a0.toList then (some (bt563.1, bt563.2.1, bt563.2.2, true)) else (some (0, 0, false, false)))))) else (none))))) else (none)) else (none)) else (some (0, 0, false, false))) = some (r1, r2, r3, r4) := h
 clear h
 by_cases c2 : (a0.size : Int) = 3
 ·rw [if_pos c2] at H
  have c2b0 : ((a0.size : Int) == 3) = true := beq_iff_eq.mpr c2
  have c2b1 : ((a0.size : Int) != 3) = false := bne_eq_false_iff_eq.mpr c2
  clear c2
  by_cases c3 : 0 < (a0.size : Int)
  ·rw [if_pos c3] at H
   have c3b0 : decide (0 < (a0.size : Int)) = true := decide_eq_true c3
   have c3b1 : decide (0 < a0.size) = true := decide_eq_true (by omega)
   clear c3
   by_cases c5 : 1 < (a0.size : Int)
   ·rw [if_pos c5] at H
    have c5b0 : decide (1 < (a0.size : Int)) = true := decide_eq_true c5
    have c5b1 : decide (1 < a0.size) = true := decide_eq_true (by omega)
    clear c5
    by_cases c7 : (wrap64 ((wrap64 ((wrap64 ((wrap64 (bt a0 0)) * 256)) + (wrap64 (bt a0 1)))) - 1)) < 0
    ·rw [if_pos c7] at H
     have c7b0 : decide ((wrap64 ((wrap64 ((wrap64 ((wrap64 (bt a0 0)) * 256)) + (wrap64 (bt a0 1)))) - 1)) < 0) = true := decide_eq_true c7
     clear c7
     replace H := Option.bind_eq_some_iff.mp H
     obtain ⟨t558, A80, H⟩ := H
     replace H : (if t558.toList = a0.toList then (some (0, 0, true, true)) else (some (0, 0, false, false))) = some (r1, r2, r3, r4) := H
     have A8 := Aside0.mk A80
     clear A80
     by_cases c9 : t558.toList = a0.toList
     ·rw [if_pos c9] at H
      have c9b0 : (t558.toList == a0.toList) = true := beq_iff_eq.mpr c9
      have c9b1 : (t558.toList != a0.toList) = false := bne_eq_false_iff_eq.mpr c9
      clear c9
      simp only [Option.some.injEq, Prod.mk.injEq] at H
      obtain ⟨rfl, rfl, rfl, rfl⟩ := H
      go_enter Try.func43, Try.ntmps43
      try go_wp2_with (first | ((with_reducible refine gate_dst (N := 2) rfl ?_); refine box_event ?hg (N := 2) ?hd (cs := #[.int .i64 0, .int .i64 0, .bool false]) (t := 48) ?hr ?_; (case hd => rfl); (case hg => rfl); (case hr => first | (go_simp; done) | (go_simp; rfl)); intro gb556 hg w10 hbox hb; have BK556 := Aside0.mk (hbox); have GW556 := bG HB hg; have GE556 := bG HB hg; replace HB := bS HB hb; clear hb hbox hg))
      replace BK556 := Aside0.mk (blk_drew BK556.out)
      replace HB := Aside0.mk (below_drew1 HB.out)
      have p4 : 0 ≤ (0 : Int) := (by omega)
      have q4 : 0 < a0.size := (by have : (0 : Int) < (a0.size : Int) := of_decide_eq_true (by first | (with_reducible assumption) | assumption); omega)
      have hx4 : ∀ h : 0 < a0.size, ((a0[0]'h).toNat : Int) = bt a0 0 := bt_at a0 0
      clear p4
      have qi4 : (0 < (a0.size : Int)) = True := eq_true (of_decide_eq_true (by first | (with_reducible assumption) | assumption))
      replace q4 := eq_true q4
      have p6 : 0 ≤ (1 : Int) := (by omega)
      have q6 : 1 < a0.size := (by have : (1 : Int) < (a0.size : Int) := of_decide_eq_true (by first | (with_reducible assumption) | assumption); omega)
      have hx6 : ∀ h : 1 < a0.size, ((a0[1]'h).toNat : Int) = bt a0 1 := bt_at a0 1
      clear p6
      have qi6 : (1 < (a0.size : Int)) = True := eq_true (of_decide_eq_true (by first | (with_reducible assumption) | assumption))
      replace q6 := eq_true q6
      refine start_ (n := 12) (S := fun w' => True) (ds := []) #[false, false, false, false, false, false, false, false, false, false, false, false] (by kernel_rfl) rfl rfl trivial (fun hHeld => ?_); refine with_tabW impl_ReadPoint.tab3 impl_ReadPoint.bits3 (fun HT_ HW_ => ?_)
      generalize w10.drew = w11 at BK556 HB hHeld ⊢
      refine pure_ (i := 0) (N := some 9) (v := ?_) (a' := ?_) #[true, false, false, false, false, false, false, false, false, false, false, false] rfl rfl (any_of HT_.out (by kernel_rfl)) (fun _ _ _ h => h) (Or.inl ⟨by rfl, ?_⟩) ?_ ?_
      rotate_left
      ·intro w'
       go_simp
       with_reducible rfl
      rotate_left
      ·simp only [Act.put, List.setIfInBounds_toArray, List.set_cons_zero, List.set_cons_succ, i64_w, i32_w]
       rfl
      refine pure_ (i := 4) (N := some 13) (v := ?_) (a' := ?_) #[true, false, false, false, true, false, false, false, false, false, false, false] rfl rfl (any_of HT_.out (by kernel_rfl)) (fun _ _ _ h => h) (Or.inl ⟨by rfl, ?_⟩) ?_ ?_
      rotate_left
      ·intro w'
       go_simp
       with_reducible rfl
      rotate_left
      ·simp only [Act.put, List.setIfInBounds_toArray, List.set_cons_zero, List.set_cons_succ, i64_w, i32_w]
       rfl
      refine take_ (i := 1) (N := some 10) (v := ?_) (a' := ?_) #[true, true, false, false, true, false, false, false, false, false, false, false] rfl rfl (take_ofW HT_.out HW_.out (by kernel_rfl)) (fun _ _ _ h => h) (Or.inl ⟨by rfl, ?_⟩) hHeld ?_ ?_
      rotate_left
      ·intro w' _
       go_simp
       with_reducible rfl
      rotate_left
      ·simp only [Act.put, List.setIfInBounds_toArray, List.set_cons_zero, List.set_cons_succ, i64_w, i32_w]
       rfl
      refine pure_ (i := 2) (N := some 11) (v := ?_) (a' := ?_) #[true, true, true, false, true, false, false, false, false, false, false, false] rfl rfl (any_of HT_.out (by kernel_rfl)) (fun _ _ _ h => h) (Or.inl ⟨by rfl, ?_⟩) ?_ ?_
      rotate_left
      ·intro w'
       go_simp
       with_reducible rfl
      rotate_left
      ·simp only [Act.put, List.setIfInBounds_toArray, List.set_cons_zero, List.set_cons_succ, i64_w, i32_w]
       rfl
      refine pure_ (i := 3) (N := some 12) (v := ?_) (a' := ?_) #[true, true, true, true, true, false, false, false, false, false, false, false] rfl rfl (any_of HT_.out (by kernel_rfl)) (fun _ _ _ h => h) (Or.inl ⟨by rfl, ?_⟩) ?_ ?_
      rotate_left
      ·intro w'
       go_simp
       with_reducible rfl
      rotate_left
      ·simp only [Act.put, List.setIfInBounds_toArray, List.set_cons_zero, List.set_cons_succ, i64_w, i32_w]
       rfl
      refine take_ (i := 5) (N := some 14) (v := ?_) (a' := ?_) #[true, true, true, true, true, true, false, false, false, false, false, false] rfl rfl (take_ofW HT_.out HW_.out (by kernel_rfl)) (fun _ _ _ h => h) (Or.inl ⟨by rfl, ?_⟩) hHeld ?_ ?_
      rotate_left
      ·intro w' _
       go_simp
       with_reducible rfl
      rotate_left
      ·simp only [Act.put, List.setIfInBounds_toArray, List.set_cons_zero, List.set_cons_succ, i64_w, i32_w]
       rfl
      refine pure_ (i := 6) (N := some 15) (v := ?_) (a' := ?_) #[true, true, true, true, true, true, true, false, false, false, false, false] rfl rfl (any_of HT_.out (by kernel_rfl)) (fun _ _ _ h => h) (Or.inl ⟨by rfl, ?_⟩) ?_ ?_
      rotate_left
      ·intro w'
       go_simp
       with_reducible rfl
      rotate_left
      ·simp only [Act.put, List.setIfInBounds_toArray, List.set_cons_zero, List.set_cons_succ, i64_w, i32_w]
       rfl
      refine pure_ (i := 7) (N := some 16) (v := ?_) (a' := ?_) #[true, true, true, true, true, true, true, true, false, false, false, false] rfl rfl (any_of HT_.out (by kernel_rfl)) (fun _ _ _ h => h) (Or.inl ⟨by rfl, ?_⟩) ?_ ?_
      rotate_left
      ·intro w'
       go_simp
       with_reducible rfl
      rotate_left
      ·simp only [Act.put, List.setIfInBounds_toArray, List.set_cons_zero, List.set_cons_succ, i64_w, i32_w]
       rfl
      refine pure_ (i := 8) (N := some 17) (v := ?_) (a' := ?_) #[true, true, true, true, true, true, true, true, true, false, false, false] rfl rfl (any_of HT_.out (by kernel_rfl)) (fun _ _ _ h => h) (Or.inl ⟨by rfl, ?_⟩) ?_ ?_
      rotate_left
      ·intro w'
       go_simp
       with_reducible rfl
      rotate_left
      ·simp only [Act.put, List.setIfInBounds_toArray, List.set_cons_zero, List.set_cons_succ, i64_w, i32_w]
       rfl
      refine pure_ (i := 9) (N := some 18) (v := ?_) (a' := ?_) #[true, true, true, true, true, true, true, true, true, true, false, false] rfl rfl (any_of HT_.out (by kernel_rfl)) (fun _ _ _ h => h) (Or.inl ⟨by rfl, ?_⟩) ?_ ?_
      rotate_left
      ·intro w'
       go_simp
       with_reducible rfl
      rotate_left
      ·simp only [Act.put, List.setIfInBounds_toArray, List.set_cons_zero, List.set_cons_succ, i64_w, i32_w]
       rfl
      refine one_ (i := 10) (N := some 4) #[true, true, true, true, true, true, true, true, true, true, true, false] rfl rfl (one_of HT_.out (by kernel_rfl)) (by decide) (fun K hK => ?_)
      refine box_step ?hg (N := 4) ?hd (cs := #[.int .i64 0, .int .i64 0, .bool false]) (t := 48) ?hr ?_; (case hd => rfl); (case hg => rfl); (case hr => first | (go_simp; done) | (go_simp; rfl))
      intro gb557 hg w12 hbox hb
      have BK557 := Aside0.mk (hbox)
      have GW557 := bG HB hg
      have GE557 := bG HB hg
      replace HB := bS HB hb
      have NB556_557 := bL BK556 hg
      have NB557_556 := bR BK556 hg
      replace BK556 := bB BK556 hb
      clear hb hbox hg
      refine hK.out _ _ trivial (fun hHeld => ?_)
      clear hK K
      refine norm_ (a' := ?_) ?_ ?_
      rotate_left
      ·show Act.put _ (some 4) _ = _
       simp only [Act.put, List.setIfInBounds_toArray, List.set_cons_zero, List.set_cons_succ, i64_w, i32_w]
       rfl
      refine one_ (i := 11) (N := none) #[true, true, true, true, true, true, true, true, true, true, true, true] rfl rfl (one_of HT_.out (by kernel_rfl)) (by decide) (fun K hK => ?_)
      have hs13 : w12.cell? ⟨gb557, 0, none⟩ = some (.int .i64 0) := bc BK557 0
      have hfs13 := blk_frozen BK557.out 0
      have hns13_0 := NB556_557.out
      have hms13_0 := NB557_556.out
      have hs14 : w12.cell? ⟨gb557, 1, none⟩ = some (.int .i64 0) := bc BK557 1
      have hfs14 := blk_frozen BK557.out 1
      have hns14_0 := NB556_557.out
      have hms14_0 := NB557_556.out
      have hs15 : w12.cell? ⟨gb557, 2, none⟩ = some (.bool false) := bc BK557 2
      have hfs15 := blk_frozen BK557.out 2
      have hns15_0 := NB556_557.out
      have hms15_0 := NB557_556.out
      refine skip_ (w1 := ?_) (by rfl) rfl ?_ ?_
      rotate_left
      ·go_simp
       rfl
      refine hK.out _ _ trivial (fun hHeld => ?_)
      clear hK K
      refine done_ (done_of HT_.out (by kernel_rfl)) ?_
      have hnb16 := NB557_556.out
      have hnc16 := NB556_557.out
      have hcz17_0 : w12.cell? ⟨gb557, 0, none⟩ = some (.int .i64 0) := bc BK557 0
      have hcz17_1 : w12.cell? ⟨gb557, 1, none⟩ = some (.int .i64 0) := bc BK557 1
      have hcz17_2 : w12.cell? ⟨gb557, 2, none⟩ = some (.bool false) := bc BK557 2
      have hfz17_0 := blk_frozen BK557.out 0
      have hfz17_1 := blk_frozen BK557.out 1
      have hfz17_2 := blk_frozen BK557.out 2
      have q1_ : Aside0 ((((w12.setCell ⟨gb557, 0, none⟩ (.int .i64 (wrap64 ((wrap64 ((wrap64 ((wrap64 (bt a0 0)) * 256)) + (wrap64 (bt a0 1)))) - 1)))).setCell ⟨gb557, 1, none⟩ (.int .i64 0)).setCell ⟨gb557, 2, none⟩ (.bool false)).heap[gb557]? = some (.cells #[.int .i64 (wrap64 ((wrap64 ((wrap64 ((wrap64 (bt a0 0)) * 256)) + (wrap64 (bt a0 1)))) - 1)), .int .i64 0, .bool false] 48 (0, 0))) := ⟨by refine blk_put (cs := #[.int .i64 (wrap64 ((wrap64 ((wrap64 ((wrap64 (bt a0 0)) * 256)) + (wrap64 (bt a0 1)))) - 1)), .int .i64 0, .bool false]) ?_ 2 _ rfl; refine blk_put (cs := #[.int .i64 (wrap64 ((wrap64 ((wrap64 ((wrap64 (bt a0 0)) * 256)) + (wrap64 (bt a0 1)))) - 1)), .int .i64 0, .bool false]) ?_ 1 _ rfl; refine blk_put (cs := #[.int .i64 0, .int .i64 0, .bool false]) ?_ 0 _ rfl; exact BK557.out⟩
      have q2_ : Aside0 ((((w12.setCell ⟨gb557, 0, none⟩ (.int .i64 (wrap64 ((wrap64 ((wrap64 ((wrap64 (bt a0 0)) * 256)) + (wrap64 (bt a0 1)))) - 1)))).setCell ⟨gb557, 1, none⟩ (.int .i64 0)).setCell ⟨gb557, 2, none⟩ (.bool false)).heap[gb556]? = some (.cells #[.int .i64 0, .int .i64 0, .bool false] 48 (0, 0))) := ⟨by refine blk_far ?_ NB556_557.out _; refine blk_far ?_ NB556_557.out _; refine blk_far ?_ NB556_557.out _; exact BK556.out⟩
      have q3_ : Aside0 (Below w.heap.size w (((w12.setCell ⟨gb557, 0, none⟩ (.int .i64 (wrap64 ((wrap64 ((wrap64 ((wrap64 (bt a0 0)) * 256)) + (wrap64 (bt a0 1)))) - 1)))).setCell ⟨gb557, 1, none⟩ (.int .i64 0)).setCell ⟨gb557, 2, none⟩ (.bool false))) := ⟨bZ HB⟩
      generalize (((w12.setCell ⟨gb557, 0, none⟩ (.int .i64 (wrap64 ((wrap64 ((wrap64 ((wrap64 (bt a0 0)) * 256)) + (wrap64 (bt a0 1)))) - 1)))).setCell ⟨gb557, 1, none⟩ (.int .i64 0)).setCell ⟨gb557, 2, none⟩ (.bool false)) = wq_ at q1_ q2_ q3_ ⊢
      clear BK557 BK556 HB
      have BK557 := q1_
      have BK556 := q2_
      have HB := q3_
      clear q1_ q2_ q3_
      have hq557_0 : wq_.cell? ⟨gb557, 0, none⟩ = some (.int .i64 (wrap64 ((wrap64 ((wrap64 ((wrap64 (bt a0 0)) * 256)) + (wrap64 (bt a0 1)))) - 1))) := bc BK557 0
      have hr557_0 := blk_frozen BK557.out 0
      have hq557_1 : wq_.cell? ⟨gb557, 1, none⟩ = some (.int .i64 0) := bc BK557 1
      have hr557_1 := blk_frozen BK557.out 1
      have hq557_2 : wq_.cell? ⟨gb557, 2, none⟩ = some (.bool false) := bc BK557 2
      have hr557_2 := blk_frozen BK557.out 2
      have hq556_0 : wq_.cell? ⟨gb556, 0, none⟩ = some (.int .i64 0) := bc BK556 0
      have hr556_0 := blk_frozen BK556.out 0
      have hq556_1 : wq_.cell? ⟨gb556, 1, none⟩ = some (.int .i64 0) := bc BK556 1
      have hr556_1 := blk_frozen BK556.out 1
      have hq556_2 : wq_.cell? ⟨gb556, 2, none⟩ = some (.bool false) := bc BK556 2
      have hr556_2 := blk_frozen BK556.out 2
      try go_wp2_with (first | ((with_reducible refine gate_callee (f := 40) rfl ?_); refine goesL_ (some 41) rfl rfl Try.func40 (by kernel_rfl) rfl #[.agg #[.int .i64 0, .int .i64 0, .bool true]] rfl (by (try simp only [List.map_toArray, List.map_cons, List.map_nil]); first | done | rfl | (simp only [List.length_drop, List.length_take]; rfl)) ?_; (with_reducible refine (impl_PointText.calls 0 0 true t558 _ A8.out).mono ?_); rintro e w18 ⟨rfl, hb⟩; refine ⟨_, rfl, ?_⟩; replace BK556 := bB BK556 hb; replace BK557 := Aside0.mk (blk_below (g := gb557) (o := .cells #[.int .i64 0, .int .i64 0, .bool true] 48 (0, 0)) (by (with_reducible repeat (first | refine blk_drewN ?_ _ | refine blk_drew ?_ | refine blk_alloc ?_ _)); refine blk_put (cs := #[.int .i64 0, .int .i64 0, .bool false]) ?_ 2 _ rfl; (with_reducible repeat (first | refine blk_drewN ?_ _ | refine blk_drew ?_ | refine blk_alloc ?_ _)); refine blk_put (cs := #[.int .i64 0, .int .i64 0, .bool false]) ?_ 1 _ rfl; (with_reducible repeat (first | refine blk_drewN ?_ _ | refine blk_drew ?_ | refine blk_alloc ?_ _)); refine blk_put (cs := #[.int .i64 (wrap64 ((wrap64 ((wrap64 ((wrap64 (bt a0 0)) * 256)) + (wrap64 (bt a0 1)))) - 1)), .int .i64 0, .bool false]) ?_ 0 _ rfl; (with_reducible repeat (first | refine blk_drewN ?_ _ | refine blk_drew ?_ | refine blk_alloc ?_ _)); exact BK557.out) hb); replace HB := bS HB hb; (try clear hb); (try clear hb2); (try clear hk); (try clear hi); have hcz19_0 : w18.cell? ⟨gb557, 0, none⟩ = some (.int .i64 0) := bc BK557 0; have hcz19_1 : w18.cell? ⟨gb557, 1, none⟩ = some (.int .i64 0) := bc BK557 1; have hcz19_2 : w18.cell? ⟨gb557, 2, none⟩ = some (.bool true) := bc BK557 2; have hfz19_0 := blk_frozen BK557.out 0; have hfz19_1 := blk_frozen BK557.out 1; have hfz19_2 := blk_frozen BK557.out 2; have hcz20_0 : w18.cell? ⟨gb556, 0, none⟩ = some (.int .i64 0) := bc BK556 0; have hcz20_1 : w18.cell? ⟨gb556, 1, none⟩ = some (.int .i64 0) := bc BK556 1; have hcz20_2 : w18.cell? ⟨gb556, 2, none⟩ = some (.bool false) := bc BK556 2; have hfz20_0 := blk_frozen BK556.out 0; have hfz20_1 := blk_frozen BK556.out 1; have hfz20_2 := blk_frozen BK556.out 2))
      refine bodyPost_ret (results_ct rfl _ _ gb556 48 #[.int .i64 0, .int .i64 0, .bool true] (0, 0) _ rfl (by (with_reducible repeat (first | refine blk_drewN ?_ _ | refine blk_drew ?_ | refine blk_alloc ?_ _)); refine blk_put (cs := #[.int .i64 0, .int .i64 0, .bool false]) ?_ 2 _ rfl; (with_reducible repeat (first | refine blk_drewN ?_ _ | refine blk_drew ?_ | refine blk_alloc ?_ _)); refine blk_put (cs := #[.int .i64 0, .int .i64 0, .bool false]) ?_ 1 _ rfl; (with_reducible repeat (first | refine blk_drewN ?_ _ | refine blk_drew ?_ | refine blk_alloc ?_ _)); refine blk_put (cs := #[.int .i64 0, .int .i64 0, .bool false]) ?_ 0 _ rfl; (with_reducible repeat (first | refine blk_drewN ?_ _ | refine blk_drew ?_ | refine blk_alloc ?_ _)); exact BK556.out) Try.underlying48 rfl (by kernel_rfl)) rfl ?_
      exact ⟨by first | rfl | (simp [errW_none, errW_some] <;> rfl) | (simp [*, errW_none, errW_some] <;> rfl), bZ HB⟩
     ·rw [if_neg c9] at H
      have c9b0 : (t558.toList == a0.toList) = false := beq_eq_false_iff_ne.mpr c9
      have c9b1 : (t558.toList != a0.toList) = true := bne_iff_ne.mpr c9
      simp only [Option.some.injEq, Prod.mk.injEq] at H
      obtain ⟨rfl, rfl, rfl, rfl⟩ := H
      go_enter Try.func43, Try.ntmps43
      try go_wp2_with (first | ((with_reducible refine gate_dst (N := 2) rfl ?_); refine box_event ?hg (N := 2) ?hd (cs := #[.int .i64 0, .int .i64 0, .bool false]) (t := 48) ?hr ?_; (case hd => rfl); (case hg => rfl); (case hr => first | (go_simp; done) | (go_simp; rfl)); intro gb556 hg w21 hbox hb; have BK556 := Aside0.mk (hbox); have GW556 := bG HB hg; have GE556 := bG HB hg; replace HB := bS HB hb; clear hb hbox hg))
      replace BK556 := Aside0.mk (blk_drew BK556.out)
      replace HB := Aside0.mk (below_drew1 HB.out)
      have p4 : 0 ≤ (0 : Int) := (by omega)
      have q4 : 0 < a0.size := (by have : (0 : Int) < (a0.size : Int) := of_decide_eq_true (by first | (with_reducible assumption) | assumption); omega)
      have hx4 : ∀ h : 0 < a0.size, ((a0[0]'h).toNat : Int) = bt a0 0 := bt_at a0 0
      clear p4
      have qi4 : (0 < (a0.size : Int)) = True := eq_true (of_decide_eq_true (by first | (with_reducible assumption) | assumption))
      replace q4 := eq_true q4
      have p6 : 0 ≤ (1 : Int) := (by omega)
      have q6 : 1 < a0.size := (by have : (1 : Int) < (a0.size : Int) := of_decide_eq_true (by first | (with_reducible assumption) | assumption); omega)
      have hx6 : ∀ h : 1 < a0.size, ((a0[1]'h).toNat : Int) = bt a0 1 := bt_at a0 1
      clear p6
      have qi6 : (1 < (a0.size : Int)) = True := eq_true (of_decide_eq_true (by first | (with_reducible assumption) | assumption))
      replace q6 := eq_true q6
      refine start_ (n := 12) (S := fun w' => True) (ds := []) #[false, false, false, false, false, false, false, false, false, false, false, false] (by kernel_rfl) rfl rfl trivial (fun hHeld => ?_); refine with_tabW impl_ReadPoint.tab3 impl_ReadPoint.bits3 (fun HT_ HW_ => ?_)
      generalize w21.drew = w22 at BK556 HB hHeld ⊢
      refine pure_ (i := 0) (N := some 9) (v := ?_) (a' := ?_) #[true, false, false, false, false, false, false, false, false, false, false, false] rfl rfl (any_of HT_.out (by kernel_rfl)) (fun _ _ _ h => h) (Or.inl ⟨by rfl, ?_⟩) ?_ ?_
      rotate_left
      ·intro w'
       go_simp
       with_reducible rfl
      rotate_left
      ·simp only [Act.put, List.setIfInBounds_toArray, List.set_cons_zero, List.set_cons_succ, i64_w, i32_w]
       rfl
      refine pure_ (i := 4) (N := some 13) (v := ?_) (a' := ?_) #[true, false, false, false, true, false, false, false, false, false, false, false] rfl rfl (any_of HT_.out (by kernel_rfl)) (fun _ _ _ h => h) (Or.inl ⟨by rfl, ?_⟩) ?_ ?_
      rotate_left
      ·intro w'
       go_simp
       with_reducible rfl
      rotate_left
      ·simp only [Act.put, List.setIfInBounds_toArray, List.set_cons_zero, List.set_cons_succ, i64_w, i32_w]
       rfl
      refine take_ (i := 1) (N := some 10) (v := ?_) (a' := ?_) #[true, true, false, false, true, false, false, false, false, false, false, false] rfl rfl (take_ofW HT_.out HW_.out (by kernel_rfl)) (fun _ _ _ h => h) (Or.inl ⟨by rfl, ?_⟩) hHeld ?_ ?_
      rotate_left
      ·intro w' _
       go_simp
       with_reducible rfl
      rotate_left
      ·simp only [Act.put, List.setIfInBounds_toArray, List.set_cons_zero, List.set_cons_succ, i64_w, i32_w]
       rfl
      refine pure_ (i := 2) (N := some 11) (v := ?_) (a' := ?_) #[true, true, true, false, true, false, false, false, false, false, false, false] rfl rfl (any_of HT_.out (by kernel_rfl)) (fun _ _ _ h => h) (Or.inl ⟨by rfl, ?_⟩) ?_ ?_
      rotate_left
      ·intro w'
       go_simp
       with_reducible rfl
      rotate_left
      ·simp only [Act.put, List.setIfInBounds_toArray, List.set_cons_zero, List.set_cons_succ, i64_w, i32_w]
       rfl
      refine pure_ (i := 3) (N := some 12) (v := ?_) (a' := ?_) #[true, true, true, true, true, false, false, false, false, false, false, false] rfl rfl (any_of HT_.out (by kernel_rfl)) (fun _ _ _ h => h) (Or.inl ⟨by rfl, ?_⟩) ?_ ?_
      rotate_left
      ·intro w'
       go_simp
       with_reducible rfl
      rotate_left
      ·simp only [Act.put, List.setIfInBounds_toArray, List.set_cons_zero, List.set_cons_succ, i64_w, i32_w]
       rfl
      refine take_ (i := 5) (N := some 14) (v := ?_) (a' := ?_) #[true, true, true, true, true, true, false, false, false, false, false, false] rfl rfl (take_ofW HT_.out HW_.out (by kernel_rfl)) (fun _ _ _ h => h) (Or.inl ⟨by rfl, ?_⟩) hHeld ?_ ?_
      rotate_left
      ·intro w' _
       go_simp
       with_reducible rfl
      rotate_left
      ·simp only [Act.put, List.setIfInBounds_toArray, List.set_cons_zero, List.set_cons_succ, i64_w, i32_w]
       rfl
      refine pure_ (i := 6) (N := some 15) (v := ?_) (a' := ?_) #[true, true, true, true, true, true, true, false, false, false, false, false] rfl rfl (any_of HT_.out (by kernel_rfl)) (fun _ _ _ h => h) (Or.inl ⟨by rfl, ?_⟩) ?_ ?_
      rotate_left
      ·intro w'
       go_simp
       with_reducible rfl
      rotate_left
      ·simp only [Act.put, List.setIfInBounds_toArray, List.set_cons_zero, List.set_cons_succ, i64_w, i32_w]
       rfl
      refine pure_ (i := 7) (N := some 16) (v := ?_) (a' := ?_) #[true, true, true, true, true, true, true, true, false, false, false, false] rfl rfl (any_of HT_.out (by kernel_rfl)) (fun _ _ _ h => h) (Or.inl ⟨by rfl, ?_⟩) ?_ ?_
      rotate_left
      ·intro w'
       go_simp
       with_reducible rfl
      rotate_left
      ·simp only [Act.put, List.setIfInBounds_toArray, List.set_cons_zero, List.set_cons_succ, i64_w, i32_w]
       rfl
      refine pure_ (i := 8) (N := some 17) (v := ?_) (a' := ?_) #[true, true, true, true, true, true, true, true, true, false, false, false] rfl rfl (any_of HT_.out (by kernel_rfl)) (fun _ _ _ h => h) (Or.inl ⟨by rfl, ?_⟩) ?_ ?_
      rotate_left
      ·intro w'
       go_simp
       with_reducible rfl
      rotate_left
      ·simp only [Act.put, List.setIfInBounds_toArray, List.set_cons_zero, List.set_cons_succ, i64_w, i32_w]
       rfl
      refine pure_ (i := 9) (N := some 18) (v := ?_) (a' := ?_) #[true, true, true, true, true, true, true, true, true, true, false, false] rfl rfl (any_of HT_.out (by kernel_rfl)) (fun _ _ _ h => h) (Or.inl ⟨by rfl, ?_⟩) ?_ ?_
      rotate_left
      ·intro w'
       go_simp
       with_reducible rfl
      rotate_left
      ·simp only [Act.put, List.setIfInBounds_toArray, List.set_cons_zero, List.set_cons_succ, i64_w, i32_w]
       rfl
      refine one_ (i := 10) (N := some 4) #[true, true, true, true, true, true, true, true, true, true, true, false] rfl rfl (one_of HT_.out (by kernel_rfl)) (by decide) (fun K hK => ?_)
      refine box_step ?hg (N := 4) ?hd (cs := #[.int .i64 0, .int .i64 0, .bool false]) (t := 48) ?hr ?_; (case hd => rfl); (case hg => rfl); (case hr => first | (go_simp; done) | (go_simp; rfl))
      intro gb557 hg w23 hbox hb
      have BK557 := Aside0.mk (hbox)
      have GW557 := bG HB hg
      have GE557 := bG HB hg
      replace HB := bS HB hb
      have NB556_557 := bL BK556 hg
      have NB557_556 := bR BK556 hg
      replace BK556 := bB BK556 hb
      clear hb hbox hg
      refine hK.out _ _ trivial (fun hHeld => ?_)
      clear hK K
      refine norm_ (a' := ?_) ?_ ?_
      rotate_left
      ·show Act.put _ (some 4) _ = _
       simp only [Act.put, List.setIfInBounds_toArray, List.set_cons_zero, List.set_cons_succ, i64_w, i32_w]
       rfl
      refine one_ (i := 11) (N := none) #[true, true, true, true, true, true, true, true, true, true, true, true] rfl rfl (one_of HT_.out (by kernel_rfl)) (by decide) (fun K hK => ?_)
      have hs24 : w23.cell? ⟨gb557, 0, none⟩ = some (.int .i64 0) := bc BK557 0
      have hfs24 := blk_frozen BK557.out 0
      have hns24_0 := NB556_557.out
      have hms24_0 := NB557_556.out
      have hs25 : w23.cell? ⟨gb557, 1, none⟩ = some (.int .i64 0) := bc BK557 1
      have hfs25 := blk_frozen BK557.out 1
      have hns25_0 := NB556_557.out
      have hms25_0 := NB557_556.out
      have hs26 : w23.cell? ⟨gb557, 2, none⟩ = some (.bool false) := bc BK557 2
      have hfs26 := blk_frozen BK557.out 2
      have hns26_0 := NB556_557.out
      have hms26_0 := NB557_556.out
      refine skip_ (w1 := ?_) (by rfl) rfl ?_ ?_
      rotate_left
      ·go_simp
       rfl
      refine hK.out _ _ trivial (fun hHeld => ?_)
      clear hK K
      refine done_ (done_of HT_.out (by kernel_rfl)) ?_
      have hnb27 := NB557_556.out
      have hnc27 := NB556_557.out
      have hcz28_0 : w23.cell? ⟨gb557, 0, none⟩ = some (.int .i64 0) := bc BK557 0
      have hcz28_1 : w23.cell? ⟨gb557, 1, none⟩ = some (.int .i64 0) := bc BK557 1
      have hcz28_2 : w23.cell? ⟨gb557, 2, none⟩ = some (.bool false) := bc BK557 2
      have hfz28_0 := blk_frozen BK557.out 0
      have hfz28_1 := blk_frozen BK557.out 1
      have hfz28_2 := blk_frozen BK557.out 2
      have q1_ : Aside0 ((((w23.setCell ⟨gb557, 0, none⟩ (.int .i64 (wrap64 ((wrap64 ((wrap64 ((wrap64 (bt a0 0)) * 256)) + (wrap64 (bt a0 1)))) - 1)))).setCell ⟨gb557, 1, none⟩ (.int .i64 0)).setCell ⟨gb557, 2, none⟩ (.bool false)).heap[gb557]? = some (.cells #[.int .i64 (wrap64 ((wrap64 ((wrap64 ((wrap64 (bt a0 0)) * 256)) + (wrap64 (bt a0 1)))) - 1)), .int .i64 0, .bool false] 48 (0, 0))) := ⟨by refine blk_put (cs := #[.int .i64 (wrap64 ((wrap64 ((wrap64 ((wrap64 (bt a0 0)) * 256)) + (wrap64 (bt a0 1)))) - 1)), .int .i64 0, .bool false]) ?_ 2 _ rfl; refine blk_put (cs := #[.int .i64 (wrap64 ((wrap64 ((wrap64 ((wrap64 (bt a0 0)) * 256)) + (wrap64 (bt a0 1)))) - 1)), .int .i64 0, .bool false]) ?_ 1 _ rfl; refine blk_put (cs := #[.int .i64 0, .int .i64 0, .bool false]) ?_ 0 _ rfl; exact BK557.out⟩
      have q2_ : Aside0 ((((w23.setCell ⟨gb557, 0, none⟩ (.int .i64 (wrap64 ((wrap64 ((wrap64 ((wrap64 (bt a0 0)) * 256)) + (wrap64 (bt a0 1)))) - 1)))).setCell ⟨gb557, 1, none⟩ (.int .i64 0)).setCell ⟨gb557, 2, none⟩ (.bool false)).heap[gb556]? = some (.cells #[.int .i64 0, .int .i64 0, .bool false] 48 (0, 0))) := ⟨by refine blk_far ?_ NB556_557.out _; refine blk_far ?_ NB556_557.out _; refine blk_far ?_ NB556_557.out _; exact BK556.out⟩
      have q3_ : Aside0 (Below w.heap.size w (((w23.setCell ⟨gb557, 0, none⟩ (.int .i64 (wrap64 ((wrap64 ((wrap64 ((wrap64 (bt a0 0)) * 256)) + (wrap64 (bt a0 1)))) - 1)))).setCell ⟨gb557, 1, none⟩ (.int .i64 0)).setCell ⟨gb557, 2, none⟩ (.bool false))) := ⟨bZ HB⟩
      generalize (((w23.setCell ⟨gb557, 0, none⟩ (.int .i64 (wrap64 ((wrap64 ((wrap64 ((wrap64 (bt a0 0)) * 256)) + (wrap64 (bt a0 1)))) - 1)))).setCell ⟨gb557, 1, none⟩ (.int .i64 0)).setCell ⟨gb557, 2, none⟩ (.bool false)) = wq_ at q1_ q2_ q3_ ⊢
      clear BK557 BK556 HB
      have BK557 := q1_
      have BK556 := q2_
      have HB := q3_
      clear q1_ q2_ q3_
      have hq557_0 : wq_.cell? ⟨gb557, 0, none⟩ = some (.int .i64 (wrap64 ((wrap64 ((wrap64 ((wrap64 (bt a0 0)) * 256)) + (wrap64 (bt a0 1)))) - 1))) := bc BK557 0
      have hr557_0 := blk_frozen BK557.out 0
      have hq557_1 : wq_.cell? ⟨gb557, 1, none⟩ = some (.int .i64 0) := bc BK557 1
      have hr557_1 := blk_frozen BK557.out 1
      have hq557_2 : wq_.cell? ⟨gb557, 2, none⟩ = some (.bool false) := bc BK557 2
      have hr557_2 := blk_frozen BK557.out 2
      have hq556_0 : wq_.cell? ⟨gb556, 0, none⟩ = some (.int .i64 0) := bc BK556 0
      have hr556_0 := blk_frozen BK556.out 0
      have hq556_1 : wq_.cell? ⟨gb556, 1, none⟩ = some (.int .i64 0) := bc BK556 1
      have hr556_1 := blk_frozen BK556.out 1
      have hq556_2 : wq_.cell? ⟨gb556, 2, none⟩ = some (.bool false) := bc BK556 2
      have hr556_2 := blk_frozen BK556.out 2
      try go_wp2_with (first | ((with_reducible refine gate_callee (f := 40) rfl ?_); refine goesL_ (some 41) rfl rfl Try.func40 (by kernel_rfl) rfl #[.agg #[.int .i64 0, .int .i64 0, .bool true]] rfl (by (try simp only [List.map_toArray, List.map_cons, List.map_nil]); first | done | rfl | (simp only [List.length_drop, List.length_take]; rfl)) ?_; (with_reducible refine (impl_PointText.calls 0 0 true t558 _ A8.out).mono ?_); rintro e w29 ⟨rfl, hb⟩; refine ⟨_, rfl, ?_⟩; replace BK556 := bB BK556 hb; replace BK557 := Aside0.mk (blk_below (g := gb557) (o := .cells #[.int .i64 0, .int .i64 0, .bool true] 48 (0, 0)) (by (with_reducible repeat (first | refine blk_drewN ?_ _ | refine blk_drew ?_ | refine blk_alloc ?_ _)); refine blk_put (cs := #[.int .i64 0, .int .i64 0, .bool false]) ?_ 2 _ rfl; (with_reducible repeat (first | refine blk_drewN ?_ _ | refine blk_drew ?_ | refine blk_alloc ?_ _)); refine blk_put (cs := #[.int .i64 0, .int .i64 0, .bool false]) ?_ 1 _ rfl; (with_reducible repeat (first | refine blk_drewN ?_ _ | refine blk_drew ?_ | refine blk_alloc ?_ _)); refine blk_put (cs := #[.int .i64 (wrap64 ((wrap64 ((wrap64 ((wrap64 (bt a0 0)) * 256)) + (wrap64 (bt a0 1)))) - 1)), .int .i64 0, .bool false]) ?_ 0 _ rfl; (with_reducible repeat (first | refine blk_drewN ?_ _ | refine blk_drew ?_ | refine blk_alloc ?_ _)); exact BK557.out) hb); replace HB := bS HB hb; (try clear hb); (try clear hb2); (try clear hk); (try clear hi); have hcz30_0 : w29.cell? ⟨gb556, 0, none⟩ = some (.int .i64 0) := bc BK556 0; have hcz30_1 : w29.cell? ⟨gb556, 1, none⟩ = some (.int .i64 0) := bc BK556 1; have hcz30_2 : w29.cell? ⟨gb556, 2, none⟩ = some (.bool false) := bc BK556 2; have hfz30_0 := blk_frozen BK556.out 0; have hfz30_1 := blk_frozen BK556.out 1; have hfz30_2 := blk_frozen BK556.out 2))
      refine bodyPost_ret (results_ct rfl _ _ gb556 48 #[.int .i64 0, .int .i64 0, .bool false] (0, 0) _ rfl (by (with_reducible repeat (first | refine blk_drewN ?_ _ | refine blk_drew ?_ | refine blk_alloc ?_ _)); refine blk_put (cs := #[.int .i64 0, .int .i64 0, .bool false]) ?_ 2 _ rfl; (with_reducible repeat (first | refine blk_drewN ?_ _ | refine blk_drew ?_ | refine blk_alloc ?_ _)); refine blk_put (cs := #[.int .i64 0, .int .i64 0, .bool false]) ?_ 1 _ rfl; (with_reducible repeat (first | refine blk_drewN ?_ _ | refine blk_drew ?_ | refine blk_alloc ?_ _)); refine blk_put (cs := #[.int .i64 0, .int .i64 0, .bool false]) ?_ 0 _ rfl; (with_reducible repeat (first | refine blk_drewN ?_ _ | refine blk_drew ?_ | refine blk_alloc ?_ _)); exact BK556.out) Try.underlying48 rfl (by kernel_rfl)) rfl ?_
      exact ⟨by first | rfl | (simp [errW_none, errW_some] <;> rfl) | (simp [*, errW_none, errW_some] <;> rfl), bZ HB⟩
    ·rw [if_neg c7] at H
     have c7b0 : decide ((wrap64 ((wrap64 ((wrap64 ((wrap64 (bt a0 0)) * 256)) + (wrap64 (bt a0 1)))) - 1)) < 0) = false := decide_eq_false c7
     clear c7
     replace H := Option.bind_eq_some_iff.mp H
     obtain ⟨t559, A310, H⟩ := H
     replace H : ((impl_FpRoot.f k t559).bind fun bt560 => (if 2 < (a0.size : Int) then (if (Int.tmod bt560.1 2) = (wrap64 (bt a0 2)) then ((impl_PointText.f (wrap64 ((wrap64 ((wrap64 ((wrap64 (bt a0 0)) * 256)) + (wrap64 (bt a0 1)))) - 1)) bt560.1 false).bind fun t562 => (if t562.toList = a0.toList then (some (wrap64 ((wrap64 ((wrap64 ((wrap64 (bt a0 0)) * 256)) + (wrap64 (bt a0 1)))) - 1), bt560.1, false, true)) else (some (0, 0, false, false)))) else ((impl_PointNeg.f (wrap64 ((wrap64 ((wrap64 ((wrap64 (bt a0 0)) * 256)) + (wrap64 (bt a0 1)))) - 1)) bt560.1 false).bind fun bt563 => ((impl_PointText.f bt563.1 bt563.2.1 bt563.2.2).bind fun t566 => (if t566.toList = a0.toList then (some (bt563.1, bt563.2.1, bt563.2.2, true)) else (some (0, 0, false, false)))))) else (none))) = some (r1, r2, r3, r4) := H
     have A31 := Aside0.mk A310
     clear A310
     replace H := Option.bind_eq_some_iff.mp H
     obtain ⟨⟨t560, t561⟩, A320, H⟩ := H
     replace H : (if 2 < (a0.size : Int) then (if (Int.tmod t560 2) = (wrap64 (bt a0 2)) then ((impl_PointText.f (wrap64 ((wrap64 ((wrap64 ((wrap64 (bt a0 0)) * 256)) + (wrap64 (bt a0 1)))) - 1)) t560 false).bind fun t562 => (if t562.toList = a0.toList then (some (wrap64 ((wrap64 ((wrap64 ((wrap64 (bt a0 0)) * 256)) + (wrap64 (bt a0 1)))) - 1), t560, false, true)) else (some (0, 0, false, false)))) else ((impl_PointNeg.f (wrap64 ((wrap64 ((wrap64 ((wrap64 (bt a0 0)) * 256)) + (wrap64 (bt a0 1)))) - 1)) t560 false).bind fun bt563 => ((impl_PointText.f bt563.1 bt563.2.1 bt563.2.2).bind fun t566 => (if t566.toList = a0.toList then (some (bt563.1, bt563.2.1, bt563.2.2, true)) else (some (0, 0, false, false)))))) else (none)) = some (r1, r2, r3, r4) := H
     have A32 := Aside0.mk A320
     clear A320
     by_cases c33 : 2 < (a0.size : Int)
     ·rw [if_pos c33] at H
      have c33b0 : decide (2 < (a0.size : Int)) = true := decide_eq_true c33
      have c33b1 : decide (2 < a0.size) = true := decide_eq_true (by omega)
      clear c33
      by_cases c35 : (Int.tmod t560 2) = (wrap64 (bt a0 2))
      ·rw [if_pos c35] at H
       have c35b0 : ((Int.tmod t560 2) == (wrap64 (bt a0 2))) = true := beq_iff_eq.mpr c35
       have c35b1 : ((Int.tmod t560 2) != (wrap64 (bt a0 2))) = false := bne_eq_false_iff_eq.mpr c35
       clear c35
       replace H := Option.bind_eq_some_iff.mp H
       obtain ⟨t562, A360, H⟩ := H
       replace H : (if t562.toList = a0.toList then (some (wrap64 ((wrap64 ((wrap64 ((wrap64 (bt a0 0)) * 256)) + (wrap64 (bt a0 1)))) - 1), t560, false, true)) else (some (0, 0, false, false))) = some (r1, r2, r3, r4) := H
       have A36 := Aside0.mk A360
       clear A360
       by_cases c37 : t562.toList = a0.toList
       ·rw [if_pos c37] at H
        have c37b0 : (t562.toList == a0.toList) = true := beq_iff_eq.mpr c37
        have c37b1 : (t562.toList != a0.toList) = false := bne_eq_false_iff_eq.mpr c37
        clear c37
        simp only [Option.some.injEq, Prod.mk.injEq] at H
        obtain ⟨rfl, rfl, rfl, rfl⟩ := H
        go_enter Try.func43, Try.ntmps43
        try go_wp2_with (first | ((with_reducible refine gate_dst (N := 2) rfl ?_); refine box_event ?hg (N := 2) ?hd (cs := #[.int .i64 0, .int .i64 0, .bool false]) (t := 48) ?hr ?_; (case hd => rfl); (case hg => rfl); (case hr => first | (go_simp; done) | (go_simp; rfl)); intro gb556 hg w38 hbox hb; have BK556 := Aside0.mk (hbox); have GW556 := bG HB hg; have GE556 := bG HB hg; replace HB := bS HB hb; clear hb hbox hg))
        replace BK556 := Aside0.mk (blk_drew BK556.out)
        replace HB := Aside0.mk (below_drew1 HB.out)
        have p4 : 0 ≤ (0 : Int) := (by omega)
        have q4 : 0 < a0.size := (by have : (0 : Int) < (a0.size : Int) := of_decide_eq_true (by first | (with_reducible assumption) | assumption); omega)
        have hx4 : ∀ h : 0 < a0.size, ((a0[0]'h).toNat : Int) = bt a0 0 := bt_at a0 0
        clear p4
        have qi4 : (0 < (a0.size : Int)) = True := eq_true (of_decide_eq_true (by first | (with_reducible assumption) | assumption))
        replace q4 := eq_true q4
        have p6 : 0 ≤ (1 : Int) := (by omega)
        have q6 : 1 < a0.size := (by have : (1 : Int) < (a0.size : Int) := of_decide_eq_true (by first | (with_reducible assumption) | assumption); omega)
        have hx6 : ∀ h : 1 < a0.size, ((a0[1]'h).toNat : Int) = bt a0 1 := bt_at a0 1
        clear p6
        have qi6 : (1 < (a0.size : Int)) = True := eq_true (of_decide_eq_true (by first | (with_reducible assumption) | assumption))
        replace q6 := eq_true q6
        refine start_ (n := 12) (S := fun w' => True) (ds := []) #[false, false, false, false, false, false, false, false, false, false, false, false] (by kernel_rfl) rfl rfl trivial (fun hHeld => ?_); refine with_tabW impl_ReadPoint.tab3 impl_ReadPoint.bits3 (fun HT_ HW_ => ?_)
        generalize w38.drew = w39 at BK556 HB hHeld ⊢
        refine pure_ (i := 0) (N := some 9) (v := ?_) (a' := ?_) #[true, false, false, false, false, false, false, false, false, false, false, false] rfl rfl (any_of HT_.out (by kernel_rfl)) (fun _ _ _ h => h) (Or.inl ⟨by rfl, ?_⟩) ?_ ?_
        rotate_left
        ·intro w'
         go_simp
         with_reducible rfl
        rotate_left
        ·simp only [Act.put, List.setIfInBounds_toArray, List.set_cons_zero, List.set_cons_succ, i64_w, i32_w]
         rfl
        refine pure_ (i := 4) (N := some 13) (v := ?_) (a' := ?_) #[true, false, false, false, true, false, false, false, false, false, false, false] rfl rfl (any_of HT_.out (by kernel_rfl)) (fun _ _ _ h => h) (Or.inl ⟨by rfl, ?_⟩) ?_ ?_
        rotate_left
        ·intro w'
         go_simp
         with_reducible rfl
        rotate_left
        ·simp only [Act.put, List.setIfInBounds_toArray, List.set_cons_zero, List.set_cons_succ, i64_w, i32_w]
         rfl
        refine take_ (i := 1) (N := some 10) (v := ?_) (a' := ?_) #[true, true, false, false, true, false, false, false, false, false, false, false] rfl rfl (take_ofW HT_.out HW_.out (by kernel_rfl)) (fun _ _ _ h => h) (Or.inl ⟨by rfl, ?_⟩) hHeld ?_ ?_
        rotate_left
        ·intro w' _
         go_simp
         with_reducible rfl
        rotate_left
        ·simp only [Act.put, List.setIfInBounds_toArray, List.set_cons_zero, List.set_cons_succ, i64_w, i32_w]
         rfl
        refine pure_ (i := 2) (N := some 11) (v := ?_) (a' := ?_) #[true, true, true, false, true, false, false, false, false, false, false, false] rfl rfl (any_of HT_.out (by kernel_rfl)) (fun _ _ _ h => h) (Or.inl ⟨by rfl, ?_⟩) ?_ ?_
        rotate_left
        ·intro w'
         go_simp
         with_reducible rfl
        rotate_left
        ·simp only [Act.put, List.setIfInBounds_toArray, List.set_cons_zero, List.set_cons_succ, i64_w, i32_w]
         rfl
        refine pure_ (i := 3) (N := some 12) (v := ?_) (a' := ?_) #[true, true, true, true, true, false, false, false, false, false, false, false] rfl rfl (any_of HT_.out (by kernel_rfl)) (fun _ _ _ h => h) (Or.inl ⟨by rfl, ?_⟩) ?_ ?_
        rotate_left
        ·intro w'
         go_simp
         with_reducible rfl
        rotate_left
        ·simp only [Act.put, List.setIfInBounds_toArray, List.set_cons_zero, List.set_cons_succ, i64_w, i32_w]
         rfl
        refine take_ (i := 5) (N := some 14) (v := ?_) (a' := ?_) #[true, true, true, true, true, true, false, false, false, false, false, false] rfl rfl (take_ofW HT_.out HW_.out (by kernel_rfl)) (fun _ _ _ h => h) (Or.inl ⟨by rfl, ?_⟩) hHeld ?_ ?_
        rotate_left
        ·intro w' _
         go_simp
         with_reducible rfl
        rotate_left
        ·simp only [Act.put, List.setIfInBounds_toArray, List.set_cons_zero, List.set_cons_succ, i64_w, i32_w]
         rfl
        refine pure_ (i := 6) (N := some 15) (v := ?_) (a' := ?_) #[true, true, true, true, true, true, true, false, false, false, false, false] rfl rfl (any_of HT_.out (by kernel_rfl)) (fun _ _ _ h => h) (Or.inl ⟨by rfl, ?_⟩) ?_ ?_
        rotate_left
        ·intro w'
         go_simp
         with_reducible rfl
        rotate_left
        ·simp only [Act.put, List.setIfInBounds_toArray, List.set_cons_zero, List.set_cons_succ, i64_w, i32_w]
         rfl
        refine pure_ (i := 7) (N := some 16) (v := ?_) (a' := ?_) #[true, true, true, true, true, true, true, true, false, false, false, false] rfl rfl (any_of HT_.out (by kernel_rfl)) (fun _ _ _ h => h) (Or.inl ⟨by rfl, ?_⟩) ?_ ?_
        rotate_left
        ·intro w'
         go_simp
         with_reducible rfl
        rotate_left
        ·simp only [Act.put, List.setIfInBounds_toArray, List.set_cons_zero, List.set_cons_succ, i64_w, i32_w]
         rfl
        refine pure_ (i := 8) (N := some 17) (v := ?_) (a' := ?_) #[true, true, true, true, true, true, true, true, true, false, false, false] rfl rfl (any_of HT_.out (by kernel_rfl)) (fun _ _ _ h => h) (Or.inl ⟨by rfl, ?_⟩) ?_ ?_
        rotate_left
        ·intro w'
         go_simp
         with_reducible rfl
        rotate_left
        ·simp only [Act.put, List.setIfInBounds_toArray, List.set_cons_zero, List.set_cons_succ, i64_w, i32_w]
         rfl
        refine pure_ (i := 9) (N := some 18) (v := ?_) (a' := ?_) #[true, true, true, true, true, true, true, true, true, true, false, false] rfl rfl (any_of HT_.out (by kernel_rfl)) (fun _ _ _ h => h) (Or.inl ⟨by rfl, ?_⟩) ?_ ?_
        rotate_left
        ·intro w'
         go_simp
         with_reducible rfl
        rotate_left
        ·simp only [Act.put, List.setIfInBounds_toArray, List.set_cons_zero, List.set_cons_succ, i64_w, i32_w]
         rfl
        refine one_ (i := 10) (N := some 4) #[true, true, true, true, true, true, true, true, true, true, true, false] rfl rfl (one_of HT_.out (by kernel_rfl)) (by decide) (fun K hK => ?_)
        refine box_step ?hg (N := 4) ?hd (cs := #[.int .i64 0, .int .i64 0, .bool false]) (t := 48) ?hr ?_; (case hd => rfl); (case hg => rfl); (case hr => first | (go_simp; done) | (go_simp; rfl))
        intro gb557 hg w40 hbox hb
        have BK557 := Aside0.mk (hbox)
        have GW557 := bG HB hg
        have GE557 := bG HB hg
        replace HB := bS HB hb
        have NB556_557 := bL BK556 hg
        have NB557_556 := bR BK556 hg
        replace BK556 := bB BK556 hb
        clear hb hbox hg
        refine hK.out _ _ trivial (fun hHeld => ?_)
        clear hK K
        refine norm_ (a' := ?_) ?_ ?_
        rotate_left
        ·show Act.put _ (some 4) _ = _
         simp only [Act.put, List.setIfInBounds_toArray, List.set_cons_zero, List.set_cons_succ, i64_w, i32_w]
         rfl
        refine one_ (i := 11) (N := none) #[true, true, true, true, true, true, true, true, true, true, true, true] rfl rfl (one_of HT_.out (by kernel_rfl)) (by decide) (fun K hK => ?_)
        have hs41 : w40.cell? ⟨gb557, 0, none⟩ = some (.int .i64 0) := bc BK557 0
        have hfs41 := blk_frozen BK557.out 0
        have hns41_0 := NB556_557.out
        have hms41_0 := NB557_556.out
        have hs42 : w40.cell? ⟨gb557, 1, none⟩ = some (.int .i64 0) := bc BK557 1
        have hfs42 := blk_frozen BK557.out 1
        have hns42_0 := NB556_557.out
        have hms42_0 := NB557_556.out
        have hs43 : w40.cell? ⟨gb557, 2, none⟩ = some (.bool false) := bc BK557 2
        have hfs43 := blk_frozen BK557.out 2
        have hns43_0 := NB556_557.out
        have hms43_0 := NB557_556.out
        refine skip_ (w1 := ?_) (by rfl) rfl ?_ ?_
        rotate_left
        ·go_simp
         rfl
        refine hK.out _ _ trivial (fun hHeld => ?_)
        clear hK K
        refine done_ (done_of HT_.out (by kernel_rfl)) ?_
        have hnb44 := NB557_556.out
        have hnc44 := NB556_557.out
        have hcz45_0 : w40.cell? ⟨gb557, 0, none⟩ = some (.int .i64 0) := bc BK557 0
        have hcz45_1 : w40.cell? ⟨gb557, 1, none⟩ = some (.int .i64 0) := bc BK557 1
        have hcz45_2 : w40.cell? ⟨gb557, 2, none⟩ = some (.bool false) := bc BK557 2
        have hfz45_0 := blk_frozen BK557.out 0
        have hfz45_1 := blk_frozen BK557.out 1
        have hfz45_2 := blk_frozen BK557.out 2
        have q1_ : Aside0 ((((w40.setCell ⟨gb557, 0, none⟩ (.int .i64 (wrap64 ((wrap64 ((wrap64 ((wrap64 (bt a0 0)) * 256)) + (wrap64 (bt a0 1)))) - 1)))).setCell ⟨gb557, 1, none⟩ (.int .i64 0)).setCell ⟨gb557, 2, none⟩ (.bool false)).heap[gb557]? = some (.cells #[.int .i64 (wrap64 ((wrap64 ((wrap64 ((wrap64 (bt a0 0)) * 256)) + (wrap64 (bt a0 1)))) - 1)), .int .i64 0, .bool false] 48 (0, 0))) := ⟨by refine blk_put (cs := #[.int .i64 (wrap64 ((wrap64 ((wrap64 ((wrap64 (bt a0 0)) * 256)) + (wrap64 (bt a0 1)))) - 1)), .int .i64 0, .bool false]) ?_ 2 _ rfl; refine blk_put (cs := #[.int .i64 (wrap64 ((wrap64 ((wrap64 ((wrap64 (bt a0 0)) * 256)) + (wrap64 (bt a0 1)))) - 1)), .int .i64 0, .bool false]) ?_ 1 _ rfl; refine blk_put (cs := #[.int .i64 0, .int .i64 0, .bool false]) ?_ 0 _ rfl; exact BK557.out⟩
        have q2_ : Aside0 ((((w40.setCell ⟨gb557, 0, none⟩ (.int .i64 (wrap64 ((wrap64 ((wrap64 ((wrap64 (bt a0 0)) * 256)) + (wrap64 (bt a0 1)))) - 1)))).setCell ⟨gb557, 1, none⟩ (.int .i64 0)).setCell ⟨gb557, 2, none⟩ (.bool false)).heap[gb556]? = some (.cells #[.int .i64 0, .int .i64 0, .bool false] 48 (0, 0))) := ⟨by refine blk_far ?_ NB556_557.out _; refine blk_far ?_ NB556_557.out _; refine blk_far ?_ NB556_557.out _; exact BK556.out⟩
        have q3_ : Aside0 (Below w.heap.size w (((w40.setCell ⟨gb557, 0, none⟩ (.int .i64 (wrap64 ((wrap64 ((wrap64 ((wrap64 (bt a0 0)) * 256)) + (wrap64 (bt a0 1)))) - 1)))).setCell ⟨gb557, 1, none⟩ (.int .i64 0)).setCell ⟨gb557, 2, none⟩ (.bool false))) := ⟨bZ HB⟩
        generalize (((w40.setCell ⟨gb557, 0, none⟩ (.int .i64 (wrap64 ((wrap64 ((wrap64 ((wrap64 (bt a0 0)) * 256)) + (wrap64 (bt a0 1)))) - 1)))).setCell ⟨gb557, 1, none⟩ (.int .i64 0)).setCell ⟨gb557, 2, none⟩ (.bool false)) = wq_ at q1_ q2_ q3_ ⊢
        clear BK557 BK556 HB
        have BK557 := q1_
        have BK556 := q2_
        have HB := q3_
        clear q1_ q2_ q3_
        have hq557_0 : wq_.cell? ⟨gb557, 0, none⟩ = some (.int .i64 (wrap64 ((wrap64 ((wrap64 ((wrap64 (bt a0 0)) * 256)) + (wrap64 (bt a0 1)))) - 1))) := bc BK557 0
        have hr557_0 := blk_frozen BK557.out 0
        have hq557_1 : wq_.cell? ⟨gb557, 1, none⟩ = some (.int .i64 0) := bc BK557 1
        have hr557_1 := blk_frozen BK557.out 1
        have hq557_2 : wq_.cell? ⟨gb557, 2, none⟩ = some (.bool false) := bc BK557 2
        have hr557_2 := blk_frozen BK557.out 2
        have hq556_0 : wq_.cell? ⟨gb556, 0, none⟩ = some (.int .i64 0) := bc BK556 0
        have hr556_0 := blk_frozen BK556.out 0
        have hq556_1 : wq_.cell? ⟨gb556, 1, none⟩ = some (.int .i64 0) := bc BK556 1
        have hr556_1 := blk_frozen BK556.out 1
        have hq556_2 : wq_.cell? ⟨gb556, 2, none⟩ = some (.bool false) := bc BK556 2
        have hr556_2 := blk_frozen BK556.out 2
        try go_wp2_with (first | ((with_reducible refine gate_callee (f := 62) rfl ?_); refine goesL_ (some 26) rfl rfl Try.func62 (by kernel_rfl) rfl #[.int .i64 (wrap64 ((wrap64 ((wrap64 ((wrap64 (bt a0 0)) * 256)) + (wrap64 (bt a0 1)))) - 1))] rfl (by (try simp only [List.map_toArray, List.map_cons, List.map_nil]); first | done | rfl | (simp only [List.length_drop, List.length_take]; rfl)) ?_; (with_reducible refine (impl_curveAt.calls (wrap64 ((wrap64 ((wrap64 ((wrap64 (bt a0 0)) * 256)) + (wrap64 (bt a0 1)))) - 1)) t559 _ A31.out).mono ?_); rintro e w' ⟨rfl, ⟨nd, rfl⟩⟩; refine ⟨_, rfl, ?_⟩) | ((with_reducible refine gate_callee (f := 61) rfl ?_); refine goesL_ (some 27) rfl rfl Try.func61 (by kernel_rfl) rfl #[.int .i64 t559] rfl (by (try simp only [List.map_toArray, List.map_cons, List.map_nil]); first | done | rfl | (simp only [List.length_drop, List.length_take]; rfl)) ?_; (with_reducible refine (impl_FpRoot.calls k t559 t560 t561 _ A32.out).mono ?_); rintro e w46 ⟨rfl, hb⟩; refine ⟨_, rfl, ?_⟩; replace BK556 := bB BK556 hb; replace BK557 := bB BK557 hb; replace HB := bS HB hb; (try clear hb); (try clear hb2); (try clear hk); (try clear hi); have hcz47_0 : w46.cell? ⟨gb557, 0, none⟩ = some (.int .i64 (wrap64 ((wrap64 ((wrap64 ((wrap64 (bt a0 0)) * 256)) + (wrap64 (bt a0 1)))) - 1))) := bc BK557 0; have hcz47_1 : w46.cell? ⟨gb557, 1, none⟩ = some (.int .i64 0) := bc BK557 1; have hcz47_2 : w46.cell? ⟨gb557, 2, none⟩ = some (.bool false) := bc BK557 2; have hfz47_0 := blk_frozen BK557.out 0; have hfz47_1 := blk_frozen BK557.out 1; have hfz47_2 := blk_frozen BK557.out 2))
        have n0_ : Aside0 ((w46.setCell ⟨gb557, 1, none⟩ (.int .i64 t560)).heap[gb556]? = some (.cells #[.int .i64 0, .int .i64 0, .bool false] 48 (0, 0))) := ⟨bP BK556⟩
        have n1_ : Aside0 ((w46.setCell ⟨gb557, 1, none⟩ (.int .i64 t560)).heap[gb557]? = some (.cells #[.int .i64 (wrap64 ((wrap64 ((wrap64 ((wrap64 (bt a0 0)) * 256)) + (wrap64 (bt a0 1)))) - 1)), .int .i64 t560, .bool false] 48 (0, 0))) := ⟨by (with_reducible repeat (first | refine blk_drewN ?_ _ | refine blk_drew ?_ | refine blk_alloc ?_ _)); refine blk_put (cs := #[.int .i64 (wrap64 ((wrap64 ((wrap64 ((wrap64 (bt a0 0)) * 256)) + (wrap64 (bt a0 1)))) - 1)), .int .i64 0, .bool false]) ?_ 1 _ rfl; (with_reducible repeat (first | refine blk_drewN ?_ _ | refine blk_drew ?_ | refine blk_alloc ?_ _)); exact BK557.out⟩
        have n2_ : Aside0 (Below w.heap.size w (w46.setCell ⟨gb557, 1, none⟩ (.int .i64 t560))) := ⟨bZ HB⟩
        (try clear BK556)
        (try clear BK557)
        (try clear HB)
        generalize (w46.setCell ⟨gb557, 1, none⟩ (.int .i64 t560)) = w48 at n0_ n1_ n2_ ⊢
        have BK556 := n0_
        have BK557 := n1_
        have HB := n2_
        clear n0_ n1_ n2_
        replace BK556 := Aside0.mk (blk_drew BK556.out)
        replace BK557 := Aside0.mk (blk_drew BK557.out)
        replace HB := Aside0.mk (below_drew1 HB.out)
        have p34 : 0 ≤ (2 : Int) := (by omega)
        have q34 : 2 < a0.size := (by have : (2 : Int) < (a0.size : Int) := of_decide_eq_true (by first | (with_reducible assumption) | assumption); omega)
        have hx34 : ∀ h : 2 < a0.size, ((a0[2]'h).toNat : Int) = bt a0 2 := bt_at a0 2
        clear p34
        have qi34 : (2 < (a0.size : Int)) = True := eq_true (of_decide_eq_true (by first | (with_reducible assumption) | assumption))
        replace q34 := eq_true q34
        refine start_ (n := 7) (S := fun w' => w'.cell? ⟨gb557, 0, none⟩ = some (.int .i64 (wrap64 ((wrap64 ((wrap64 ((wrap64 (bt a0 0)) * 256)) + (wrap64 (bt a0 1)))) - 1))) ∧ w'.cell? ⟨gb557, 1, none⟩ = some (.int .i64 t560) ∧ w'.cell? ⟨gb557, 2, none⟩ = some (.bool false)) (ds := []) #[false, false, false, false, false, false, false] (by kernel_rfl) rfl rfl ⟨bc BK557 0, bc BK557 1, bc BK557 2⟩ (fun hHeld => ?_)
        generalize w48.drew = w49 at BK556 BK557 HB hHeld ⊢
        refine pure_ (i := 0) (N := some 31) (v := ?_) (a' := ?_) #[true, false, false, false, false, false, false] rfl rfl (by kernel_rfl) (fun _ _ _ h => h) (Or.inl ⟨by rfl, ?_⟩) ?_ ?_
        rotate_left
        ·intro w'
         go_simp
         with_reducible rfl
        rotate_left
        ·simp only [Act.put, List.setIfInBounds_toArray, List.set_cons_zero, List.set_cons_succ, i64_w, i32_w]
         rfl
        refine pure_ (i := 3) (N := some 34) (v := ?_) (a' := ?_) #[true, false, false, true, false, false, false] rfl rfl (by kernel_rfl) (fun _ _ _ h => h) (Or.inl ⟨by rfl, ?_⟩) ?_ ?_
        rotate_left
        ·intro w'
         go_simp
         with_reducible rfl
        rotate_left
        ·simp only [Act.put, List.setIfInBounds_toArray, List.set_cons_zero, List.set_cons_succ, i64_w, i32_w]
         rfl
        refine take_ (i := 1) (N := some 32) (v := ?_) (a' := ?_) #[true, true, false, true, false, false, false] rfl rfl (by kernel_rfl) (fun _ _ _ h => h) (Or.inl ⟨by rfl, ?_⟩) hHeld ?_ ?_
        rotate_left
        ·rintro w' ⟨s0, s1, s2⟩
         go_simp
         with_reducible rfl
        rotate_left
        ·simp only [Act.put, List.setIfInBounds_toArray, List.set_cons_zero, List.set_cons_succ, i64_w, i32_w]
         rfl
        refine pure_ (i := 2) (N := some 33) (v := ?_) (a' := ?_) #[true, true, true, true, false, false, false] rfl rfl (by kernel_rfl) (fun _ _ _ h => h) (Or.inl ⟨by rfl, ?_⟩) ?_ ?_
        rotate_left
        ·intro w'
         go_simp
         with_reducible rfl
        rotate_left
        ·simp only [Act.put, List.setIfInBounds_toArray, List.set_cons_zero, List.set_cons_succ, i64_w, i32_w]
         rfl
        refine take_ (i := 4) (N := some 35) (v := ?_) (a' := ?_) #[true, true, true, true, true, false, false] rfl rfl (by kernel_rfl) (fun _ _ _ h => h) (Or.inl ⟨by rfl, ?_⟩) hHeld ?_ ?_
        rotate_left
        ·rintro w' ⟨s0, s1, s2⟩
         go_simp
         with_reducible rfl
        rotate_left
        ·simp only [Act.put, List.setIfInBounds_toArray, List.set_cons_zero, List.set_cons_succ, i64_w, i32_w]
         rfl
        refine pure_ (i := 5) (N := some 36) (v := ?_) (a' := ?_) #[true, true, true, true, true, true, false] rfl rfl (by kernel_rfl) (fun _ _ _ h => h) (Or.inl ⟨by rfl, ?_⟩) ?_ ?_
        rotate_left
        ·intro w'
         go_simp
         with_reducible rfl
        rotate_left
        ·simp only [Act.put, List.setIfInBounds_toArray, List.set_cons_zero, List.set_cons_succ, i64_w, i32_w]
         rfl
        refine pure_ (i := 6) (N := some 37) (v := ?_) (a' := ?_) #[true, true, true, true, true, true, true] rfl rfl (by kernel_rfl) (fun _ _ _ h => h) (Or.inl ⟨by rfl, ?_⟩) ?_ ?_
        rotate_left
        ·intro w'
         go_simp
         with_reducible rfl
        rotate_left
        ·simp only [Act.put, List.setIfInBounds_toArray, List.set_cons_zero, List.set_cons_succ, i64_w, i32_w]
         rfl
        refine done_ (by kernel_rfl) ?_
        have hcz50_0 : w49.cell? ⟨gb557, 0, none⟩ = some (.int .i64 (wrap64 ((wrap64 ((wrap64 ((wrap64 (bt a0 0)) * 256)) + (wrap64 (bt a0 1)))) - 1))) := bc BK557 0
        have hcz50_1 : w49.cell? ⟨gb557, 1, none⟩ = some (.int .i64 t560) := bc BK557 1
        have hcz50_2 : w49.cell? ⟨gb557, 2, none⟩ = some (.bool false) := bc BK557 2
        have hfz50_0 := blk_frozen BK557.out 0
        have hfz50_1 := blk_frozen BK557.out 1
        have hfz50_2 := blk_frozen BK557.out 2
        try go_wp2_with (first | ((with_reducible refine gate_callee (f := 40) rfl ?_); refine goesL_ (some 41) rfl rfl Try.func40 (by kernel_rfl) rfl #[.agg #[.int .i64 (wrap64 ((wrap64 ((wrap64 ((wrap64 (bt a0 0)) * 256)) + (wrap64 (bt a0 1)))) - 1)), .int .i64 t560, .bool false]] rfl (by (try simp only [List.map_toArray, List.map_cons, List.map_nil]); first | done | rfl | (simp only [List.length_drop, List.length_take]; rfl)) ?_; (with_reducible refine (impl_PointText.calls (wrap64 ((wrap64 ((wrap64 ((wrap64 (bt a0 0)) * 256)) + (wrap64 (bt a0 1)))) - 1)) t560 false t562 _ A36.out).mono ?_); rintro e w51 ⟨rfl, hb⟩; refine ⟨_, rfl, ?_⟩; replace BK556 := bB BK556 hb; replace BK557 := bB BK557 hb; replace HB := bS HB hb; (try clear hb); (try clear hb2); (try clear hk); (try clear hi); have hcz52_0 : w51.cell? ⟨gb557, 0, none⟩ = some (.int .i64 (wrap64 ((wrap64 ((wrap64 ((wrap64 (bt a0 0)) * 256)) + (wrap64 (bt a0 1)))) - 1))) := bc BK557 0; have hcz52_1 : w51.cell? ⟨gb557, 1, none⟩ = some (.int .i64 t560) := bc BK557 1; have hcz52_2 : w51.cell? ⟨gb557, 2, none⟩ = some (.bool false) := bc BK557 2; have hfz52_0 := blk_frozen BK557.out 0; have hfz52_1 := blk_frozen BK557.out 1; have hfz52_2 := blk_frozen BK557.out 2; have hcz53_0 : w51.cell? ⟨gb556, 0, none⟩ = some (.int .i64 0) := bc BK556 0; have hcz53_1 : w51.cell? ⟨gb556, 1, none⟩ = some (.int .i64 0) := bc BK556 1; have hcz53_2 : w51.cell? ⟨gb556, 2, none⟩ = some (.bool false) := bc BK556 2; have hfz53_0 := blk_frozen BK556.out 0; have hfz53_1 := blk_frozen BK556.out 1; have hfz53_2 := blk_frozen BK556.out 2))
        refine bodyPost_ret (results_ct rfl _ _ gb556 48 #[.int .i64 (wrap64 ((wrap64 ((wrap64 ((wrap64 (bt a0 0)) * 256)) + (wrap64 (bt a0 1)))) - 1)), .int .i64 t560, .bool false] (0, 0) _ rfl (by (with_reducible repeat (first | refine blk_drewN ?_ _ | refine blk_drew ?_ | refine blk_alloc ?_ _)); refine blk_put (cs := #[.int .i64 (wrap64 ((wrap64 ((wrap64 ((wrap64 (bt a0 0)) * 256)) + (wrap64 (bt a0 1)))) - 1)), .int .i64 t560, .bool false]) ?_ 2 _ rfl; (with_reducible repeat (first | refine blk_drewN ?_ _ | refine blk_drew ?_ | refine blk_alloc ?_ _)); refine blk_put (cs := #[.int .i64 (wrap64 ((wrap64 ((wrap64 ((wrap64 (bt a0 0)) * 256)) + (wrap64 (bt a0 1)))) - 1)), .int .i64 0, .bool false]) ?_ 1 _ rfl; (with_reducible repeat (first | refine blk_drewN ?_ _ | refine blk_drew ?_ | refine blk_alloc ?_ _)); refine blk_put (cs := #[.int .i64 0, .int .i64 0, .bool false]) ?_ 0 _ rfl; (with_reducible repeat (first | refine blk_drewN ?_ _ | refine blk_drew ?_ | refine blk_alloc ?_ _)); exact BK556.out) Try.underlying48 rfl (by kernel_rfl)) rfl ?_
        exact ⟨by first | rfl | (simp [errW_none, errW_some] <;> rfl) | (simp [*, errW_none, errW_some] <;> rfl), bZ HB⟩
       ·rw [if_neg c37] at H
        have c37b0 : (t562.toList == a0.toList) = false := beq_eq_false_iff_ne.mpr c37
        have c37b1 : (t562.toList != a0.toList) = true := bne_iff_ne.mpr c37
        simp only [Option.some.injEq, Prod.mk.injEq] at H
        obtain ⟨rfl, rfl, rfl, rfl⟩ := H
        go_enter Try.func43, Try.ntmps43
        try go_wp2_with (first | ((with_reducible refine gate_dst (N := 2) rfl ?_); refine box_event ?hg (N := 2) ?hd (cs := #[.int .i64 0, .int .i64 0, .bool false]) (t := 48) ?hr ?_; (case hd => rfl); (case hg => rfl); (case hr => first | (go_simp; done) | (go_simp; rfl)); intro gb556 hg w54 hbox hb; have BK556 := Aside0.mk (hbox); have GW556 := bG HB hg; have GE556 := bG HB hg; replace HB := bS HB hb; clear hb hbox hg))
        replace BK556 := Aside0.mk (blk_drew BK556.out)
        replace HB := Aside0.mk (below_drew1 HB.out)
        have p4 : 0 ≤ (0 : Int) := (by omega)
        have q4 : 0 < a0.size := (by have : (0 : Int) < (a0.size : Int) := of_decide_eq_true (by first | (with_reducible assumption) | assumption); omega)
        have hx4 : ∀ h : 0 < a0.size, ((a0[0]'h).toNat : Int) = bt a0 0 := bt_at a0 0
        clear p4
        have qi4 : (0 < (a0.size : Int)) = True := eq_true (of_decide_eq_true (by first | (with_reducible assumption) | assumption))
        replace q4 := eq_true q4
        have p6 : 0 ≤ (1 : Int) := (by omega)
        have q6 : 1 < a0.size := (by have : (1 : Int) < (a0.size : Int) := of_decide_eq_true (by first | (with_reducible assumption) | assumption); omega)
        have hx6 : ∀ h : 1 < a0.size, ((a0[1]'h).toNat : Int) = bt a0 1 := bt_at a0 1
        clear p6
        have qi6 : (1 < (a0.size : Int)) = True := eq_true (of_decide_eq_true (by first | (with_reducible assumption) | assumption))
        replace q6 := eq_true q6
        refine start_ (n := 12) (S := fun w' => True) (ds := []) #[false, false, false, false, false, false, false, false, false, false, false, false] (by kernel_rfl) rfl rfl trivial (fun hHeld => ?_); refine with_tabW impl_ReadPoint.tab3 impl_ReadPoint.bits3 (fun HT_ HW_ => ?_)
        generalize w54.drew = w55 at BK556 HB hHeld ⊢
        refine pure_ (i := 0) (N := some 9) (v := ?_) (a' := ?_) #[true, false, false, false, false, false, false, false, false, false, false, false] rfl rfl (any_of HT_.out (by kernel_rfl)) (fun _ _ _ h => h) (Or.inl ⟨by rfl, ?_⟩) ?_ ?_
        rotate_left
        ·intro w'
         go_simp
         with_reducible rfl
        rotate_left
        ·simp only [Act.put, List.setIfInBounds_toArray, List.set_cons_zero, List.set_cons_succ, i64_w, i32_w]
         rfl
        refine pure_ (i := 4) (N := some 13) (v := ?_) (a' := ?_) #[true, false, false, false, true, false, false, false, false, false, false, false] rfl rfl (any_of HT_.out (by kernel_rfl)) (fun _ _ _ h => h) (Or.inl ⟨by rfl, ?_⟩) ?_ ?_
        rotate_left
        ·intro w'
         go_simp
         with_reducible rfl
        rotate_left
        ·simp only [Act.put, List.setIfInBounds_toArray, List.set_cons_zero, List.set_cons_succ, i64_w, i32_w]
         rfl
        refine take_ (i := 1) (N := some 10) (v := ?_) (a' := ?_) #[true, true, false, false, true, false, false, false, false, false, false, false] rfl rfl (take_ofW HT_.out HW_.out (by kernel_rfl)) (fun _ _ _ h => h) (Or.inl ⟨by rfl, ?_⟩) hHeld ?_ ?_
        rotate_left
        ·intro w' _
         go_simp
         with_reducible rfl
        rotate_left
        ·simp only [Act.put, List.setIfInBounds_toArray, List.set_cons_zero, List.set_cons_succ, i64_w, i32_w]
         rfl
        refine pure_ (i := 2) (N := some 11) (v := ?_) (a' := ?_) #[true, true, true, false, true, false, false, false, false, false, false, false] rfl rfl (any_of HT_.out (by kernel_rfl)) (fun _ _ _ h => h) (Or.inl ⟨by rfl, ?_⟩) ?_ ?_
        rotate_left
        ·intro w'
         go_simp
         with_reducible rfl
        rotate_left
        ·simp only [Act.put, List.setIfInBounds_toArray, List.set_cons_zero, List.set_cons_succ, i64_w, i32_w]
         rfl
        refine pure_ (i := 3) (N := some 12) (v := ?_) (a' := ?_) #[true, true, true, true, true, false, false, false, false, false, false, false] rfl rfl (any_of HT_.out (by kernel_rfl)) (fun _ _ _ h => h) (Or.inl ⟨by rfl, ?_⟩) ?_ ?_
        rotate_left
        ·intro w'
         go_simp
         with_reducible rfl
        rotate_left
        ·simp only [Act.put, List.setIfInBounds_toArray, List.set_cons_zero, List.set_cons_succ, i64_w, i32_w]
         rfl
        refine take_ (i := 5) (N := some 14) (v := ?_) (a' := ?_) #[true, true, true, true, true, true, false, false, false, false, false, false] rfl rfl (take_ofW HT_.out HW_.out (by kernel_rfl)) (fun _ _ _ h => h) (Or.inl ⟨by rfl, ?_⟩) hHeld ?_ ?_
        rotate_left
        ·intro w' _
         go_simp
         with_reducible rfl
        rotate_left
        ·simp only [Act.put, List.setIfInBounds_toArray, List.set_cons_zero, List.set_cons_succ, i64_w, i32_w]
         rfl
        refine pure_ (i := 6) (N := some 15) (v := ?_) (a' := ?_) #[true, true, true, true, true, true, true, false, false, false, false, false] rfl rfl (any_of HT_.out (by kernel_rfl)) (fun _ _ _ h => h) (Or.inl ⟨by rfl, ?_⟩) ?_ ?_
        rotate_left
        ·intro w'
         go_simp
         with_reducible rfl
        rotate_left
        ·simp only [Act.put, List.setIfInBounds_toArray, List.set_cons_zero, List.set_cons_succ, i64_w, i32_w]
         rfl
        refine pure_ (i := 7) (N := some 16) (v := ?_) (a' := ?_) #[true, true, true, true, true, true, true, true, false, false, false, false] rfl rfl (any_of HT_.out (by kernel_rfl)) (fun _ _ _ h => h) (Or.inl ⟨by rfl, ?_⟩) ?_ ?_
        rotate_left
        ·intro w'
         go_simp
         with_reducible rfl
        rotate_left
        ·simp only [Act.put, List.setIfInBounds_toArray, List.set_cons_zero, List.set_cons_succ, i64_w, i32_w]
         rfl
        refine pure_ (i := 8) (N := some 17) (v := ?_) (a' := ?_) #[true, true, true, true, true, true, true, true, true, false, false, false] rfl rfl (any_of HT_.out (by kernel_rfl)) (fun _ _ _ h => h) (Or.inl ⟨by rfl, ?_⟩) ?_ ?_
        rotate_left
        ·intro w'
         go_simp
         with_reducible rfl
        rotate_left
        ·simp only [Act.put, List.setIfInBounds_toArray, List.set_cons_zero, List.set_cons_succ, i64_w, i32_w]
         rfl
        refine pure_ (i := 9) (N := some 18) (v := ?_) (a' := ?_) #[true, true, true, true, true, true, true, true, true, true, false, false] rfl rfl (any_of HT_.out (by kernel_rfl)) (fun _ _ _ h => h) (Or.inl ⟨by rfl, ?_⟩) ?_ ?_
        rotate_left
        ·intro w'
         go_simp
         with_reducible rfl
        rotate_left
        ·simp only [Act.put, List.setIfInBounds_toArray, List.set_cons_zero, List.set_cons_succ, i64_w, i32_w]
         rfl
        refine one_ (i := 10) (N := some 4) #[true, true, true, true, true, true, true, true, true, true, true, false] rfl rfl (one_of HT_.out (by kernel_rfl)) (by decide) (fun K hK => ?_)
        refine box_step ?hg (N := 4) ?hd (cs := #[.int .i64 0, .int .i64 0, .bool false]) (t := 48) ?hr ?_; (case hd => rfl); (case hg => rfl); (case hr => first | (go_simp; done) | (go_simp; rfl))
        intro gb557 hg w56 hbox hb
        have BK557 := Aside0.mk (hbox)
        have GW557 := bG HB hg
        have GE557 := bG HB hg
        replace HB := bS HB hb
        have NB556_557 := bL BK556 hg
        have NB557_556 := bR BK556 hg
        replace BK556 := bB BK556 hb
        clear hb hbox hg
        refine hK.out _ _ trivial (fun hHeld => ?_)
        clear hK K
        refine norm_ (a' := ?_) ?_ ?_
        rotate_left
        ·show Act.put _ (some 4) _ = _
         simp only [Act.put, List.setIfInBounds_toArray, List.set_cons_zero, List.set_cons_succ, i64_w, i32_w]
         rfl
        refine one_ (i := 11) (N := none) #[true, true, true, true, true, true, true, true, true, true, true, true] rfl rfl (one_of HT_.out (by kernel_rfl)) (by decide) (fun K hK => ?_)
        have hs57 : w56.cell? ⟨gb557, 0, none⟩ = some (.int .i64 0) := bc BK557 0
        have hfs57 := blk_frozen BK557.out 0
        have hns57_0 := NB556_557.out
        have hms57_0 := NB557_556.out
        have hs58 : w56.cell? ⟨gb557, 1, none⟩ = some (.int .i64 0) := bc BK557 1
        have hfs58 := blk_frozen BK557.out 1
        have hns58_0 := NB556_557.out
        have hms58_0 := NB557_556.out
        have hs59 : w56.cell? ⟨gb557, 2, none⟩ = some (.bool false) := bc BK557 2
        have hfs59 := blk_frozen BK557.out 2
        have hns59_0 := NB556_557.out
        have hms59_0 := NB557_556.out
        refine skip_ (w1 := ?_) (by rfl) rfl ?_ ?_
        rotate_left
        ·go_simp
         rfl
        refine hK.out _ _ trivial (fun hHeld => ?_)
        clear hK K
        refine done_ (done_of HT_.out (by kernel_rfl)) ?_
        have hnb60 := NB557_556.out
        have hnc60 := NB556_557.out
        have hcz61_0 : w56.cell? ⟨gb557, 0, none⟩ = some (.int .i64 0) := bc BK557 0
        have hcz61_1 : w56.cell? ⟨gb557, 1, none⟩ = some (.int .i64 0) := bc BK557 1
        have hcz61_2 : w56.cell? ⟨gb557, 2, none⟩ = some (.bool false) := bc BK557 2
        have hfz61_0 := blk_frozen BK557.out 0
        have hfz61_1 := blk_frozen BK557.out 1
        have hfz61_2 := blk_frozen BK557.out 2
        have q1_ : Aside0 ((((w56.setCell ⟨gb557, 0, none⟩ (.int .i64 (wrap64 ((wrap64 ((wrap64 ((wrap64 (bt a0 0)) * 256)) + (wrap64 (bt a0 1)))) - 1)))).setCell ⟨gb557, 1, none⟩ (.int .i64 0)).setCell ⟨gb557, 2, none⟩ (.bool false)).heap[gb557]? = some (.cells #[.int .i64 (wrap64 ((wrap64 ((wrap64 ((wrap64 (bt a0 0)) * 256)) + (wrap64 (bt a0 1)))) - 1)), .int .i64 0, .bool false] 48 (0, 0))) := ⟨by refine blk_put (cs := #[.int .i64 (wrap64 ((wrap64 ((wrap64 ((wrap64 (bt a0 0)) * 256)) + (wrap64 (bt a0 1)))) - 1)), .int .i64 0, .bool false]) ?_ 2 _ rfl; refine blk_put (cs := #[.int .i64 (wrap64 ((wrap64 ((wrap64 ((wrap64 (bt a0 0)) * 256)) + (wrap64 (bt a0 1)))) - 1)), .int .i64 0, .bool false]) ?_ 1 _ rfl; refine blk_put (cs := #[.int .i64 0, .int .i64 0, .bool false]) ?_ 0 _ rfl; exact BK557.out⟩
        have q2_ : Aside0 ((((w56.setCell ⟨gb557, 0, none⟩ (.int .i64 (wrap64 ((wrap64 ((wrap64 ((wrap64 (bt a0 0)) * 256)) + (wrap64 (bt a0 1)))) - 1)))).setCell ⟨gb557, 1, none⟩ (.int .i64 0)).setCell ⟨gb557, 2, none⟩ (.bool false)).heap[gb556]? = some (.cells #[.int .i64 0, .int .i64 0, .bool false] 48 (0, 0))) := ⟨by refine blk_far ?_ NB556_557.out _; refine blk_far ?_ NB556_557.out _; refine blk_far ?_ NB556_557.out _; exact BK556.out⟩
        have q3_ : Aside0 (Below w.heap.size w (((w56.setCell ⟨gb557, 0, none⟩ (.int .i64 (wrap64 ((wrap64 ((wrap64 ((wrap64 (bt a0 0)) * 256)) + (wrap64 (bt a0 1)))) - 1)))).setCell ⟨gb557, 1, none⟩ (.int .i64 0)).setCell ⟨gb557, 2, none⟩ (.bool false))) := ⟨bZ HB⟩
        generalize (((w56.setCell ⟨gb557, 0, none⟩ (.int .i64 (wrap64 ((wrap64 ((wrap64 ((wrap64 (bt a0 0)) * 256)) + (wrap64 (bt a0 1)))) - 1)))).setCell ⟨gb557, 1, none⟩ (.int .i64 0)).setCell ⟨gb557, 2, none⟩ (.bool false)) = wq_ at q1_ q2_ q3_ ⊢
        clear BK557 BK556 HB
        have BK557 := q1_
        have BK556 := q2_
        have HB := q3_
        clear q1_ q2_ q3_
        have hq557_0 : wq_.cell? ⟨gb557, 0, none⟩ = some (.int .i64 (wrap64 ((wrap64 ((wrap64 ((wrap64 (bt a0 0)) * 256)) + (wrap64 (bt a0 1)))) - 1))) := bc BK557 0
        have hr557_0 := blk_frozen BK557.out 0
        have hq557_1 : wq_.cell? ⟨gb557, 1, none⟩ = some (.int .i64 0) := bc BK557 1
        have hr557_1 := blk_frozen BK557.out 1
        have hq557_2 : wq_.cell? ⟨gb557, 2, none⟩ = some (.bool false) := bc BK557 2
        have hr557_2 := blk_frozen BK557.out 2
        have hq556_0 : wq_.cell? ⟨gb556, 0, none⟩ = some (.int .i64 0) := bc BK556 0
        have hr556_0 := blk_frozen BK556.out 0
        have hq556_1 : wq_.cell? ⟨gb556, 1, none⟩ = some (.int .i64 0) := bc BK556 1
        have hr556_1 := blk_frozen BK556.out 1
        have hq556_2 : wq_.cell? ⟨gb556, 2, none⟩ = some (.bool false) := bc BK556 2
        have hr556_2 := blk_frozen BK556.out 2
        try go_wp2_with (first | ((with_reducible refine gate_callee (f := 62) rfl ?_); refine goesL_ (some 26) rfl rfl Try.func62 (by kernel_rfl) rfl #[.int .i64 (wrap64 ((wrap64 ((wrap64 ((wrap64 (bt a0 0)) * 256)) + (wrap64 (bt a0 1)))) - 1))] rfl (by (try simp only [List.map_toArray, List.map_cons, List.map_nil]); first | done | rfl | (simp only [List.length_drop, List.length_take]; rfl)) ?_; (with_reducible refine (impl_curveAt.calls (wrap64 ((wrap64 ((wrap64 ((wrap64 (bt a0 0)) * 256)) + (wrap64 (bt a0 1)))) - 1)) t559 _ A31.out).mono ?_); rintro e w' ⟨rfl, ⟨nd, rfl⟩⟩; refine ⟨_, rfl, ?_⟩) | ((with_reducible refine gate_callee (f := 61) rfl ?_); refine goesL_ (some 27) rfl rfl Try.func61 (by kernel_rfl) rfl #[.int .i64 t559] rfl (by (try simp only [List.map_toArray, List.map_cons, List.map_nil]); first | done | rfl | (simp only [List.length_drop, List.length_take]; rfl)) ?_; (with_reducible refine (impl_FpRoot.calls k t559 t560 t561 _ A32.out).mono ?_); rintro e w62 ⟨rfl, hb⟩; refine ⟨_, rfl, ?_⟩; replace BK556 := bB BK556 hb; replace BK557 := bB BK557 hb; replace HB := bS HB hb; (try clear hb); (try clear hb2); (try clear hk); (try clear hi); have hcz63_0 : w62.cell? ⟨gb557, 0, none⟩ = some (.int .i64 (wrap64 ((wrap64 ((wrap64 ((wrap64 (bt a0 0)) * 256)) + (wrap64 (bt a0 1)))) - 1))) := bc BK557 0; have hcz63_1 : w62.cell? ⟨gb557, 1, none⟩ = some (.int .i64 0) := bc BK557 1; have hcz63_2 : w62.cell? ⟨gb557, 2, none⟩ = some (.bool false) := bc BK557 2; have hfz63_0 := blk_frozen BK557.out 0; have hfz63_1 := blk_frozen BK557.out 1; have hfz63_2 := blk_frozen BK557.out 2))
        have n0_ : Aside0 ((w62.setCell ⟨gb557, 1, none⟩ (.int .i64 t560)).heap[gb556]? = some (.cells #[.int .i64 0, .int .i64 0, .bool false] 48 (0, 0))) := ⟨bP BK556⟩
        have n1_ : Aside0 ((w62.setCell ⟨gb557, 1, none⟩ (.int .i64 t560)).heap[gb557]? = some (.cells #[.int .i64 (wrap64 ((wrap64 ((wrap64 ((wrap64 (bt a0 0)) * 256)) + (wrap64 (bt a0 1)))) - 1)), .int .i64 t560, .bool false] 48 (0, 0))) := ⟨by (with_reducible repeat (first | refine blk_drewN ?_ _ | refine blk_drew ?_ | refine blk_alloc ?_ _)); refine blk_put (cs := #[.int .i64 (wrap64 ((wrap64 ((wrap64 ((wrap64 (bt a0 0)) * 256)) + (wrap64 (bt a0 1)))) - 1)), .int .i64 0, .bool false]) ?_ 1 _ rfl; (with_reducible repeat (first | refine blk_drewN ?_ _ | refine blk_drew ?_ | refine blk_alloc ?_ _)); exact BK557.out⟩
        have n2_ : Aside0 (Below w.heap.size w (w62.setCell ⟨gb557, 1, none⟩ (.int .i64 t560))) := ⟨bZ HB⟩
        (try clear BK556)
        (try clear BK557)
        (try clear HB)
        generalize (w62.setCell ⟨gb557, 1, none⟩ (.int .i64 t560)) = w64 at n0_ n1_ n2_ ⊢
        have BK556 := n0_
        have BK557 := n1_
        have HB := n2_
        clear n0_ n1_ n2_
        replace BK556 := Aside0.mk (blk_drew BK556.out)
        replace BK557 := Aside0.mk (blk_drew BK557.out)
        replace HB := Aside0.mk (below_drew1 HB.out)
        have p34 : 0 ≤ (2 : Int) := (by omega)
        have q34 : 2 < a0.size := (by have : (2 : Int) < (a0.size : Int) := of_decide_eq_true (by first | (with_reducible assumption) | assumption); omega)
        have hx34 : ∀ h : 2 < a0.size, ((a0[2]'h).toNat : Int) = bt a0 2 := bt_at a0 2
        clear p34
        have qi34 : (2 < (a0.size : Int)) = True := eq_true (of_decide_eq_true (by first | (with_reducible assumption) | assumption))
        replace q34 := eq_true q34
        refine start_ (n := 7) (S := fun w' => w'.cell? ⟨gb557, 0, none⟩ = some (.int .i64 (wrap64 ((wrap64 ((wrap64 ((wrap64 (bt a0 0)) * 256)) + (wrap64 (bt a0 1)))) - 1))) ∧ w'.cell? ⟨gb557, 1, none⟩ = some (.int .i64 t560) ∧ w'.cell? ⟨gb557, 2, none⟩ = some (.bool false)) (ds := []) #[false, false, false, false, false, false, false] (by kernel_rfl) rfl rfl ⟨bc BK557 0, bc BK557 1, bc BK557 2⟩ (fun hHeld => ?_)
        generalize w64.drew = w65 at BK556 BK557 HB hHeld ⊢
        refine pure_ (i := 0) (N := some 31) (v := ?_) (a' := ?_) #[true, false, false, false, false, false, false] rfl rfl (by kernel_rfl) (fun _ _ _ h => h) (Or.inl ⟨by rfl, ?_⟩) ?_ ?_
        rotate_left
        ·intro w'
         go_simp
         with_reducible rfl
        rotate_left
        ·simp only [Act.put, List.setIfInBounds_toArray, List.set_cons_zero, List.set_cons_succ, i64_w, i32_w]
         rfl
        refine pure_ (i := 3) (N := some 34) (v := ?_) (a' := ?_) #[true, false, false, true, false, false, false] rfl rfl (by kernel_rfl) (fun _ _ _ h => h) (Or.inl ⟨by rfl, ?_⟩) ?_ ?_
        rotate_left
        ·intro w'
         go_simp
         with_reducible rfl
        rotate_left
        ·simp only [Act.put, List.setIfInBounds_toArray, List.set_cons_zero, List.set_cons_succ, i64_w, i32_w]
         rfl
        refine take_ (i := 1) (N := some 32) (v := ?_) (a' := ?_) #[true, true, false, true, false, false, false] rfl rfl (by kernel_rfl) (fun _ _ _ h => h) (Or.inl ⟨by rfl, ?_⟩) hHeld ?_ ?_
        rotate_left
        ·rintro w' ⟨s0, s1, s2⟩
         go_simp
         with_reducible rfl
        rotate_left
        ·simp only [Act.put, List.setIfInBounds_toArray, List.set_cons_zero, List.set_cons_succ, i64_w, i32_w]
         rfl
        refine pure_ (i := 2) (N := some 33) (v := ?_) (a' := ?_) #[true, true, true, true, false, false, false] rfl rfl (by kernel_rfl) (fun _ _ _ h => h) (Or.inl ⟨by rfl, ?_⟩) ?_ ?_
        rotate_left
        ·intro w'
         go_simp
         with_reducible rfl
        rotate_left
        ·simp only [Act.put, List.setIfInBounds_toArray, List.set_cons_zero, List.set_cons_succ, i64_w, i32_w]
         rfl
        refine take_ (i := 4) (N := some 35) (v := ?_) (a' := ?_) #[true, true, true, true, true, false, false] rfl rfl (by kernel_rfl) (fun _ _ _ h => h) (Or.inl ⟨by rfl, ?_⟩) hHeld ?_ ?_
        rotate_left
        ·rintro w' ⟨s0, s1, s2⟩
         go_simp
         with_reducible rfl
        rotate_left
        ·simp only [Act.put, List.setIfInBounds_toArray, List.set_cons_zero, List.set_cons_succ, i64_w, i32_w]
         rfl
        refine pure_ (i := 5) (N := some 36) (v := ?_) (a' := ?_) #[true, true, true, true, true, true, false] rfl rfl (by kernel_rfl) (fun _ _ _ h => h) (Or.inl ⟨by rfl, ?_⟩) ?_ ?_
        rotate_left
        ·intro w'
         go_simp
         with_reducible rfl
        rotate_left
        ·simp only [Act.put, List.setIfInBounds_toArray, List.set_cons_zero, List.set_cons_succ, i64_w, i32_w]
         rfl
        refine pure_ (i := 6) (N := some 37) (v := ?_) (a' := ?_) #[true, true, true, true, true, true, true] rfl rfl (by kernel_rfl) (fun _ _ _ h => h) (Or.inl ⟨by rfl, ?_⟩) ?_ ?_
        rotate_left
        ·intro w'
         go_simp
         with_reducible rfl
        rotate_left
        ·simp only [Act.put, List.setIfInBounds_toArray, List.set_cons_zero, List.set_cons_succ, i64_w, i32_w]
         rfl
        refine done_ (by kernel_rfl) ?_
        have hcz66_0 : w65.cell? ⟨gb557, 0, none⟩ = some (.int .i64 (wrap64 ((wrap64 ((wrap64 ((wrap64 (bt a0 0)) * 256)) + (wrap64 (bt a0 1)))) - 1))) := bc BK557 0
        have hcz66_1 : w65.cell? ⟨gb557, 1, none⟩ = some (.int .i64 t560) := bc BK557 1
        have hcz66_2 : w65.cell? ⟨gb557, 2, none⟩ = some (.bool false) := bc BK557 2
        have hfz66_0 := blk_frozen BK557.out 0
        have hfz66_1 := blk_frozen BK557.out 1
        have hfz66_2 := blk_frozen BK557.out 2
        try go_wp2_with (first | ((with_reducible refine gate_callee (f := 40) rfl ?_); refine goesL_ (some 41) rfl rfl Try.func40 (by kernel_rfl) rfl #[.agg #[.int .i64 (wrap64 ((wrap64 ((wrap64 ((wrap64 (bt a0 0)) * 256)) + (wrap64 (bt a0 1)))) - 1)), .int .i64 t560, .bool false]] rfl (by (try simp only [List.map_toArray, List.map_cons, List.map_nil]); first | done | rfl | (simp only [List.length_drop, List.length_take]; rfl)) ?_; (with_reducible refine (impl_PointText.calls (wrap64 ((wrap64 ((wrap64 ((wrap64 (bt a0 0)) * 256)) + (wrap64 (bt a0 1)))) - 1)) t560 false t562 _ A36.out).mono ?_); rintro e w67 ⟨rfl, hb⟩; refine ⟨_, rfl, ?_⟩; replace BK556 := bB BK556 hb; replace BK557 := bB BK557 hb; replace HB := bS HB hb; (try clear hb); (try clear hb2); (try clear hk); (try clear hi); have hcz68_0 : w67.cell? ⟨gb556, 0, none⟩ = some (.int .i64 0) := bc BK556 0; have hcz68_1 : w67.cell? ⟨gb556, 1, none⟩ = some (.int .i64 0) := bc BK556 1; have hcz68_2 : w67.cell? ⟨gb556, 2, none⟩ = some (.bool false) := bc BK556 2; have hfz68_0 := blk_frozen BK556.out 0; have hfz68_1 := blk_frozen BK556.out 1; have hfz68_2 := blk_frozen BK556.out 2))
        refine bodyPost_ret (results_ct rfl _ _ gb556 48 #[.int .i64 0, .int .i64 0, .bool false] (0, 0) _ rfl (by (with_reducible repeat (first | refine blk_drewN ?_ _ | refine blk_drew ?_ | refine blk_alloc ?_ _)); refine blk_put (cs := #[.int .i64 0, .int .i64 0, .bool false]) ?_ 2 _ rfl; (with_reducible repeat (first | refine blk_drewN ?_ _ | refine blk_drew ?_ | refine blk_alloc ?_ _)); refine blk_put (cs := #[.int .i64 0, .int .i64 0, .bool false]) ?_ 1 _ rfl; (with_reducible repeat (first | refine blk_drewN ?_ _ | refine blk_drew ?_ | refine blk_alloc ?_ _)); refine blk_put (cs := #[.int .i64 0, .int .i64 0, .bool false]) ?_ 0 _ rfl; (with_reducible repeat (first | refine blk_drewN ?_ _ | refine blk_drew ?_ | refine blk_alloc ?_ _)); exact BK556.out) Try.underlying48 rfl (by kernel_rfl)) rfl ?_
        exact ⟨by first | rfl | (simp [errW_none, errW_some] <;> rfl) | (simp [*, errW_none, errW_some] <;> rfl), bZ HB⟩
      ·rw [if_neg c35] at H
       have c35b0 : ((Int.tmod t560 2) == (wrap64 (bt a0 2))) = false := beq_eq_false_iff_ne.mpr c35
       have c35b1 : ((Int.tmod t560 2) != (wrap64 (bt a0 2))) = true := bne_iff_ne.mpr c35
       replace H := Option.bind_eq_some_iff.mp H
       obtain ⟨⟨t563, t564, t565⟩, A690, H⟩ := H
       replace H : ((impl_PointText.f t563 t564 t565).bind fun t566 => (if t566.toList = a0.toList then (some (t563, t564, t565, true)) else (some (0, 0, false, false)))) = some (r1, r2, r3, r4) := H
       have A69 := Aside0.mk A690
       clear A690
       replace H := Option.bind_eq_some_iff.mp H
       obtain ⟨t566, A700, H⟩ := H
       replace H : (if t566.toList = a0.toList then (some (t563, t564, t565, true)) else (some (0, 0, false, false))) = some (r1, r2, r3, r4) := H
       have A70 := Aside0.mk A700
       clear A700
       by_cases c71 : t566.toList = a0.toList
       ·rw [if_pos c71] at H
        have c71b0 : (t566.toList == a0.toList) = true := beq_iff_eq.mpr c71
        have c71b1 : (t566.toList != a0.toList) = false := bne_eq_false_iff_eq.mpr c71
        clear c71
        simp only [Option.some.injEq, Prod.mk.injEq] at H
        obtain ⟨rfl, rfl, rfl, rfl⟩ := H
        go_enter Try.func43, Try.ntmps43
        try go_wp2_with (first | ((with_reducible refine gate_dst (N := 2) rfl ?_); refine box_event ?hg (N := 2) ?hd (cs := #[.int .i64 0, .int .i64 0, .bool false]) (t := 48) ?hr ?_; (case hd => rfl); (case hg => rfl); (case hr => first | (go_simp; done) | (go_simp; rfl)); intro gb556 hg w72 hbox hb; have BK556 := Aside0.mk (hbox); have GW556 := bG HB hg; have GE556 := bG HB hg; replace HB := bS HB hb; clear hb hbox hg))
        replace BK556 := Aside0.mk (blk_drew BK556.out)
        replace HB := Aside0.mk (below_drew1 HB.out)
        have p4 : 0 ≤ (0 : Int) := (by omega)
        have q4 : 0 < a0.size := (by have : (0 : Int) < (a0.size : Int) := of_decide_eq_true (by first | (with_reducible assumption) | assumption); omega)
        have hx4 : ∀ h : 0 < a0.size, ((a0[0]'h).toNat : Int) = bt a0 0 := bt_at a0 0
        clear p4
        have qi4 : (0 < (a0.size : Int)) = True := eq_true (of_decide_eq_true (by first | (with_reducible assumption) | assumption))
        replace q4 := eq_true q4
        have p6 : 0 ≤ (1 : Int) := (by omega)
        have q6 : 1 < a0.size := (by have : (1 : Int) < (a0.size : Int) := of_decide_eq_true (by first | (with_reducible assumption) | assumption); omega)
        have hx6 : ∀ h : 1 < a0.size, ((a0[1]'h).toNat : Int) = bt a0 1 := bt_at a0 1
        clear p6
        have qi6 : (1 < (a0.size : Int)) = True := eq_true (of_decide_eq_true (by first | (with_reducible assumption) | assumption))
        replace q6 := eq_true q6
        refine start_ (n := 12) (S := fun w' => True) (ds := []) #[false, false, false, false, false, false, false, false, false, false, false, false] (by kernel_rfl) rfl rfl trivial (fun hHeld => ?_); refine with_tabW impl_ReadPoint.tab3 impl_ReadPoint.bits3 (fun HT_ HW_ => ?_)
        generalize w72.drew = w73 at BK556 HB hHeld ⊢
        refine pure_ (i := 0) (N := some 9) (v := ?_) (a' := ?_) #[true, false, false, false, false, false, false, false, false, false, false, false] rfl rfl (any_of HT_.out (by kernel_rfl)) (fun _ _ _ h => h) (Or.inl ⟨by rfl, ?_⟩) ?_ ?_
        rotate_left
        ·intro w'
         go_simp
         with_reducible rfl
        rotate_left
        ·simp only [Act.put, List.setIfInBounds_toArray, List.set_cons_zero, List.set_cons_succ, i64_w, i32_w]
         rfl
        refine pure_ (i := 4) (N := some 13) (v := ?_) (a' := ?_) #[true, false, false, false, true, false, false, false, false, false, false, false] rfl rfl (any_of HT_.out (by kernel_rfl)) (fun _ _ _ h => h) (Or.inl ⟨by rfl, ?_⟩) ?_ ?_
        rotate_left
        ·intro w'
         go_simp
         with_reducible rfl
        rotate_left
        ·simp only [Act.put, List.setIfInBounds_toArray, List.set_cons_zero, List.set_cons_succ, i64_w, i32_w]
         rfl
        refine take_ (i := 1) (N := some 10) (v := ?_) (a' := ?_) #[true, true, false, false, true, false, false, false, false, false, false, false] rfl rfl (take_ofW HT_.out HW_.out (by kernel_rfl)) (fun _ _ _ h => h) (Or.inl ⟨by rfl, ?_⟩) hHeld ?_ ?_
        rotate_left
        ·intro w' _
         go_simp
         with_reducible rfl
        rotate_left
        ·simp only [Act.put, List.setIfInBounds_toArray, List.set_cons_zero, List.set_cons_succ, i64_w, i32_w]
         rfl
        refine pure_ (i := 2) (N := some 11) (v := ?_) (a' := ?_) #[true, true, true, false, true, false, false, false, false, false, false, false] rfl rfl (any_of HT_.out (by kernel_rfl)) (fun _ _ _ h => h) (Or.inl ⟨by rfl, ?_⟩) ?_ ?_
        rotate_left
        ·intro w'
         go_simp
         with_reducible rfl
        rotate_left
        ·simp only [Act.put, List.setIfInBounds_toArray, List.set_cons_zero, List.set_cons_succ, i64_w, i32_w]
         rfl
        refine pure_ (i := 3) (N := some 12) (v := ?_) (a' := ?_) #[true, true, true, true, true, false, false, false, false, false, false, false] rfl rfl (any_of HT_.out (by kernel_rfl)) (fun _ _ _ h => h) (Or.inl ⟨by rfl, ?_⟩) ?_ ?_
        rotate_left
        ·intro w'
         go_simp
         with_reducible rfl
        rotate_left
        ·simp only [Act.put, List.setIfInBounds_toArray, List.set_cons_zero, List.set_cons_succ, i64_w, i32_w]
         rfl
        refine take_ (i := 5) (N := some 14) (v := ?_) (a' := ?_) #[true, true, true, true, true, true, false, false, false, false, false, false] rfl rfl (take_ofW HT_.out HW_.out (by kernel_rfl)) (fun _ _ _ h => h) (Or.inl ⟨by rfl, ?_⟩) hHeld ?_ ?_
        rotate_left
        ·intro w' _
         go_simp
         with_reducible rfl
        rotate_left
        ·simp only [Act.put, List.setIfInBounds_toArray, List.set_cons_zero, List.set_cons_succ, i64_w, i32_w]
         rfl
        refine pure_ (i := 6) (N := some 15) (v := ?_) (a' := ?_) #[true, true, true, true, true, true, true, false, false, false, false, false] rfl rfl (any_of HT_.out (by kernel_rfl)) (fun _ _ _ h => h) (Or.inl ⟨by rfl, ?_⟩) ?_ ?_
        rotate_left
        ·intro w'
         go_simp
         with_reducible rfl
        rotate_left
        ·simp only [Act.put, List.setIfInBounds_toArray, List.set_cons_zero, List.set_cons_succ, i64_w, i32_w]
         rfl
        refine pure_ (i := 7) (N := some 16) (v := ?_) (a' := ?_) #[true, true, true, true, true, true, true, true, false, false, false, false] rfl rfl (any_of HT_.out (by kernel_rfl)) (fun _ _ _ h => h) (Or.inl ⟨by rfl, ?_⟩) ?_ ?_
        rotate_left
        ·intro w'
         go_simp
         with_reducible rfl
        rotate_left
        ·simp only [Act.put, List.setIfInBounds_toArray, List.set_cons_zero, List.set_cons_succ, i64_w, i32_w]
         rfl
        refine pure_ (i := 8) (N := some 17) (v := ?_) (a' := ?_) #[true, true, true, true, true, true, true, true, true, false, false, false] rfl rfl (any_of HT_.out (by kernel_rfl)) (fun _ _ _ h => h) (Or.inl ⟨by rfl, ?_⟩) ?_ ?_
        rotate_left
        ·intro w'
         go_simp
         with_reducible rfl
        rotate_left
        ·simp only [Act.put, List.setIfInBounds_toArray, List.set_cons_zero, List.set_cons_succ, i64_w, i32_w]
         rfl
        refine pure_ (i := 9) (N := some 18) (v := ?_) (a' := ?_) #[true, true, true, true, true, true, true, true, true, true, false, false] rfl rfl (any_of HT_.out (by kernel_rfl)) (fun _ _ _ h => h) (Or.inl ⟨by rfl, ?_⟩) ?_ ?_
        rotate_left
        ·intro w'
         go_simp
         with_reducible rfl
        rotate_left
        ·simp only [Act.put, List.setIfInBounds_toArray, List.set_cons_zero, List.set_cons_succ, i64_w, i32_w]
         rfl
        refine one_ (i := 10) (N := some 4) #[true, true, true, true, true, true, true, true, true, true, true, false] rfl rfl (one_of HT_.out (by kernel_rfl)) (by decide) (fun K hK => ?_)
        refine box_step ?hg (N := 4) ?hd (cs := #[.int .i64 0, .int .i64 0, .bool false]) (t := 48) ?hr ?_; (case hd => rfl); (case hg => rfl); (case hr => first | (go_simp; done) | (go_simp; rfl))
        intro gb557 hg w74 hbox hb
        have BK557 := Aside0.mk (hbox)
        have GW557 := bG HB hg
        have GE557 := bG HB hg
        replace HB := bS HB hb
        have NB556_557 := bL BK556 hg
        have NB557_556 := bR BK556 hg
        replace BK556 := bB BK556 hb
        clear hb hbox hg
        refine hK.out _ _ trivial (fun hHeld => ?_)
        clear hK K
        refine norm_ (a' := ?_) ?_ ?_
        rotate_left
        ·show Act.put _ (some 4) _ = _
         simp only [Act.put, List.setIfInBounds_toArray, List.set_cons_zero, List.set_cons_succ, i64_w, i32_w]
         rfl
        refine one_ (i := 11) (N := none) #[true, true, true, true, true, true, true, true, true, true, true, true] rfl rfl (one_of HT_.out (by kernel_rfl)) (by decide) (fun K hK => ?_)
        have hs75 : w74.cell? ⟨gb557, 0, none⟩ = some (.int .i64 0) := bc BK557 0
        have hfs75 := blk_frozen BK557.out 0
        have hns75_0 := NB556_557.out
        have hms75_0 := NB557_556.out
        have hs76 : w74.cell? ⟨gb557, 1, none⟩ = some (.int .i64 0) := bc BK557 1
        have hfs76 := blk_frozen BK557.out 1
        have hns76_0 := NB556_557.out
        have hms76_0 := NB557_556.out
        have hs77 : w74.cell? ⟨gb557, 2, none⟩ = some (.bool false) := bc BK557 2
        have hfs77 := blk_frozen BK557.out 2
        have hns77_0 := NB556_557.out
        have hms77_0 := NB557_556.out
        refine skip_ (w1 := ?_) (by rfl) rfl ?_ ?_
        rotate_left
        ·go_simp
         rfl
        refine hK.out _ _ trivial (fun hHeld => ?_)
        clear hK K
        refine done_ (done_of HT_.out (by kernel_rfl)) ?_
        have hnb78 := NB557_556.out
        have hnc78 := NB556_557.out
        have hcz79_0 : w74.cell? ⟨gb557, 0, none⟩ = some (.int .i64 0) := bc BK557 0
        have hcz79_1 : w74.cell? ⟨gb557, 1, none⟩ = some (.int .i64 0) := bc BK557 1
        have hcz79_2 : w74.cell? ⟨gb557, 2, none⟩ = some (.bool false) := bc BK557 2
        have hfz79_0 := blk_frozen BK557.out 0
        have hfz79_1 := blk_frozen BK557.out 1
        have hfz79_2 := blk_frozen BK557.out 2
        have q1_ : Aside0 ((((w74.setCell ⟨gb557, 0, none⟩ (.int .i64 (wrap64 ((wrap64 ((wrap64 ((wrap64 (bt a0 0)) * 256)) + (wrap64 (bt a0 1)))) - 1)))).setCell ⟨gb557, 1, none⟩ (.int .i64 0)).setCell ⟨gb557, 2, none⟩ (.bool false)).heap[gb557]? = some (.cells #[.int .i64 (wrap64 ((wrap64 ((wrap64 ((wrap64 (bt a0 0)) * 256)) + (wrap64 (bt a0 1)))) - 1)), .int .i64 0, .bool false] 48 (0, 0))) := ⟨by refine blk_put (cs := #[.int .i64 (wrap64 ((wrap64 ((wrap64 ((wrap64 (bt a0 0)) * 256)) + (wrap64 (bt a0 1)))) - 1)), .int .i64 0, .bool false]) ?_ 2 _ rfl; refine blk_put (cs := #[.int .i64 (wrap64 ((wrap64 ((wrap64 ((wrap64 (bt a0 0)) * 256)) + (wrap64 (bt a0 1)))) - 1)), .int .i64 0, .bool false]) ?_ 1 _ rfl; refine blk_put (cs := #[.int .i64 0, .int .i64 0, .bool false]) ?_ 0 _ rfl; exact BK557.out⟩
        have q2_ : Aside0 ((((w74.setCell ⟨gb557, 0, none⟩ (.int .i64 (wrap64 ((wrap64 ((wrap64 ((wrap64 (bt a0 0)) * 256)) + (wrap64 (bt a0 1)))) - 1)))).setCell ⟨gb557, 1, none⟩ (.int .i64 0)).setCell ⟨gb557, 2, none⟩ (.bool false)).heap[gb556]? = some (.cells #[.int .i64 0, .int .i64 0, .bool false] 48 (0, 0))) := ⟨by refine blk_far ?_ NB556_557.out _; refine blk_far ?_ NB556_557.out _; refine blk_far ?_ NB556_557.out _; exact BK556.out⟩
        have q3_ : Aside0 (Below w.heap.size w (((w74.setCell ⟨gb557, 0, none⟩ (.int .i64 (wrap64 ((wrap64 ((wrap64 ((wrap64 (bt a0 0)) * 256)) + (wrap64 (bt a0 1)))) - 1)))).setCell ⟨gb557, 1, none⟩ (.int .i64 0)).setCell ⟨gb557, 2, none⟩ (.bool false))) := ⟨bZ HB⟩
        generalize (((w74.setCell ⟨gb557, 0, none⟩ (.int .i64 (wrap64 ((wrap64 ((wrap64 ((wrap64 (bt a0 0)) * 256)) + (wrap64 (bt a0 1)))) - 1)))).setCell ⟨gb557, 1, none⟩ (.int .i64 0)).setCell ⟨gb557, 2, none⟩ (.bool false)) = wq_ at q1_ q2_ q3_ ⊢
        clear BK557 BK556 HB
        have BK557 := q1_
        have BK556 := q2_
        have HB := q3_
        clear q1_ q2_ q3_
        have hq557_0 : wq_.cell? ⟨gb557, 0, none⟩ = some (.int .i64 (wrap64 ((wrap64 ((wrap64 ((wrap64 (bt a0 0)) * 256)) + (wrap64 (bt a0 1)))) - 1))) := bc BK557 0
        have hr557_0 := blk_frozen BK557.out 0
        have hq557_1 : wq_.cell? ⟨gb557, 1, none⟩ = some (.int .i64 0) := bc BK557 1
        have hr557_1 := blk_frozen BK557.out 1
        have hq557_2 : wq_.cell? ⟨gb557, 2, none⟩ = some (.bool false) := bc BK557 2
        have hr557_2 := blk_frozen BK557.out 2
        have hq556_0 : wq_.cell? ⟨gb556, 0, none⟩ = some (.int .i64 0) := bc BK556 0
        have hr556_0 := blk_frozen BK556.out 0
        have hq556_1 : wq_.cell? ⟨gb556, 1, none⟩ = some (.int .i64 0) := bc BK556 1
        have hr556_1 := blk_frozen BK556.out 1
        have hq556_2 : wq_.cell? ⟨gb556, 2, none⟩ = some (.bool false) := bc BK556 2
        have hr556_2 := blk_frozen BK556.out 2
        try go_wp2_with (first | ((with_reducible refine gate_callee (f := 62) rfl ?_); refine goesL_ (some 26) rfl rfl Try.func62 (by kernel_rfl) rfl #[.int .i64 (wrap64 ((wrap64 ((wrap64 ((wrap64 (bt a0 0)) * 256)) + (wrap64 (bt a0 1)))) - 1))] rfl (by (try simp only [List.map_toArray, List.map_cons, List.map_nil]); first | done | rfl | (simp only [List.length_drop, List.length_take]; rfl)) ?_; (with_reducible refine (impl_curveAt.calls (wrap64 ((wrap64 ((wrap64 ((wrap64 (bt a0 0)) * 256)) + (wrap64 (bt a0 1)))) - 1)) t559 _ A31.out).mono ?_); rintro e w' ⟨rfl, ⟨nd, rfl⟩⟩; refine ⟨_, rfl, ?_⟩) | ((with_reducible refine gate_callee (f := 61) rfl ?_); refine goesL_ (some 27) rfl rfl Try.func61 (by kernel_rfl) rfl #[.int .i64 t559] rfl (by (try simp only [List.map_toArray, List.map_cons, List.map_nil]); first | done | rfl | (simp only [List.length_drop, List.length_take]; rfl)) ?_; (with_reducible refine (impl_FpRoot.calls k t559 t560 t561 _ A32.out).mono ?_); rintro e w80 ⟨rfl, hb⟩; refine ⟨_, rfl, ?_⟩; replace BK556 := bB BK556 hb; replace BK557 := bB BK557 hb; replace HB := bS HB hb; (try clear hb); (try clear hb2); (try clear hk); (try clear hi); have hcz81_0 : w80.cell? ⟨gb557, 0, none⟩ = some (.int .i64 (wrap64 ((wrap64 ((wrap64 ((wrap64 (bt a0 0)) * 256)) + (wrap64 (bt a0 1)))) - 1))) := bc BK557 0; have hcz81_1 : w80.cell? ⟨gb557, 1, none⟩ = some (.int .i64 0) := bc BK557 1; have hcz81_2 : w80.cell? ⟨gb557, 2, none⟩ = some (.bool false) := bc BK557 2; have hfz81_0 := blk_frozen BK557.out 0; have hfz81_1 := blk_frozen BK557.out 1; have hfz81_2 := blk_frozen BK557.out 2))
        have n0_ : Aside0 ((w80.setCell ⟨gb557, 1, none⟩ (.int .i64 t560)).heap[gb556]? = some (.cells #[.int .i64 0, .int .i64 0, .bool false] 48 (0, 0))) := ⟨bP BK556⟩
        have n1_ : Aside0 ((w80.setCell ⟨gb557, 1, none⟩ (.int .i64 t560)).heap[gb557]? = some (.cells #[.int .i64 (wrap64 ((wrap64 ((wrap64 ((wrap64 (bt a0 0)) * 256)) + (wrap64 (bt a0 1)))) - 1)), .int .i64 t560, .bool false] 48 (0, 0))) := ⟨by (with_reducible repeat (first | refine blk_drewN ?_ _ | refine blk_drew ?_ | refine blk_alloc ?_ _)); refine blk_put (cs := #[.int .i64 (wrap64 ((wrap64 ((wrap64 ((wrap64 (bt a0 0)) * 256)) + (wrap64 (bt a0 1)))) - 1)), .int .i64 0, .bool false]) ?_ 1 _ rfl; (with_reducible repeat (first | refine blk_drewN ?_ _ | refine blk_drew ?_ | refine blk_alloc ?_ _)); exact BK557.out⟩
        have n2_ : Aside0 (Below w.heap.size w (w80.setCell ⟨gb557, 1, none⟩ (.int .i64 t560))) := ⟨bZ HB⟩
        (try clear BK556)
        (try clear BK557)
        (try clear HB)
        generalize (w80.setCell ⟨gb557, 1, none⟩ (.int .i64 t560)) = w82 at n0_ n1_ n2_ ⊢
        have BK556 := n0_
        have BK557 := n1_
        have HB := n2_
        clear n0_ n1_ n2_
        replace BK556 := Aside0.mk (blk_drew BK556.out)
        replace BK557 := Aside0.mk (blk_drew BK557.out)
        replace HB := Aside0.mk (below_drew1 HB.out)
        have p34 : 0 ≤ (2 : Int) := (by omega)
        have q34 : 2 < a0.size := (by have : (2 : Int) < (a0.size : Int) := of_decide_eq_true (by first | (with_reducible assumption) | assumption); omega)
        have hx34 : ∀ h : 2 < a0.size, ((a0[2]'h).toNat : Int) = bt a0 2 := bt_at a0 2
        clear p34
        have qi34 : (2 < (a0.size : Int)) = True := eq_true (of_decide_eq_true (by first | (with_reducible assumption) | assumption))
        replace q34 := eq_true q34
        refine start_ (n := 7) (S := fun w' => w'.cell? ⟨gb557, 0, none⟩ = some (.int .i64 (wrap64 ((wrap64 ((wrap64 ((wrap64 (bt a0 0)) * 256)) + (wrap64 (bt a0 1)))) - 1))) ∧ w'.cell? ⟨gb557, 1, none⟩ = some (.int .i64 t560) ∧ w'.cell? ⟨gb557, 2, none⟩ = some (.bool false)) (ds := []) #[false, false, false, false, false, false, false] (by kernel_rfl) rfl rfl ⟨bc BK557 0, bc BK557 1, bc BK557 2⟩ (fun hHeld => ?_)
        generalize w82.drew = w83 at BK556 BK557 HB hHeld ⊢
        refine pure_ (i := 0) (N := some 31) (v := ?_) (a' := ?_) #[true, false, false, false, false, false, false] rfl rfl (by kernel_rfl) (fun _ _ _ h => h) (Or.inl ⟨by rfl, ?_⟩) ?_ ?_
        rotate_left
        ·intro w'
         go_simp
         with_reducible rfl
        rotate_left
        ·simp only [Act.put, List.setIfInBounds_toArray, List.set_cons_zero, List.set_cons_succ, i64_w, i32_w]
         rfl
        refine pure_ (i := 3) (N := some 34) (v := ?_) (a' := ?_) #[true, false, false, true, false, false, false] rfl rfl (by kernel_rfl) (fun _ _ _ h => h) (Or.inl ⟨by rfl, ?_⟩) ?_ ?_
        rotate_left
        ·intro w'
         go_simp
         with_reducible rfl
        rotate_left
        ·simp only [Act.put, List.setIfInBounds_toArray, List.set_cons_zero, List.set_cons_succ, i64_w, i32_w]
         rfl
        refine take_ (i := 1) (N := some 32) (v := ?_) (a' := ?_) #[true, true, false, true, false, false, false] rfl rfl (by kernel_rfl) (fun _ _ _ h => h) (Or.inl ⟨by rfl, ?_⟩) hHeld ?_ ?_
        rotate_left
        ·rintro w' ⟨s0, s1, s2⟩
         go_simp
         with_reducible rfl
        rotate_left
        ·simp only [Act.put, List.setIfInBounds_toArray, List.set_cons_zero, List.set_cons_succ, i64_w, i32_w]
         rfl
        refine pure_ (i := 2) (N := some 33) (v := ?_) (a' := ?_) #[true, true, true, true, false, false, false] rfl rfl (by kernel_rfl) (fun _ _ _ h => h) (Or.inl ⟨by rfl, ?_⟩) ?_ ?_
        rotate_left
        ·intro w'
         go_simp
         with_reducible rfl
        rotate_left
        ·simp only [Act.put, List.setIfInBounds_toArray, List.set_cons_zero, List.set_cons_succ, i64_w, i32_w]
         rfl
        refine take_ (i := 4) (N := some 35) (v := ?_) (a' := ?_) #[true, true, true, true, true, false, false] rfl rfl (by kernel_rfl) (fun _ _ _ h => h) (Or.inl ⟨by rfl, ?_⟩) hHeld ?_ ?_
        rotate_left
        ·rintro w' ⟨s0, s1, s2⟩
         go_simp
         with_reducible rfl
        rotate_left
        ·simp only [Act.put, List.setIfInBounds_toArray, List.set_cons_zero, List.set_cons_succ, i64_w, i32_w]
         rfl
        refine pure_ (i := 5) (N := some 36) (v := ?_) (a' := ?_) #[true, true, true, true, true, true, false] rfl rfl (by kernel_rfl) (fun _ _ _ h => h) (Or.inl ⟨by rfl, ?_⟩) ?_ ?_
        rotate_left
        ·intro w'
         go_simp
         with_reducible rfl
        rotate_left
        ·simp only [Act.put, List.setIfInBounds_toArray, List.set_cons_zero, List.set_cons_succ, i64_w, i32_w]
         rfl
        refine pure_ (i := 6) (N := some 37) (v := ?_) (a' := ?_) #[true, true, true, true, true, true, true] rfl rfl (by kernel_rfl) (fun _ _ _ h => h) (Or.inl ⟨by rfl, ?_⟩) ?_ ?_
        rotate_left
        ·intro w'
         go_simp
         with_reducible rfl
        rotate_left
        ·simp only [Act.put, List.setIfInBounds_toArray, List.set_cons_zero, List.set_cons_succ, i64_w, i32_w]
         rfl
        refine done_ (by kernel_rfl) ?_
        have hcz84_0 : w83.cell? ⟨gb557, 0, none⟩ = some (.int .i64 (wrap64 ((wrap64 ((wrap64 ((wrap64 (bt a0 0)) * 256)) + (wrap64 (bt a0 1)))) - 1))) := bc BK557 0
        have hcz84_1 : w83.cell? ⟨gb557, 1, none⟩ = some (.int .i64 t560) := bc BK557 1
        have hcz84_2 : w83.cell? ⟨gb557, 2, none⟩ = some (.bool false) := bc BK557 2
        have hfz84_0 := blk_frozen BK557.out 0
        have hfz84_1 := blk_frozen BK557.out 1
        have hfz84_2 := blk_frozen BK557.out 2
        try go_wp2_with (first | ((with_reducible refine gate_callee (f := 63) rfl ?_); refine goesL_ (some 39) rfl rfl Try.func63 (by kernel_rfl) rfl #[.agg #[.int .i64 (wrap64 ((wrap64 ((wrap64 ((wrap64 (bt a0 0)) * 256)) + (wrap64 (bt a0 1)))) - 1)), .int .i64 t560, .bool false]] rfl (by (try simp only [List.map_toArray, List.map_cons, List.map_nil]); first | done | rfl | (simp only [List.length_drop, List.length_take]; rfl)) ?_; (with_reducible refine (impl_PointNeg.calls (wrap64 ((wrap64 ((wrap64 ((wrap64 (bt a0 0)) * 256)) + (wrap64 (bt a0 1)))) - 1)) t560 false t563 t564 t565 _ A69.out).mono ?_); rintro e w85 ⟨rfl, hb⟩; refine ⟨_, rfl, ?_⟩; replace BK556 := bB BK556 hb; replace BK557 := bB BK557 hb; replace HB := bS HB hb; (try clear hb); (try clear hb2); (try clear hk); (try clear hi); have hcz86_0 : w85.cell? ⟨gb557, 0, none⟩ = some (.int .i64 (wrap64 ((wrap64 ((wrap64 ((wrap64 (bt a0 0)) * 256)) + (wrap64 (bt a0 1)))) - 1))) := bc BK557 0; have hcz86_1 : w85.cell? ⟨gb557, 1, none⟩ = some (.int .i64 t560) := bc BK557 1; have hcz86_2 : w85.cell? ⟨gb557, 2, none⟩ = some (.bool false) := bc BK557 2; have hfz86_0 := blk_frozen BK557.out 0; have hfz86_1 := blk_frozen BK557.out 1; have hfz86_2 := blk_frozen BK557.out 2) | ((with_reducible refine gate_callee (f := 40) rfl ?_); refine goesL_ (some 41) rfl rfl Try.func40 (by kernel_rfl) rfl #[.agg #[.int .i64 t563, .int .i64 t564, .bool t565]] rfl (by (try simp only [List.map_toArray, List.map_cons, List.map_nil]); first | done | rfl | (simp only [List.length_drop, List.length_take]; rfl)) ?_; (with_reducible refine (impl_PointText.calls t563 t564 t565 t566 _ A70.out).mono ?_); rintro e w87 ⟨rfl, hb⟩; refine ⟨_, rfl, ?_⟩; replace BK556 := bB BK556 hb; replace BK557 := Aside0.mk (blk_below (g := gb557) (o := .cells #[.int .i64 t563, .int .i64 t564, .bool t565] 48 (0, 0)) (by (with_reducible repeat (first | refine blk_drewN ?_ _ | refine blk_drew ?_ | refine blk_alloc ?_ _)); refine blk_put (cs := #[.int .i64 t563, .int .i64 t564, .bool false]) ?_ 2 _ rfl; (with_reducible repeat (first | refine blk_drewN ?_ _ | refine blk_drew ?_ | refine blk_alloc ?_ _)); refine blk_put (cs := #[.int .i64 t563, .int .i64 t560, .bool false]) ?_ 1 _ rfl; (with_reducible repeat (first | refine blk_drewN ?_ _ | refine blk_drew ?_ | refine blk_alloc ?_ _)); refine blk_put (cs := #[.int .i64 (wrap64 ((wrap64 ((wrap64 ((wrap64 (bt a0 0)) * 256)) + (wrap64 (bt a0 1)))) - 1)), .int .i64 t560, .bool false]) ?_ 0 _ rfl; (with_reducible repeat (first | refine blk_drewN ?_ _ | refine blk_drew ?_ | refine blk_alloc ?_ _)); exact BK557.out) hb); replace HB := bS HB hb; (try clear hb); (try clear hb2); (try clear hk); (try clear hi); have hcz88_0 : w87.cell? ⟨gb557, 0, none⟩ = some (.int .i64 t563) := bc BK557 0; have hcz88_1 : w87.cell? ⟨gb557, 1, none⟩ = some (.int .i64 t564) := bc BK557 1; have hcz88_2 : w87.cell? ⟨gb557, 2, none⟩ = some (.bool t565) := bc BK557 2; have hfz88_0 := blk_frozen BK557.out 0; have hfz88_1 := blk_frozen BK557.out 1; have hfz88_2 := blk_frozen BK557.out 2; have hcz89_0 : w87.cell? ⟨gb556, 0, none⟩ = some (.int .i64 0) := bc BK556 0; have hcz89_1 : w87.cell? ⟨gb556, 1, none⟩ = some (.int .i64 0) := bc BK556 1; have hcz89_2 : w87.cell? ⟨gb556, 2, none⟩ = some (.bool false) := bc BK556 2; have hfz89_0 := blk_frozen BK556.out 0; have hfz89_1 := blk_frozen BK556.out 1; have hfz89_2 := blk_frozen BK556.out 2))
        refine bodyPost_ret (results_ct rfl _ _ gb556 48 #[.int .i64 t563, .int .i64 t564, .bool t565] (0, 0) _ rfl (by (with_reducible repeat (first | refine blk_drewN ?_ _ | refine blk_drew ?_ | refine blk_alloc ?_ _)); refine blk_put (cs := #[.int .i64 t563, .int .i64 t564, .bool false]) ?_ 2 _ rfl; (with_reducible repeat (first | refine blk_drewN ?_ _ | refine blk_drew ?_ | refine blk_alloc ?_ _)); refine blk_put (cs := #[.int .i64 t563, .int .i64 0, .bool false]) ?_ 1 _ rfl; (with_reducible repeat (first | refine blk_drewN ?_ _ | refine blk_drew ?_ | refine blk_alloc ?_ _)); refine blk_put (cs := #[.int .i64 0, .int .i64 0, .bool false]) ?_ 0 _ rfl; (with_reducible repeat (first | refine blk_drewN ?_ _ | refine blk_drew ?_ | refine blk_alloc ?_ _)); exact BK556.out) Try.underlying48 rfl (by kernel_rfl)) rfl ?_
        exact ⟨by first | rfl | (simp [errW_none, errW_some] <;> rfl) | (simp [*, errW_none, errW_some] <;> rfl), bZ HB⟩
       ·rw [if_neg c71] at H
        have c71b0 : (t566.toList == a0.toList) = false := beq_eq_false_iff_ne.mpr c71
        have c71b1 : (t566.toList != a0.toList) = true := bne_iff_ne.mpr c71
        simp only [Option.some.injEq, Prod.mk.injEq] at H
        obtain ⟨rfl, rfl, rfl, rfl⟩ := H
        go_enter Try.func43, Try.ntmps43
        try go_wp2_with (first | ((with_reducible refine gate_dst (N := 2) rfl ?_); refine box_event ?hg (N := 2) ?hd (cs := #[.int .i64 0, .int .i64 0, .bool false]) (t := 48) ?hr ?_; (case hd => rfl); (case hg => rfl); (case hr => first | (go_simp; done) | (go_simp; rfl)); intro gb556 hg w90 hbox hb; have BK556 := Aside0.mk (hbox); have GW556 := bG HB hg; have GE556 := bG HB hg; replace HB := bS HB hb; clear hb hbox hg))
        replace BK556 := Aside0.mk (blk_drew BK556.out)
        replace HB := Aside0.mk (below_drew1 HB.out)
        have p4 : 0 ≤ (0 : Int) := (by omega)
        have q4 : 0 < a0.size := (by have : (0 : Int) < (a0.size : Int) := of_decide_eq_true (by first | (with_reducible assumption) | assumption); omega)
        have hx4 : ∀ h : 0 < a0.size, ((a0[0]'h).toNat : Int) = bt a0 0 := bt_at a0 0
        clear p4
        have qi4 : (0 < (a0.size : Int)) = True := eq_true (of_decide_eq_true (by first | (with_reducible assumption) | assumption))
        replace q4 := eq_true q4
        have p6 : 0 ≤ (1 : Int) := (by omega)
        have q6 : 1 < a0.size := (by have : (1 : Int) < (a0.size : Int) := of_decide_eq_true (by first | (with_reducible assumption) | assumption); omega)
        have hx6 : ∀ h : 1 < a0.size, ((a0[1]'h).toNat : Int) = bt a0 1 := bt_at a0 1
        clear p6
        have qi6 : (1 < (a0.size : Int)) = True := eq_true (of_decide_eq_true (by first | (with_reducible assumption) | assumption))
        replace q6 := eq_true q6
        refine start_ (n := 12) (S := fun w' => True) (ds := []) #[false, false, false, false, false, false, false, false, false, false, false, false] (by kernel_rfl) rfl rfl trivial (fun hHeld => ?_); refine with_tabW impl_ReadPoint.tab3 impl_ReadPoint.bits3 (fun HT_ HW_ => ?_)
        generalize w90.drew = w91 at BK556 HB hHeld ⊢
        refine pure_ (i := 0) (N := some 9) (v := ?_) (a' := ?_) #[true, false, false, false, false, false, false, false, false, false, false, false] rfl rfl (any_of HT_.out (by kernel_rfl)) (fun _ _ _ h => h) (Or.inl ⟨by rfl, ?_⟩) ?_ ?_
        rotate_left
        ·intro w'
         go_simp
         with_reducible rfl
        rotate_left
        ·simp only [Act.put, List.setIfInBounds_toArray, List.set_cons_zero, List.set_cons_succ, i64_w, i32_w]
         rfl
        refine pure_ (i := 4) (N := some 13) (v := ?_) (a' := ?_) #[true, false, false, false, true, false, false, false, false, false, false, false] rfl rfl (any_of HT_.out (by kernel_rfl)) (fun _ _ _ h => h) (Or.inl ⟨by rfl, ?_⟩) ?_ ?_
        rotate_left
        ·intro w'
         go_simp
         with_reducible rfl
        rotate_left
        ·simp only [Act.put, List.setIfInBounds_toArray, List.set_cons_zero, List.set_cons_succ, i64_w, i32_w]
         rfl
        refine take_ (i := 1) (N := some 10) (v := ?_) (a' := ?_) #[true, true, false, false, true, false, false, false, false, false, false, false] rfl rfl (take_ofW HT_.out HW_.out (by kernel_rfl)) (fun _ _ _ h => h) (Or.inl ⟨by rfl, ?_⟩) hHeld ?_ ?_
        rotate_left
        ·intro w' _
         go_simp
         with_reducible rfl
        rotate_left
        ·simp only [Act.put, List.setIfInBounds_toArray, List.set_cons_zero, List.set_cons_succ, i64_w, i32_w]
         rfl
        refine pure_ (i := 2) (N := some 11) (v := ?_) (a' := ?_) #[true, true, true, false, true, false, false, false, false, false, false, false] rfl rfl (any_of HT_.out (by kernel_rfl)) (fun _ _ _ h => h) (Or.inl ⟨by rfl, ?_⟩) ?_ ?_
        rotate_left
        ·intro w'
         go_simp
         with_reducible rfl
        rotate_left
        ·simp only [Act.put, List.setIfInBounds_toArray, List.set_cons_zero, List.set_cons_succ, i64_w, i32_w]
         rfl
        refine pure_ (i := 3) (N := some 12) (v := ?_) (a' := ?_) #[true, true, true, true, true, false, false, false, false, false, false, false] rfl rfl (any_of HT_.out (by kernel_rfl)) (fun _ _ _ h => h) (Or.inl ⟨by rfl, ?_⟩) ?_ ?_
        rotate_left
        ·intro w'
         go_simp
         with_reducible rfl
        rotate_left
        ·simp only [Act.put, List.setIfInBounds_toArray, List.set_cons_zero, List.set_cons_succ, i64_w, i32_w]
         rfl
        refine take_ (i := 5) (N := some 14) (v := ?_) (a' := ?_) #[true, true, true, true, true, true, false, false, false, false, false, false] rfl rfl (take_ofW HT_.out HW_.out (by kernel_rfl)) (fun _ _ _ h => h) (Or.inl ⟨by rfl, ?_⟩) hHeld ?_ ?_
        rotate_left
        ·intro w' _
         go_simp
         with_reducible rfl
        rotate_left
        ·simp only [Act.put, List.setIfInBounds_toArray, List.set_cons_zero, List.set_cons_succ, i64_w, i32_w]
         rfl
        refine pure_ (i := 6) (N := some 15) (v := ?_) (a' := ?_) #[true, true, true, true, true, true, true, false, false, false, false, false] rfl rfl (any_of HT_.out (by kernel_rfl)) (fun _ _ _ h => h) (Or.inl ⟨by rfl, ?_⟩) ?_ ?_
        rotate_left
        ·intro w'
         go_simp
         with_reducible rfl
        rotate_left
        ·simp only [Act.put, List.setIfInBounds_toArray, List.set_cons_zero, List.set_cons_succ, i64_w, i32_w]
         rfl
        refine pure_ (i := 7) (N := some 16) (v := ?_) (a' := ?_) #[true, true, true, true, true, true, true, true, false, false, false, false] rfl rfl (any_of HT_.out (by kernel_rfl)) (fun _ _ _ h => h) (Or.inl ⟨by rfl, ?_⟩) ?_ ?_
        rotate_left
        ·intro w'
         go_simp
         with_reducible rfl
        rotate_left
        ·simp only [Act.put, List.setIfInBounds_toArray, List.set_cons_zero, List.set_cons_succ, i64_w, i32_w]
         rfl
        refine pure_ (i := 8) (N := some 17) (v := ?_) (a' := ?_) #[true, true, true, true, true, true, true, true, true, false, false, false] rfl rfl (any_of HT_.out (by kernel_rfl)) (fun _ _ _ h => h) (Or.inl ⟨by rfl, ?_⟩) ?_ ?_
        rotate_left
        ·intro w'
         go_simp
         with_reducible rfl
        rotate_left
        ·simp only [Act.put, List.setIfInBounds_toArray, List.set_cons_zero, List.set_cons_succ, i64_w, i32_w]
         rfl
        refine pure_ (i := 9) (N := some 18) (v := ?_) (a' := ?_) #[true, true, true, true, true, true, true, true, true, true, false, false] rfl rfl (any_of HT_.out (by kernel_rfl)) (fun _ _ _ h => h) (Or.inl ⟨by rfl, ?_⟩) ?_ ?_
        rotate_left
        ·intro w'
         go_simp
         with_reducible rfl
        rotate_left
        ·simp only [Act.put, List.setIfInBounds_toArray, List.set_cons_zero, List.set_cons_succ, i64_w, i32_w]
         rfl
        refine one_ (i := 10) (N := some 4) #[true, true, true, true, true, true, true, true, true, true, true, false] rfl rfl (one_of HT_.out (by kernel_rfl)) (by decide) (fun K hK => ?_)
        refine box_step ?hg (N := 4) ?hd (cs := #[.int .i64 0, .int .i64 0, .bool false]) (t := 48) ?hr ?_; (case hd => rfl); (case hg => rfl); (case hr => first | (go_simp; done) | (go_simp; rfl))
        intro gb557 hg w92 hbox hb
        have BK557 := Aside0.mk (hbox)
        have GW557 := bG HB hg
        have GE557 := bG HB hg
        replace HB := bS HB hb
        have NB556_557 := bL BK556 hg
        have NB557_556 := bR BK556 hg
        replace BK556 := bB BK556 hb
        clear hb hbox hg
        refine hK.out _ _ trivial (fun hHeld => ?_)
        clear hK K
        refine norm_ (a' := ?_) ?_ ?_
        rotate_left
        ·show Act.put _ (some 4) _ = _
         simp only [Act.put, List.setIfInBounds_toArray, List.set_cons_zero, List.set_cons_succ, i64_w, i32_w]
         rfl
        refine one_ (i := 11) (N := none) #[true, true, true, true, true, true, true, true, true, true, true, true] rfl rfl (one_of HT_.out (by kernel_rfl)) (by decide) (fun K hK => ?_)
        have hs93 : w92.cell? ⟨gb557, 0, none⟩ = some (.int .i64 0) := bc BK557 0
        have hfs93 := blk_frozen BK557.out 0
        have hns93_0 := NB556_557.out
        have hms93_0 := NB557_556.out
        have hs94 : w92.cell? ⟨gb557, 1, none⟩ = some (.int .i64 0) := bc BK557 1
        have hfs94 := blk_frozen BK557.out 1
        have hns94_0 := NB556_557.out
        have hms94_0 := NB557_556.out
        have hs95 : w92.cell? ⟨gb557, 2, none⟩ = some (.bool false) := bc BK557 2
        have hfs95 := blk_frozen BK557.out 2
        have hns95_0 := NB556_557.out
        have hms95_0 := NB557_556.out
        refine skip_ (w1 := ?_) (by rfl) rfl ?_ ?_
        rotate_left
        ·go_simp
         rfl
        refine hK.out _ _ trivial (fun hHeld => ?_)
        clear hK K
        refine done_ (done_of HT_.out (by kernel_rfl)) ?_
        have hnb96 := NB557_556.out
        have hnc96 := NB556_557.out
        have hcz97_0 : w92.cell? ⟨gb557, 0, none⟩ = some (.int .i64 0) := bc BK557 0
        have hcz97_1 : w92.cell? ⟨gb557, 1, none⟩ = some (.int .i64 0) := bc BK557 1
        have hcz97_2 : w92.cell? ⟨gb557, 2, none⟩ = some (.bool false) := bc BK557 2
        have hfz97_0 := blk_frozen BK557.out 0
        have hfz97_1 := blk_frozen BK557.out 1
        have hfz97_2 := blk_frozen BK557.out 2
        have q1_ : Aside0 ((((w92.setCell ⟨gb557, 0, none⟩ (.int .i64 (wrap64 ((wrap64 ((wrap64 ((wrap64 (bt a0 0)) * 256)) + (wrap64 (bt a0 1)))) - 1)))).setCell ⟨gb557, 1, none⟩ (.int .i64 0)).setCell ⟨gb557, 2, none⟩ (.bool false)).heap[gb557]? = some (.cells #[.int .i64 (wrap64 ((wrap64 ((wrap64 ((wrap64 (bt a0 0)) * 256)) + (wrap64 (bt a0 1)))) - 1)), .int .i64 0, .bool false] 48 (0, 0))) := ⟨by refine blk_put (cs := #[.int .i64 (wrap64 ((wrap64 ((wrap64 ((wrap64 (bt a0 0)) * 256)) + (wrap64 (bt a0 1)))) - 1)), .int .i64 0, .bool false]) ?_ 2 _ rfl; refine blk_put (cs := #[.int .i64 (wrap64 ((wrap64 ((wrap64 ((wrap64 (bt a0 0)) * 256)) + (wrap64 (bt a0 1)))) - 1)), .int .i64 0, .bool false]) ?_ 1 _ rfl; refine blk_put (cs := #[.int .i64 0, .int .i64 0, .bool false]) ?_ 0 _ rfl; exact BK557.out⟩
        have q2_ : Aside0 ((((w92.setCell ⟨gb557, 0, none⟩ (.int .i64 (wrap64 ((wrap64 ((wrap64 ((wrap64 (bt a0 0)) * 256)) + (wrap64 (bt a0 1)))) - 1)))).setCell ⟨gb557, 1, none⟩ (.int .i64 0)).setCell ⟨gb557, 2, none⟩ (.bool false)).heap[gb556]? = some (.cells #[.int .i64 0, .int .i64 0, .bool false] 48 (0, 0))) := ⟨by refine blk_far ?_ NB556_557.out _; refine blk_far ?_ NB556_557.out _; refine blk_far ?_ NB556_557.out _; exact BK556.out⟩
        have q3_ : Aside0 (Below w.heap.size w (((w92.setCell ⟨gb557, 0, none⟩ (.int .i64 (wrap64 ((wrap64 ((wrap64 ((wrap64 (bt a0 0)) * 256)) + (wrap64 (bt a0 1)))) - 1)))).setCell ⟨gb557, 1, none⟩ (.int .i64 0)).setCell ⟨gb557, 2, none⟩ (.bool false))) := ⟨bZ HB⟩
        generalize (((w92.setCell ⟨gb557, 0, none⟩ (.int .i64 (wrap64 ((wrap64 ((wrap64 ((wrap64 (bt a0 0)) * 256)) + (wrap64 (bt a0 1)))) - 1)))).setCell ⟨gb557, 1, none⟩ (.int .i64 0)).setCell ⟨gb557, 2, none⟩ (.bool false)) = wq_ at q1_ q2_ q3_ ⊢
        clear BK557 BK556 HB
        have BK557 := q1_
        have BK556 := q2_
        have HB := q3_
        clear q1_ q2_ q3_
        have hq557_0 : wq_.cell? ⟨gb557, 0, none⟩ = some (.int .i64 (wrap64 ((wrap64 ((wrap64 ((wrap64 (bt a0 0)) * 256)) + (wrap64 (bt a0 1)))) - 1))) := bc BK557 0
        have hr557_0 := blk_frozen BK557.out 0
        have hq557_1 : wq_.cell? ⟨gb557, 1, none⟩ = some (.int .i64 0) := bc BK557 1
        have hr557_1 := blk_frozen BK557.out 1
        have hq557_2 : wq_.cell? ⟨gb557, 2, none⟩ = some (.bool false) := bc BK557 2
        have hr557_2 := blk_frozen BK557.out 2
        have hq556_0 : wq_.cell? ⟨gb556, 0, none⟩ = some (.int .i64 0) := bc BK556 0
        have hr556_0 := blk_frozen BK556.out 0
        have hq556_1 : wq_.cell? ⟨gb556, 1, none⟩ = some (.int .i64 0) := bc BK556 1
        have hr556_1 := blk_frozen BK556.out 1
        have hq556_2 : wq_.cell? ⟨gb556, 2, none⟩ = some (.bool false) := bc BK556 2
        have hr556_2 := blk_frozen BK556.out 2
        try go_wp2_with (first | ((with_reducible refine gate_callee (f := 62) rfl ?_); refine goesL_ (some 26) rfl rfl Try.func62 (by kernel_rfl) rfl #[.int .i64 (wrap64 ((wrap64 ((wrap64 ((wrap64 (bt a0 0)) * 256)) + (wrap64 (bt a0 1)))) - 1))] rfl (by (try simp only [List.map_toArray, List.map_cons, List.map_nil]); first | done | rfl | (simp only [List.length_drop, List.length_take]; rfl)) ?_; (with_reducible refine (impl_curveAt.calls (wrap64 ((wrap64 ((wrap64 ((wrap64 (bt a0 0)) * 256)) + (wrap64 (bt a0 1)))) - 1)) t559 _ A31.out).mono ?_); rintro e w' ⟨rfl, ⟨nd, rfl⟩⟩; refine ⟨_, rfl, ?_⟩) | ((with_reducible refine gate_callee (f := 61) rfl ?_); refine goesL_ (some 27) rfl rfl Try.func61 (by kernel_rfl) rfl #[.int .i64 t559] rfl (by (try simp only [List.map_toArray, List.map_cons, List.map_nil]); first | done | rfl | (simp only [List.length_drop, List.length_take]; rfl)) ?_; (with_reducible refine (impl_FpRoot.calls k t559 t560 t561 _ A32.out).mono ?_); rintro e w98 ⟨rfl, hb⟩; refine ⟨_, rfl, ?_⟩; replace BK556 := bB BK556 hb; replace BK557 := bB BK557 hb; replace HB := bS HB hb; (try clear hb); (try clear hb2); (try clear hk); (try clear hi); have hcz99_0 : w98.cell? ⟨gb557, 0, none⟩ = some (.int .i64 (wrap64 ((wrap64 ((wrap64 ((wrap64 (bt a0 0)) * 256)) + (wrap64 (bt a0 1)))) - 1))) := bc BK557 0; have hcz99_1 : w98.cell? ⟨gb557, 1, none⟩ = some (.int .i64 0) := bc BK557 1; have hcz99_2 : w98.cell? ⟨gb557, 2, none⟩ = some (.bool false) := bc BK557 2; have hfz99_0 := blk_frozen BK557.out 0; have hfz99_1 := blk_frozen BK557.out 1; have hfz99_2 := blk_frozen BK557.out 2))
        have n0_ : Aside0 ((w98.setCell ⟨gb557, 1, none⟩ (.int .i64 t560)).heap[gb556]? = some (.cells #[.int .i64 0, .int .i64 0, .bool false] 48 (0, 0))) := ⟨bP BK556⟩
        have n1_ : Aside0 ((w98.setCell ⟨gb557, 1, none⟩ (.int .i64 t560)).heap[gb557]? = some (.cells #[.int .i64 (wrap64 ((wrap64 ((wrap64 ((wrap64 (bt a0 0)) * 256)) + (wrap64 (bt a0 1)))) - 1)), .int .i64 t560, .bool false] 48 (0, 0))) := ⟨by (with_reducible repeat (first | refine blk_drewN ?_ _ | refine blk_drew ?_ | refine blk_alloc ?_ _)); refine blk_put (cs := #[.int .i64 (wrap64 ((wrap64 ((wrap64 ((wrap64 (bt a0 0)) * 256)) + (wrap64 (bt a0 1)))) - 1)), .int .i64 0, .bool false]) ?_ 1 _ rfl; (with_reducible repeat (first | refine blk_drewN ?_ _ | refine blk_drew ?_ | refine blk_alloc ?_ _)); exact BK557.out⟩
        have n2_ : Aside0 (Below w.heap.size w (w98.setCell ⟨gb557, 1, none⟩ (.int .i64 t560))) := ⟨bZ HB⟩
        (try clear BK556)
        (try clear BK557)
        (try clear HB)
        generalize (w98.setCell ⟨gb557, 1, none⟩ (.int .i64 t560)) = w100 at n0_ n1_ n2_ ⊢
        have BK556 := n0_
        have BK557 := n1_
        have HB := n2_
        clear n0_ n1_ n2_
        replace BK556 := Aside0.mk (blk_drew BK556.out)
        replace BK557 := Aside0.mk (blk_drew BK557.out)
        replace HB := Aside0.mk (below_drew1 HB.out)
        have p34 : 0 ≤ (2 : Int) := (by omega)
        have q34 : 2 < a0.size := (by have : (2 : Int) < (a0.size : Int) := of_decide_eq_true (by first | (with_reducible assumption) | assumption); omega)
        have hx34 : ∀ h : 2 < a0.size, ((a0[2]'h).toNat : Int) = bt a0 2 := bt_at a0 2
        clear p34
        have qi34 : (2 < (a0.size : Int)) = True := eq_true (of_decide_eq_true (by first | (with_reducible assumption) | assumption))
        replace q34 := eq_true q34
        refine start_ (n := 7) (S := fun w' => w'.cell? ⟨gb557, 0, none⟩ = some (.int .i64 (wrap64 ((wrap64 ((wrap64 ((wrap64 (bt a0 0)) * 256)) + (wrap64 (bt a0 1)))) - 1))) ∧ w'.cell? ⟨gb557, 1, none⟩ = some (.int .i64 t560) ∧ w'.cell? ⟨gb557, 2, none⟩ = some (.bool false)) (ds := []) #[false, false, false, false, false, false, false] (by kernel_rfl) rfl rfl ⟨bc BK557 0, bc BK557 1, bc BK557 2⟩ (fun hHeld => ?_)
        generalize w100.drew = w101 at BK556 BK557 HB hHeld ⊢
        refine pure_ (i := 0) (N := some 31) (v := ?_) (a' := ?_) #[true, false, false, false, false, false, false] rfl rfl (by kernel_rfl) (fun _ _ _ h => h) (Or.inl ⟨by rfl, ?_⟩) ?_ ?_
        rotate_left
        ·intro w'
         go_simp
         with_reducible rfl
        rotate_left
        ·simp only [Act.put, List.setIfInBounds_toArray, List.set_cons_zero, List.set_cons_succ, i64_w, i32_w]
         rfl
        refine pure_ (i := 3) (N := some 34) (v := ?_) (a' := ?_) #[true, false, false, true, false, false, false] rfl rfl (by kernel_rfl) (fun _ _ _ h => h) (Or.inl ⟨by rfl, ?_⟩) ?_ ?_
        rotate_left
        ·intro w'
         go_simp
         with_reducible rfl
        rotate_left
        ·simp only [Act.put, List.setIfInBounds_toArray, List.set_cons_zero, List.set_cons_succ, i64_w, i32_w]
         rfl
        refine take_ (i := 1) (N := some 32) (v := ?_) (a' := ?_) #[true, true, false, true, false, false, false] rfl rfl (by kernel_rfl) (fun _ _ _ h => h) (Or.inl ⟨by rfl, ?_⟩) hHeld ?_ ?_
        rotate_left
        ·rintro w' ⟨s0, s1, s2⟩
         go_simp
         with_reducible rfl
        rotate_left
        ·simp only [Act.put, List.setIfInBounds_toArray, List.set_cons_zero, List.set_cons_succ, i64_w, i32_w]
         rfl
        refine pure_ (i := 2) (N := some 33) (v := ?_) (a' := ?_) #[true, true, true, true, false, false, false] rfl rfl (by kernel_rfl) (fun _ _ _ h => h) (Or.inl ⟨by rfl, ?_⟩) ?_ ?_
        rotate_left
        ·intro w'
         go_simp
         with_reducible rfl
        rotate_left
        ·simp only [Act.put, List.setIfInBounds_toArray, List.set_cons_zero, List.set_cons_succ, i64_w, i32_w]
         rfl
        refine take_ (i := 4) (N := some 35) (v := ?_) (a' := ?_) #[true, true, true, true, true, false, false] rfl rfl (by kernel_rfl) (fun _ _ _ h => h) (Or.inl ⟨by rfl, ?_⟩) hHeld ?_ ?_
        rotate_left
        ·rintro w' ⟨s0, s1, s2⟩
         go_simp
         with_reducible rfl
        rotate_left
        ·simp only [Act.put, List.setIfInBounds_toArray, List.set_cons_zero, List.set_cons_succ, i64_w, i32_w]
         rfl
        refine pure_ (i := 5) (N := some 36) (v := ?_) (a' := ?_) #[true, true, true, true, true, true, false] rfl rfl (by kernel_rfl) (fun _ _ _ h => h) (Or.inl ⟨by rfl, ?_⟩) ?_ ?_
        rotate_left
        ·intro w'
         go_simp
         with_reducible rfl
        rotate_left
        ·simp only [Act.put, List.setIfInBounds_toArray, List.set_cons_zero, List.set_cons_succ, i64_w, i32_w]
         rfl
        refine pure_ (i := 6) (N := some 37) (v := ?_) (a' := ?_) #[true, true, true, true, true, true, true] rfl rfl (by kernel_rfl) (fun _ _ _ h => h) (Or.inl ⟨by rfl, ?_⟩) ?_ ?_
        rotate_left
        ·intro w'
         go_simp
         with_reducible rfl
        rotate_left
        ·simp only [Act.put, List.setIfInBounds_toArray, List.set_cons_zero, List.set_cons_succ, i64_w, i32_w]
         rfl
        refine done_ (by kernel_rfl) ?_
        have hcz102_0 : w101.cell? ⟨gb557, 0, none⟩ = some (.int .i64 (wrap64 ((wrap64 ((wrap64 ((wrap64 (bt a0 0)) * 256)) + (wrap64 (bt a0 1)))) - 1))) := bc BK557 0
        have hcz102_1 : w101.cell? ⟨gb557, 1, none⟩ = some (.int .i64 t560) := bc BK557 1
        have hcz102_2 : w101.cell? ⟨gb557, 2, none⟩ = some (.bool false) := bc BK557 2
        have hfz102_0 := blk_frozen BK557.out 0
        have hfz102_1 := blk_frozen BK557.out 1
        have hfz102_2 := blk_frozen BK557.out 2
        try go_wp2_with (first | ((with_reducible refine gate_callee (f := 63) rfl ?_); refine goesL_ (some 39) rfl rfl Try.func63 (by kernel_rfl) rfl #[.agg #[.int .i64 (wrap64 ((wrap64 ((wrap64 ((wrap64 (bt a0 0)) * 256)) + (wrap64 (bt a0 1)))) - 1)), .int .i64 t560, .bool false]] rfl (by (try simp only [List.map_toArray, List.map_cons, List.map_nil]); first | done | rfl | (simp only [List.length_drop, List.length_take]; rfl)) ?_; (with_reducible refine (impl_PointNeg.calls (wrap64 ((wrap64 ((wrap64 ((wrap64 (bt a0 0)) * 256)) + (wrap64 (bt a0 1)))) - 1)) t560 false t563 t564 t565 _ A69.out).mono ?_); rintro e w103 ⟨rfl, hb⟩; refine ⟨_, rfl, ?_⟩; replace BK556 := bB BK556 hb; replace BK557 := bB BK557 hb; replace HB := bS HB hb; (try clear hb); (try clear hb2); (try clear hk); (try clear hi); have hcz104_0 : w103.cell? ⟨gb557, 0, none⟩ = some (.int .i64 (wrap64 ((wrap64 ((wrap64 ((wrap64 (bt a0 0)) * 256)) + (wrap64 (bt a0 1)))) - 1))) := bc BK557 0; have hcz104_1 : w103.cell? ⟨gb557, 1, none⟩ = some (.int .i64 t560) := bc BK557 1; have hcz104_2 : w103.cell? ⟨gb557, 2, none⟩ = some (.bool false) := bc BK557 2; have hfz104_0 := blk_frozen BK557.out 0; have hfz104_1 := blk_frozen BK557.out 1; have hfz104_2 := blk_frozen BK557.out 2) | ((with_reducible refine gate_callee (f := 40) rfl ?_); refine goesL_ (some 41) rfl rfl Try.func40 (by kernel_rfl) rfl #[.agg #[.int .i64 t563, .int .i64 t564, .bool t565]] rfl (by (try simp only [List.map_toArray, List.map_cons, List.map_nil]); first | done | rfl | (simp only [List.length_drop, List.length_take]; rfl)) ?_; (with_reducible refine (impl_PointText.calls t563 t564 t565 t566 _ A70.out).mono ?_); rintro e w105 ⟨rfl, hb⟩; refine ⟨_, rfl, ?_⟩; replace BK556 := bB BK556 hb; replace BK557 := Aside0.mk (blk_below (g := gb557) (o := .cells #[.int .i64 t563, .int .i64 t564, .bool t565] 48 (0, 0)) (by (with_reducible repeat (first | refine blk_drewN ?_ _ | refine blk_drew ?_ | refine blk_alloc ?_ _)); refine blk_put (cs := #[.int .i64 t563, .int .i64 t564, .bool false]) ?_ 2 _ rfl; (with_reducible repeat (first | refine blk_drewN ?_ _ | refine blk_drew ?_ | refine blk_alloc ?_ _)); refine blk_put (cs := #[.int .i64 t563, .int .i64 t560, .bool false]) ?_ 1 _ rfl; (with_reducible repeat (first | refine blk_drewN ?_ _ | refine blk_drew ?_ | refine blk_alloc ?_ _)); refine blk_put (cs := #[.int .i64 (wrap64 ((wrap64 ((wrap64 ((wrap64 (bt a0 0)) * 256)) + (wrap64 (bt a0 1)))) - 1)), .int .i64 t560, .bool false]) ?_ 0 _ rfl; (with_reducible repeat (first | refine blk_drewN ?_ _ | refine blk_drew ?_ | refine blk_alloc ?_ _)); exact BK557.out) hb); replace HB := bS HB hb; (try clear hb); (try clear hb2); (try clear hk); (try clear hi); have hcz106_0 : w105.cell? ⟨gb556, 0, none⟩ = some (.int .i64 0) := bc BK556 0; have hcz106_1 : w105.cell? ⟨gb556, 1, none⟩ = some (.int .i64 0) := bc BK556 1; have hcz106_2 : w105.cell? ⟨gb556, 2, none⟩ = some (.bool false) := bc BK556 2; have hfz106_0 := blk_frozen BK556.out 0; have hfz106_1 := blk_frozen BK556.out 1; have hfz106_2 := blk_frozen BK556.out 2))
        refine bodyPost_ret (results_ct rfl _ _ gb556 48 #[.int .i64 0, .int .i64 0, .bool false] (0, 0) _ rfl (by (with_reducible repeat (first | refine blk_drewN ?_ _ | refine blk_drew ?_ | refine blk_alloc ?_ _)); refine blk_put (cs := #[.int .i64 0, .int .i64 0, .bool false]) ?_ 2 _ rfl; (with_reducible repeat (first | refine blk_drewN ?_ _ | refine blk_drew ?_ | refine blk_alloc ?_ _)); refine blk_put (cs := #[.int .i64 0, .int .i64 0, .bool false]) ?_ 1 _ rfl; (with_reducible repeat (first | refine blk_drewN ?_ _ | refine blk_drew ?_ | refine blk_alloc ?_ _)); refine blk_put (cs := #[.int .i64 0, .int .i64 0, .bool false]) ?_ 0 _ rfl; (with_reducible repeat (first | refine blk_drewN ?_ _ | refine blk_drew ?_ | refine blk_alloc ?_ _)); exact BK556.out) Try.underlying48 rfl (by kernel_rfl)) rfl ?_
        exact ⟨by first | rfl | (simp [errW_none, errW_some] <;> rfl) | (simp [*, errW_none, errW_some] <;> rfl), bZ HB⟩
     ·rw [if_neg c33] at H
      exact absurd H (by simp)
   ·rw [if_neg c5] at H
    exact absurd H (by simp)
  ·rw [if_neg c3] at H
   exact absurd H (by simp)
 ·rw [if_neg c2] at H
  have c2b0 : ((a0.size : Int) == 3) = false := beq_eq_false_iff_ne.mpr c2
  have c2b1 : ((a0.size : Int) != 3) = true := bne_iff_ne.mpr c2
  simp only [Option.some.injEq, Prod.mk.injEq] at H
  obtain ⟨rfl, rfl, rfl, rfl⟩ := H
  go_enter Try.func43, Try.ntmps43
  go_wp2_with (first | ((with_reducible refine gate_dst (N := 2) rfl ?_); refine box_event ?hg (N := 2) ?hd (cs := #[.int .i64 0, .int .i64 0, .bool false]) (t := 48) ?hr ?_; (case hd => rfl); (case hg => rfl); (case hr => first | (go_simp; done) | (go_simp; rfl)); intro gb556 hg w107 hbox hb; have BK556 := Aside0.mk (hbox); have GW556 := bG HB hg; have GE556 := bG HB hg; replace HB := bS HB hb; clear hb hbox hg; have hcz108_0 : w107.cell? ⟨gb556, 0, none⟩ = some (.int .i64 0) := bc BK556 0; have hcz108_1 : w107.cell? ⟨gb556, 1, none⟩ = some (.int .i64 0) := bc BK556 1; have hcz108_2 : w107.cell? ⟨gb556, 2, none⟩ = some (.bool false) := bc BK556 2; have hfz108_0 := blk_frozen BK556.out 0; have hfz108_1 := blk_frozen BK556.out 1; have hfz108_2 := blk_frozen BK556.out 2))
  refine bodyPost_ret (results_ct rfl _ _ gb556 48 #[.int .i64 0, .int .i64 0, .bool false] (0, 0) _ rfl (by (with_reducible repeat (first | refine blk_drewN ?_ _ | refine blk_drew ?_ | refine blk_alloc ?_ _)); refine blk_put (cs := #[.int .i64 0, .int .i64 0, .bool false]) ?_ 2 _ rfl; (with_reducible repeat (first | refine blk_drewN ?_ _ | refine blk_drew ?_ | refine blk_alloc ?_ _)); refine blk_put (cs := #[.int .i64 0, .int .i64 0, .bool false]) ?_ 1 _ rfl; (with_reducible repeat (first | refine blk_drewN ?_ _ | refine blk_drew ?_ | refine blk_alloc ?_ _)); refine blk_put (cs := #[.int .i64 0, .int .i64 0, .bool false]) ?_ 0 _ rfl; (with_reducible repeat (first | refine blk_drewN ?_ _ | refine blk_drew ?_ | refine blk_alloc ?_ _)); exact BK556.out) Try.underlying48 rfl (by kernel_rfl)) rfl ?_
  exact ⟨by first | rfl | (simp [errW_none, errW_some] <;> rfl) | (simp [*, errW_none, errW_some] <;> rfl), bZ HB⟩
/-! ### impl_ReadCommittee: function 25 -/
def impl_ReadCommittee.l0 : Nat → ByteArray → Int → List (S48) → Option ((List (S48)) × Bool)
 | 0, _, _, _ => none
 | k + 1, x0, x14, x569000 => if x14 < 8 then (if 0 ≤ (wrap64 (3 * x14)) then (if (wrap64 (3 * x14)) ≤ (wrap64 ((wrap64 (3 * x14)) + 3)) then (if (wrap64 ((wrap64 (3 * x14)) + 3)) ≤ (x0.size : Int) then ((impl_ReadPoint.f k (x0.extract ((wrap64 (3 * x14)) : Int).toNat ((wrap64 ((wrap64 (3 * x14)) + 3)) : Int).toNat)).bind fun bt569 => (if bt569.2.2.2 = true then (if x569000.length < 5864062014805 then (impl_ReadCommittee.l0 k x0 (wrap64 (x14 + 1)) (x569000 ++ [(⟨bt569.1, bt569.2.1, bt569.2.2.1⟩ : S48)])) else (none)) else (some (([] : List (S48)), false)))) else (none)) else (none)) else (none)) else ((impl_CommitteeText.f k x569000).bind fun bt577 => (if bt577.2 = true then (if bt577.1.toList = x0.toList then (some (x569000, true)) else (some (([] : List (S48)), false))) else (some (([] : List (S48)), false))))
def impl_ReadCommittee.f (k : Nat) (a0 : ByteArray) : Option ((List (S48)) × Bool) := if (a0.size : Int) = 27 then (impl_ReadCommittee.l0 k a0 0 ([] : List (S48))) else (some (([] : List (S48)), false))
theorem impl_ReadCommittee.mono_l : ∀ k, (∀ y0 y1 y2, LeO (impl_ReadCommittee.l0 k y0 y1 y2) (impl_ReadCommittee.l0 (k + 1) y0 y1 y2))
 | 0 => fun _ _ _ r h => by simp [impl_ReadCommittee.l0] at h
 | k + 1 => by
  have ih0 := impl_ReadCommittee.mono_l k
  ·intro y0 y1 y2
   unfold impl_ReadCommittee.l0
   repeat' first
   | (with_reducible exact ih0 _ _ _)
   | (with_reducible exact impl_CommitteeText.mono _ _)
   | (with_reducible exact impl_ReadPoint.mono _ _)
   | (with_reducible exact LeO.refl _)
   | (with_reducible exact LeO.none _)
   | (with_reducible refine LeO.ite ?_ ?_)
   | (with_reducible refine LeO.bind ?_ (fun _ => ?_))
   | exact ih0 _ _ _
   | exact impl_CommitteeText.mono _ _
   | exact impl_ReadPoint.mono _ _
   | exact LeO.none _
   | refine LeO.ite ?_ ?_
   | refine LeO.bind ?_ (fun _ => ?_)
theorem impl_ReadCommittee.mono : ∀ a0 k, LeO (impl_ReadCommittee.f k a0) (impl_ReadCommittee.f (k + 1) a0) := by
 intro a0 k
 have ih0 := impl_ReadCommittee.mono_l k
 unfold impl_ReadCommittee.f
 repeat' first
   | (with_reducible exact ih0 _ _ _)
   | (with_reducible exact impl_CommitteeText.mono _ _)
   | (with_reducible exact impl_ReadPoint.mono _ _)
   | (with_reducible exact LeO.refl _)
   | (with_reducible exact LeO.none _)
   | (with_reducible refine LeO.ite ?_ ?_)
   | (with_reducible refine LeO.bind ?_ (fun _ => ?_))
   | exact ih0 _ _ _
   | exact impl_CommitteeText.mono _ _
   | exact impl_ReadPoint.mono _ _
   | exact LeO.none _
   | refine LeO.ite ?_ ?_
   | refine LeO.bind ?_ (fun _ => ?_)
set_option maxHeartbeats 8000000 in
set_option maxRecDepth 100000 in
theorem impl_ReadCommittee.calls (k : Nat) (a0 : ByteArray) (r1 : List (S48)) (r2 : Bool) (w : World) (h : impl_ReadCommittee.f k a0 = some (r1, r2)) :
  Calls Try.prog 25 #[.string a0] w fun e w' => ∃ v0_ : Value, e = .returned (.tuple #[.agg #[v0_], .bool r2]) ∧ Kd.R k48 48 w' w.heap.size (fun _ => True) v0_ r1 ∧ Below w.heap.size w w' := by
 have hu29 := Try.underlying29
 have hu48 := Try.underlying48
 have HB := Aside0.mk (Below.refl w.heap.size w)
 have H : (if (a0.size : Int) = 27 then (impl_ReadCommittee.l0 k a0 0 ([] : List (S48))) else (some (([] : List (S48)), false))) = some (r1, r2) := h
 clear h
 by_cases c2 : (a0.size : Int) = 27
 ·rw [if_pos c2] at H
  have c2b0 : ((a0.size : Int) == 27) = true := beq_iff_eq.mpr c2
  have c2b1 : ((a0.size : Int) != 27) = false := bne_eq_false_iff_eq.mpr c2
  clear c2
  have H' := Aside0.mk H
  clear H
  go_enter Try.func25, Try.ntmps25
  go_wp2_with (first | ((with_reducible refine gate_dst (N := 2) rfl ?_); refine box_event ?hg (N := 2) ?hd (cs := #[.slice none 0 0]) (t := 29) ?hr ?_; (case hd => rfl); (case hg => rfl); (case hr => first | (go_simp; done) | (go_simp; rfl)); intro gb567 hg w3 hbox hb; have BK567 := Aside0.mk (hbox); have GW567 := bG HB hg; have GE567 := bG HB hg; replace HB := bS HB hb; clear hb hbox hg) | ((with_reducible refine gate_dst (N := 4) rfl ?_); refine box_event ?hg (N := 4) ?hd (cs := #[.slice none 0 0]) (t := 29) ?hr ?_; (case hd => rfl); (case hg => rfl); (case hr => first | (go_simp; done) | (go_simp; rfl)); intro gb568 hg w4 hbox hb; have BK568 := Aside0.mk (hbox); have GW568 := bG HB hg; have GE568 := bG HB hg; replace HB := bS HB hb; have NB567_568 := bL BK567 hg; have NB568_567 := bR BK567 hg; replace BK567 := bB BK567 hb; clear hb hbox hg))
  go_loopg [14] k (fun kq v14 w' => ∃ (x14_1 : Int) (x569000_1 : List (S48)) (u569000 : Value), v14 = .int .i64 x14_1 ∧ Aside0 (impl_ReadCommittee.l0 kq a0 x14_1 x569000_1 = some (r1, r2)) ∧ Aside0 (kq ≤ k) ∧ Aside0 (Kd.R k48 48 w' w.heap.size (fun _ => True) u569000 x569000_1) ∧ Aside0 (w'.heap[gb567]? = some (.cells #[(.slice none 0 0)] 29 (0, 0))) ∧ Aside0 (w'.heap[gb568]? = some (.cells #[u569000] 29 (0, 0))) ∧ Aside0 (Below w.heap.size w w'))
  case atStart => exact ⟨(0), (([] : List (S48))), (.slice none 0 0), (by first | rfl | (simp; done) | (simp [*]; done)), H', ⟨Nat.le_refl _⟩, ⟨by first | exact Kd.R_nil _ _ _ _ _ | exact Kd.N_nil _ _ _ _ _ | exact Kd.V_nil _ _ _ _ _ | exact Kd.Q_nil _ _ _ _ _ | exact Kd.S_nil _ _ _ _ _⟩, ⟨bP BK567⟩, ⟨bP BK568⟩, ⟨bZ HB⟩⟩
  case round =>
   clear H'
   try clear c2
   try clear c2b0
   try clear c2b1
   try clear p2
   obtain ⟨x14_1, x569000_1, u569000, rfl, HA, HK1, HO_569000, BK567, BK568, HB⟩ := hrel
   cases gk with
   | zero => exact absurd HA.out (by simp [impl_ReadCommittee.l0])
   | succ k1 =>
    have H := HA.out
    clear HA
    simp only [impl_ReadCommittee.l0] at H
    by_cases c5 : x14_1 < 8
    ·rw [if_pos c5] at H
     have c5b0 : decide (x14_1 < 8) = true := decide_eq_true c5
     clear c5
     obtain ⟨ji6, hji6⟩ : ∃ j_ : Int, (wrap64 (3 * x14_1)) = j_ := ⟨_, rfl⟩
     replace H : (if 0 ≤ (ji6) then (if (ji6) ≤ (wrap64 ((ji6) + 3)) then (if (wrap64 ((ji6) + 3)) ≤ (a0.size : Int) then ((impl_ReadPoint.f k1 (a0.extract ((ji6) : Int).toNat ((wrap64 ((ji6) + 3)) : Int).toNat)).bind fun bt569 => (if bt569.2.2.2 = true then (if x569000_1.length < 5864062014805 then (impl_ReadCommittee.l0 k1 a0 (wrap64 (x14_1 + 1)) (x569000_1 ++ [(⟨bt569.1, bt569.2.1, bt569.2.2.1⟩ : S48)])) else (none)) else (some (([] : List (S48)), false)))) else (none)) else (none)) else (none)) = some (r1, r2) := by first | (rw [hji6] at H; exact H) | (simp only [hji6] at H ⊢; exact H)
     have hji6w : (IntKind.i64.wrap (3 * x14_1)) = ji6 := (i64_w _).trans hji6
     by_cases c7 : 0 ≤ (ji6)
     ·rw [if_pos c7] at H
      have c7b0 := eq_true c7
      have c7b1 : decide (0 ≤ (ji6)) = true := decide_eq_true c7
      clear c7
      by_cases c8 : (ji6) ≤ (wrap64 ((ji6) + 3))
      ·rw [if_pos c8] at H
       have c8b0 := eq_true c8
       have c8b1 : decide ((ji6) ≤ (wrap64 ((ji6) + 3))) = true := decide_eq_true c8
       by_cases c9 : (wrap64 ((ji6) + 3)) ≤ (a0.size : Int)
       ·rw [if_pos c9] at H
        have c9b0 := eq_true c9
        have c9b1 : decide ((wrap64 ((ji6) + 3)) ≤ (a0.size : Int)) = true := decide_eq_true c9
        replace H := Option.bind_eq_some_iff.mp H
        obtain ⟨⟨t569, t570, t571, t572⟩, A100, H⟩ := H
        replace H : (if t572 = true then (if x569000_1.length < 5864062014805 then (impl_ReadCommittee.l0 k1 a0 (wrap64 (x14_1 + 1)) (x569000_1 ++ [(⟨t569, t570, t571⟩ : S48)])) else (none)) else (some (([] : List (S48)), false))) = some (r1, r2) := H
        have A10 := Aside0.mk A100
        clear A100
        by_cases c11 : t572 = true
        ·subst c11
         have H1 : (if x569000_1.length < 5864062014805 then (impl_ReadCommittee.l0 k1 a0 (wrap64 (x14_1 + 1)) (x569000_1 ++ [(⟨t569, t570, t571⟩ : S48)])) else (none)) = some (r1, r2) := by rw [if_pos rfl] at H; exact H
         clear H
         have H := H1
         clear H1
         by_cases c12 : x569000_1.length < 5864062014805
         ·rw [if_pos c12] at H
          have LMc12 := Aside0.mk c12
          clear c12
          obtain ⟨y574, hy574⟩ : ∃ y_ : List (S48), y_ = (x569000_1 ++ [(⟨t569, t570, t571⟩ : S48)]) := ⟨_, rfl⟩
          replace H : (impl_ReadCommittee.l0 k1 a0 (wrap64 (x14_1 + 1)) y574) = some (r1, r2) := by first | (rw [hy574]; with_reducible exact H) | (have H2_ := (Option.bind_some _ _).symm.trans H; rw [hy574]; with_reducible exact H2_) | (have H2_ := (Option.bind_some _ _).symm.trans H; with_reducible exact H2_) | with_reducible exact H | (rw [hy574]; exact H) | exact H
          have Ny574 := Aside0.mk hy574
          clear hy574
          have H' := Aside0.mk H
          clear H
          go_wp2_with (first | ((with_reducible refine gate_callee (f := 43) rfl ?_); refine goesL_ (some 25) rfl rfl Try.func43 (by kernel_rfl) rfl #[.string (a0.extract ((ji6) : Int).toNat ((wrap64 ((ji6) + 3)) : Int).toNat)] rfl (by (try simp only [List.map_toArray, List.map_cons, List.map_nil]); first | done | (simp only [hji6]; rfl) | rfl | (simp only [List.length_drop, List.length_take]; rfl)) ?_; (with_reducible refine (impl_ReadPoint.calls k1 (a0.extract ((ji6) : Int).toNat ((wrap64 ((ji6) + 3)) : Int).toNat) t569 t570 t571 true _ A10.out).mono ?_); rintro e w13 ⟨rfl, hb⟩; refine ⟨_, rfl, ?_⟩; replace HO_569000 := Aside0.mk (Kd.R_below (by (with_reducible repeat (first | apply Kd.R_alloc | apply Kd.R_drewN | apply Kd.R_drew)); exact HO_569000.out) hb); replace BK567 := bB BK567 hb; replace BK568 := bB BK568 hb; replace HB := bS HB hb; (try clear hb); (try clear hb2); (try clear hk); (try clear hi)) | ((with_reducible refine gate_dst (N := 6) rfl ?_); refine box_event ?hg (N := 6) ?hd (cs := #[.int .i64 0, .int .i64 0, .bool false]) (t := 48) ?hr ?_; (case hd => rfl); (case hg => rfl); (case hr => first | (go_simp; done) | (go_simp; rfl)); intro gb573 hg w14 hbox hb; replace HO_569000 := Aside0.mk (Kd.R_below (Kd.R_elderB (by (with_reducible repeat (first | apply Kd.R_alloc | apply Kd.R_drewN | apply Kd.R_drew)); exact HO_569000.out) gb573 (Nat.le_of_eq hg.symm)) hb); have BK573 := Aside0.mk (hbox); have GW573 := bG HB hg; have GE573 := bG HB hg; replace HB := bS HB hb; have NB567_573 := bL BK567 hg; have NB573_567 := bR BK567 hg; replace BK567 := bB BK567 hb; have NB568_573 := bL BK568 hg; have NB573_568 := bR BK568 hg; replace BK568 := bB BK568 hb; clear hb hbox hg; have hnb15 := NB573_567.out; have hnc15 := NB567_573.out; have hnb16 := NB573_568.out; have hnc16 := NB568_573.out; have hcz17_0 : w14.cell? ⟨gb573, 0, none⟩ = some (.int .i64 0) := bc BK573 0; have hcz17_1 : w14.cell? ⟨gb573, 1, none⟩ = some (.int .i64 0) := bc BK573 1; have hcz17_2 : w14.cell? ⟨gb573, 2, none⟩ = some (.bool false) := bc BK573 2; have hfz17_0 := blk_frozen BK573.out 0; have hfz17_1 := blk_frozen BK573.out 1; have hfz17_2 := blk_frozen BK573.out 2; have hnb18 := NB568_567.out; have hnc18 := NB567_568.out; have hcz19_0 : w14.cell? ⟨gb568, 0, none⟩ = some (u569000) := bc BK568 0; have hfz19_0 := blk_frozen BK568.out 0) | ((with_reducible refine gate_builtin (b := .append) (xs := #[.tmp 32, .tmp 34]) rfl ?_); at_builtin; refine Kd.R_append k48 (w0 := w) w.heap.size rfl (.tmp 32) (.tmp 34) 27 48 (.agg #[(.int .i64 0), (.int .i64 0), (.bool false)]) 24 rfl Try.underlying27 info48 rfl (by decide) (by omega) u569000 x569000_1 (⟨t569, t570, t571⟩ : S48) [.int .i64 t569, .int .i64 t570, .bool t571] (fun k_ => k_ ≠ gb573) (fun _ => False) rfl (by first | (go_simp; done) | (go_simp; rfl)) ?aP (fun _ hk => hk.elim) ?aF ?aO ?aB ?aS ?aL ?_; (case aP => exact k48_mkM _ _ _ (⟨t569, t570, t571⟩ : S48)); (case aB => exact (bZ HB)); (case aF => exact (fun k_ hk => Kd.freshB (g := gb573) (o := .cells #[.int .i64 t569, .int .i64 t570, .bool t571] 48 (0, 0)) (by (with_reducible repeat (first | refine blk_drewN ?_ _ | refine blk_drew ?_ | refine blk_alloc ?_ _)); refine blk_put (cs := #[.int .i64 t569, .int .i64 t570, .bool false]) ?_ 2 _ rfl; (with_reducible repeat (first | refine blk_drewN ?_ _ | refine blk_drew ?_ | refine blk_alloc ?_ _)); refine blk_put (cs := #[.int .i64 t569, .int .i64 0, .bool false]) ?_ 1 _ rfl; (with_reducible repeat (first | refine blk_drewN ?_ _ | refine blk_drew ?_ | refine blk_alloc ?_ _)); refine blk_put (cs := #[.int .i64 0, .int .i64 0, .bool false]) ?_ 0 _ rfl; (with_reducible repeat (first | refine blk_drewN ?_ _ | refine blk_drew ?_ | refine blk_alloc ?_ _)); exact BK573.out) k_ hk)); (case aO => exact (by (with_reducible repeat (first | apply Kd.R_alloc | apply Kd.R_drewN | apply Kd.R_drew)); exact Kd.R_mono (Kd.R_far (p := ⟨gb573, 2, none⟩) (Kd.R_far (p := ⟨gb573, 1, none⟩) (Kd.R_far (p := ⟨gb573, 0, none⟩) (Kd.R_mono HO_569000.out (fun k_ hk => (⟨hk, hk.2⟩ : _ ∧ k_ ≠ gb573))) (fun _ hk => hk.2) (.int .i64 t569)) (fun _ hk => hk.2) (.int .i64 t570)) (fun _ hk => hk.2) (.bool t571)) (fun _ hk => hk.1.2))); (case aS => exact (below_size (bZ HB))); (case aL => have := LMc12.out; omega); intro v575 w20 ho hb hg hat; rw [← Ny574.out] at ho; replace BK567 := Aside0.mk (blk_grown (bP BK567) hg (Kd.R_ne HO_569000.out BK567.out (by decide))); replace BK568 := Aside0.mk (blk_grown (bP BK568) hg (Kd.R_ne HO_569000.out BK568.out (by decide))); replace BK573 := Aside0.mk (blk_grown (g := gb573) (o := .cells #[.int .i64 t569, .int .i64 t570, .bool t571] 48 (0, 0)) (by (with_reducible repeat (first | refine blk_drewN ?_ _ | refine blk_drew ?_ | refine blk_alloc ?_ _)); refine blk_put (cs := #[.int .i64 t569, .int .i64 t570, .bool false]) ?_ 2 _ rfl; (with_reducible repeat (first | refine blk_drewN ?_ _ | refine blk_drew ?_ | refine blk_alloc ?_ _)); refine blk_put (cs := #[.int .i64 t569, .int .i64 0, .bool false]) ?_ 1 _ rfl; (with_reducible repeat (first | refine blk_drewN ?_ _ | refine blk_drew ?_ | refine blk_alloc ?_ _)); refine blk_put (cs := #[.int .i64 0, .int .i64 0, .bool false]) ?_ 0 _ rfl; (with_reducible repeat (first | refine blk_drewN ?_ _ | refine blk_drew ?_ | refine blk_alloc ?_ _)); exact BK573.out) hg (Kd.R_away HO_569000.out (fun _ hk => hk.2))); replace HB := Aside0.mk (hb); have HO576 := Aside0.mk (ho); clear HO_569000; clear ho hb hg hat; obtain ⟨Ao21, co21, eo21⟩ := Kd.R_slice HO576.out; subst eo21; have hcz22_0 : w20.cell? ⟨gb568, 0, none⟩ = some (u569000) := bc BK568 0; have hfz22_0 := blk_frozen BK568.out 0))
          go_roundg k1
          case measure => have := HK1.out; omega
          case rel => exact ⟨(wrap64 (x14_1 + 1)), (y574), (.slice Ao21 y574.length co21), (by first | rfl | (simp; done) | (simp [*]; done)), H', ⟨by have := HK1.out; omega⟩, ⟨by (with_reducible repeat (first | apply Kd.R_alloc | apply Kd.R_drewN | apply Kd.R_drew)); exact Kd.R_mono (Kd.R_far (p := ⟨gb568, 0, none⟩) (Kd.R_types HO576.out BK568.out (by decide)) (fun _ hk => hk.2) (.slice Ao21 y574.length co21)) (fun _ hk => trivial)⟩, ⟨bP BK567⟩, ⟨by (with_reducible repeat (first | refine blk_drewN ?_ _ | refine blk_drew ?_ | refine blk_alloc ?_ _)); refine blk_put (cs := #[u569000]) ?_ 0 _ rfl; (with_reducible repeat (first | refine blk_drewN ?_ _ | refine blk_drew ?_ | refine blk_alloc ?_ _)); exact BK568.out⟩, ⟨bZ HB⟩⟩
         ·rw [if_neg c12] at H
          exact absurd H (by simp)
        ·replace c11 := Bool.eq_false_iff.mpr c11
         subst c11
         have H1 : (some (([] : List (S48)), false)) = some (r1, r2) := by rw [if_neg (show ¬ (false = true) by decide)] at H; exact H
         clear H
         have H := H1
         clear H1
         simp only [Option.some.injEq, Prod.mk.injEq] at H
         obtain ⟨rfl, rfl⟩ := H
         go_wp2_with (first | ((with_reducible refine gate_callee (f := 43) rfl ?_); refine goesL_ (some 25) rfl rfl Try.func43 (by kernel_rfl) rfl #[.string (a0.extract ((ji6) : Int).toNat ((wrap64 ((ji6) + 3)) : Int).toNat)] rfl (by (try simp only [List.map_toArray, List.map_cons, List.map_nil]); first | done | (simp only [hji6]; rfl) | rfl | (simp only [List.length_drop, List.length_take]; rfl)) ?_; (with_reducible refine (impl_ReadPoint.calls k1 (a0.extract ((ji6) : Int).toNat ((wrap64 ((ji6) + 3)) : Int).toNat) t569 t570 t571 false _ A10.out).mono ?_); rintro e w23 ⟨rfl, hb⟩; refine ⟨_, rfl, ?_⟩; replace HO_569000 := Aside0.mk (Kd.R_below (by (with_reducible repeat (first | apply Kd.R_alloc | apply Kd.R_drewN | apply Kd.R_drew)); exact HO_569000.out) hb); replace BK567 := bB BK567 hb; replace BK568 := bB BK568 hb; replace HB := bS HB hb; (try clear hb); (try clear hb2); (try clear hk); (try clear hi)) | ((with_reducible refine gate_dst (N := 6) rfl ?_); refine box_event ?hg (N := 6) ?hd (cs := #[.int .i64 0, .int .i64 0, .bool false]) (t := 48) ?hr ?_; (case hd => rfl); (case hg => rfl); (case hr => first | (go_simp; done) | (go_simp; rfl)); intro gb573 hg w24 hbox hb; replace HO_569000 := Aside0.mk (Kd.R_below (Kd.R_elderB (by (with_reducible repeat (first | apply Kd.R_alloc | apply Kd.R_drewN | apply Kd.R_drew)); exact HO_569000.out) gb573 (Nat.le_of_eq hg.symm)) hb); have BK573 := Aside0.mk (hbox); have GW573 := bG HB hg; have GE573 := bG HB hg; replace HB := bS HB hb; have NB567_573 := bL BK567 hg; have NB573_567 := bR BK567 hg; replace BK567 := bB BK567 hb; have NB568_573 := bL BK568 hg; have NB573_568 := bR BK568 hg; replace BK568 := bB BK568 hb; clear hb hbox hg; have hnb25 := NB573_567.out; have hnc25 := NB567_573.out; have hnb26 := NB573_568.out; have hnc26 := NB568_573.out; have hcz27_0 : w24.cell? ⟨gb573, 0, none⟩ = some (.int .i64 0) := bc BK573 0; have hcz27_1 : w24.cell? ⟨gb573, 1, none⟩ = some (.int .i64 0) := bc BK573 1; have hcz27_2 : w24.cell? ⟨gb573, 2, none⟩ = some (.bool false) := bc BK573 2; have hfz27_0 := blk_frozen BK573.out 0; have hfz27_1 := blk_frozen BK573.out 1; have hfz27_2 := blk_frozen BK573.out 2; have hnb28 := NB567_568.out; have hnc28 := NB568_567.out; have hcz29_0 : w24.cell? ⟨gb567, 0, none⟩ = some (.slice none 0 0) := bc BK567 0; have hfz29_0 := blk_frozen BK567.out 0))
         refine bodyPost_ret (results_ct rfl _ _ gb567 29 #[.slice none 0 0] (0, 0) _ rfl (by (with_reducible repeat (first | refine blk_drewN ?_ _ | refine blk_drew ?_ | refine blk_alloc ?_ _)); refine blk_put (cs := #[.slice none 0 0]) ?_ 0 _ rfl; (with_reducible repeat (first | refine blk_drewN ?_ _ | refine blk_drew ?_ | refine blk_alloc ?_ _)); refine blk_far ?_ NB567_573.out _; (with_reducible repeat (first | refine blk_drewN ?_ _ | refine blk_drew ?_ | refine blk_alloc ?_ _)); refine blk_far ?_ NB567_573.out _; (with_reducible repeat (first | refine blk_drewN ?_ _ | refine blk_drew ?_ | refine blk_alloc ?_ _)); refine blk_far ?_ NB567_573.out _; (with_reducible repeat (first | refine blk_drewN ?_ _ | refine blk_drew ?_ | refine blk_alloc ?_ _)); exact BK567.out) Try.underlying29 rfl (by kernel_rfl)) rfl ?_
         exact ⟨_, by first | rfl | (simp [errW_none, errW_some] <;> rfl) | (simp only [← hji6]; first | rfl | (simp [errW_none, errW_some] <;> rfl)) | (simp [*, errW_none, errW_some] <;> rfl), by first | exact Kd.R_nil _ _ _ _ _ | exact Kd.N_nil _ _ _ _ _ | exact Kd.V_nil _ _ _ _ _ | exact Kd.Q_nil _ _ _ _ _ | exact Kd.S_nil _ _ _ _ _, bZ HB⟩
       ·rw [if_neg c9] at H
        exact absurd H (by simp)
      ·rw [if_neg c8] at H
       exact absurd H (by simp)
     ·rw [if_neg c7] at H
      exact absurd H (by simp)
    ·rw [if_neg c5] at H
     have c5b0 : decide (x14_1 < 8) = false := decide_eq_false c5
     clear c5
     replace H := Option.bind_eq_some_iff.mp H
     obtain ⟨⟨t577, t578⟩, A300, H⟩ := H
     replace H : (if t578 = true then (if t577.toList = a0.toList then (some (x569000_1, true)) else (some (([] : List (S48)), false))) else (some (([] : List (S48)), false))) = some (r1, r2) := H
     have A30 := Aside0.mk A300
     clear A300
     by_cases c31 : t578 = true
     ·subst c31
      have H1 : (if t577.toList = a0.toList then (some (x569000_1, true)) else (some (([] : List (S48)), false))) = some (r1, r2) := by rw [if_pos rfl] at H; exact H
      clear H
      have H := H1
      clear H1
      by_cases c32 : t577.toList = a0.toList
      ·rw [if_pos c32] at H
       have c32b0 : (t577.toList == a0.toList) = true := beq_iff_eq.mpr c32
       have c32b1 : (t577.toList != a0.toList) = false := bne_eq_false_iff_eq.mpr c32
       clear c32
       simp only [Option.some.injEq, Prod.mk.injEq] at H
       obtain ⟨rfl, rfl⟩ := H
       have hnb33 := NB568_567.out
       have hnc33 := NB567_568.out
       have hcz34_0 : wr.cell? ⟨gb568, 0, none⟩ = some (u569000) := bc BK568 0
       have hfz34_0 := blk_frozen BK568.out 0
       obtain ⟨Ao35, co35, eo35⟩ := Kd.R_slice HO_569000.out
       subst eo35
       go_wp2_with (first | ((with_reducible refine gate_callee (f := 23) rfl ?_); refine goesL_ (some 40) rfl rfl Try.func23 (by kernel_rfl) rfl #[.agg #[.slice Ao35 x569000_1.length co35]] rfl (by (try simp only [List.map_toArray, List.map_cons, List.map_nil]); first | done | rfl | (simp only [List.length_drop, List.length_take]; rfl)) ?_; (with_reducible refine (impl_CommitteeText.calls k1 _ _ x569000_1 t577 true _ ?side1 ?side2 A30.out).mono ?_); (case side1 => repeat (first | exact (Kd.R_reads' HO_569000.out).2.2 | (with_reducible refine Kd.C_alloc ?_ _) | (with_reducible refine Kd.C_drewN ?_ _) | (with_reducible refine Kd.C_drew ?_))); (case side2 => exact (Kd.R_reads' HO_569000.out).2.1); rintro e w36 ⟨rfl, hb⟩; refine ⟨_, rfl, ?_⟩; replace HO_569000 := Aside0.mk (Kd.R_below (by (with_reducible repeat (first | apply Kd.R_alloc | apply Kd.R_drewN | apply Kd.R_drew)); exact HO_569000.out) hb); replace BK567 := bB BK567 hb; replace BK568 := bB BK568 hb; replace HB := bS HB hb; (try clear hb); (try clear hb2); (try clear hk); (try clear hi); have hcz37_0 : w36.cell? ⟨gb568, 0, none⟩ = some (.slice Ao35 x569000_1.length co35) := bc BK568 0; have hfz37_0 := blk_frozen BK568.out 0; have hcz38_0 : w36.cell? ⟨gb567, 0, none⟩ = some (.slice none 0 0) := bc BK567 0; have hfz38_0 := blk_frozen BK567.out 0))
       refine bodyPost_ret (results_ct rfl _ _ gb567 29 #[.slice Ao35 x569000_1.length co35] (0, 0) _ rfl (by (with_reducible repeat (first | refine blk_drewN ?_ _ | refine blk_drew ?_ | refine blk_alloc ?_ _)); refine blk_put (cs := #[.slice none 0 0]) ?_ 0 _ rfl; (with_reducible repeat (first | refine blk_drewN ?_ _ | refine blk_drew ?_ | refine blk_alloc ?_ _)); exact BK567.out) Try.underlying29 rfl (by kernel_rfl)) rfl ?_
       exact ⟨_, by first | rfl | (simp [errW_none, errW_some] <;> rfl) | (simp [*, errW_none, errW_some] <;> rfl), by (with_reducible repeat (first | apply Kd.R_alloc | apply Kd.R_drewN | apply Kd.R_drew)); exact Kd.R_mono (Kd.R_far (p := ⟨gb567, 0, none⟩) (Kd.R_types HO_569000.out BK567.out (by decide)) (fun _ hk => hk.2) (.slice Ao35 x569000_1.length co35)) (fun _ hk => trivial), bZ HB⟩
      ·rw [if_neg c32] at H
       have c32b0 : (t577.toList == a0.toList) = false := beq_eq_false_iff_ne.mpr c32
       have c32b1 : (t577.toList != a0.toList) = true := bne_iff_ne.mpr c32
       simp only [Option.some.injEq, Prod.mk.injEq] at H
       obtain ⟨rfl, rfl⟩ := H
       have hnb39 := NB568_567.out
       have hnc39 := NB567_568.out
       have hcz40_0 : wr.cell? ⟨gb568, 0, none⟩ = some (u569000) := bc BK568 0
       have hfz40_0 := blk_frozen BK568.out 0
       obtain ⟨Ao41, co41, eo41⟩ := Kd.R_slice HO_569000.out
       subst eo41
       go_wp2_with (first | ((with_reducible refine gate_callee (f := 23) rfl ?_); refine goesL_ (some 40) rfl rfl Try.func23 (by kernel_rfl) rfl #[.agg #[.slice Ao41 x569000_1.length co41]] rfl (by (try simp only [List.map_toArray, List.map_cons, List.map_nil]); first | done | rfl | (simp only [List.length_drop, List.length_take]; rfl)) ?_; (with_reducible refine (impl_CommitteeText.calls k1 _ _ x569000_1 t577 true _ ?side1 ?side2 A30.out).mono ?_); (case side1 => repeat (first | exact (Kd.R_reads' HO_569000.out).2.2 | (with_reducible refine Kd.C_alloc ?_ _) | (with_reducible refine Kd.C_drewN ?_ _) | (with_reducible refine Kd.C_drew ?_))); (case side2 => exact (Kd.R_reads' HO_569000.out).2.1); rintro e w42 ⟨rfl, hb⟩; refine ⟨_, rfl, ?_⟩; replace HO_569000 := Aside0.mk (Kd.R_below (by (with_reducible repeat (first | apply Kd.R_alloc | apply Kd.R_drewN | apply Kd.R_drew)); exact HO_569000.out) hb); replace BK567 := bB BK567 hb; replace BK568 := bB BK568 hb; replace HB := bS HB hb; (try clear hb); (try clear hb2); (try clear hk); (try clear hi); have hcz43_0 : w42.cell? ⟨gb567, 0, none⟩ = some (.slice none 0 0) := bc BK567 0; have hfz43_0 := blk_frozen BK567.out 0))
       refine bodyPost_ret (results_ct rfl _ _ gb567 29 #[.slice none 0 0] (0, 0) _ rfl (by (with_reducible repeat (first | refine blk_drewN ?_ _ | refine blk_drew ?_ | refine blk_alloc ?_ _)); refine blk_put (cs := #[.slice none 0 0]) ?_ 0 _ rfl; (with_reducible repeat (first | refine blk_drewN ?_ _ | refine blk_drew ?_ | refine blk_alloc ?_ _)); exact BK567.out) Try.underlying29 rfl (by kernel_rfl)) rfl ?_
       exact ⟨_, by first | rfl | (simp [errW_none, errW_some] <;> rfl) | (simp [*, errW_none, errW_some] <;> rfl), by first | exact Kd.R_nil _ _ _ _ _ | exact Kd.N_nil _ _ _ _ _ | exact Kd.V_nil _ _ _ _ _ | exact Kd.Q_nil _ _ _ _ _ | exact Kd.S_nil _ _ _ _ _, bZ HB⟩
     ·replace c31 := Bool.eq_false_iff.mpr c31
      subst c31
      have H1 : (some (([] : List (S48)), false)) = some (r1, r2) := by rw [if_neg (show ¬ (false = true) by decide)] at H; exact H
      clear H
      have H := H1
      clear H1
      simp only [Option.some.injEq, Prod.mk.injEq] at H
      obtain ⟨rfl, rfl⟩ := H
      have hnb44 := NB568_567.out
      have hnc44 := NB567_568.out
      have hcz45_0 : wr.cell? ⟨gb568, 0, none⟩ = some (u569000) := bc BK568 0
      have hfz45_0 := blk_frozen BK568.out 0
      obtain ⟨Ao46, co46, eo46⟩ := Kd.R_slice HO_569000.out
      subst eo46
      go_wp2_with (first | ((with_reducible refine gate_callee (f := 23) rfl ?_); refine goesL_ (some 40) rfl rfl Try.func23 (by kernel_rfl) rfl #[.agg #[.slice Ao46 x569000_1.length co46]] rfl (by (try simp only [List.map_toArray, List.map_cons, List.map_nil]); first | done | rfl | (simp only [List.length_drop, List.length_take]; rfl)) ?_; (with_reducible refine (impl_CommitteeText.calls k1 _ _ x569000_1 t577 false _ ?side1 ?side2 A30.out).mono ?_); (case side1 => repeat (first | exact (Kd.R_reads' HO_569000.out).2.2 | (with_reducible refine Kd.C_alloc ?_ _) | (with_reducible refine Kd.C_drewN ?_ _) | (with_reducible refine Kd.C_drew ?_))); (case side2 => exact (Kd.R_reads' HO_569000.out).2.1); rintro e w47 ⟨rfl, hb⟩; refine ⟨_, rfl, ?_⟩; replace HO_569000 := Aside0.mk (Kd.R_below (by (with_reducible repeat (first | apply Kd.R_alloc | apply Kd.R_drewN | apply Kd.R_drew)); exact HO_569000.out) hb); replace BK567 := bB BK567 hb; replace BK568 := bB BK568 hb; replace HB := bS HB hb; (try clear hb); (try clear hb2); (try clear hk); (try clear hi); have hcz48_0 : w47.cell? ⟨gb567, 0, none⟩ = some (.slice none 0 0) := bc BK567 0; have hfz48_0 := blk_frozen BK567.out 0))
      refine bodyPost_ret (results_ct rfl _ _ gb567 29 #[.slice none 0 0] (0, 0) _ rfl (by (with_reducible repeat (first | refine blk_drewN ?_ _ | refine blk_drew ?_ | refine blk_alloc ?_ _)); refine blk_put (cs := #[.slice none 0 0]) ?_ 0 _ rfl; (with_reducible repeat (first | refine blk_drewN ?_ _ | refine blk_drew ?_ | refine blk_alloc ?_ _)); exact BK567.out) Try.underlying29 rfl (by kernel_rfl)) rfl ?_
      exact ⟨_, by first | rfl | (simp [errW_none, errW_some] <;> rfl) | (simp [*, errW_none, errW_some] <;> rfl), by first | exact Kd.R_nil _ _ _ _ _ | exact Kd.N_nil _ _ _ _ _ | exact Kd.V_nil _ _ _ _ _ | exact Kd.Q_nil _ _ _ _ _ | exact Kd.S_nil _ _ _ _ _, bZ HB⟩
 ·rw [if_neg c2] at H
  have c2b0 : ((a0.size : Int) == 27) = false := beq_eq_false_iff_ne.mpr c2
  have c2b1 : ((a0.size : Int) != 27) = true := bne_iff_ne.mpr c2
  simp only [Option.some.injEq, Prod.mk.injEq] at H
  obtain ⟨rfl, rfl⟩ := H
  go_enter Try.func25, Try.ntmps25
  go_wp2_with (first | ((with_reducible refine gate_dst (N := 2) rfl ?_); refine box_event ?hg (N := 2) ?hd (cs := #[.slice none 0 0]) (t := 29) ?hr ?_; (case hd => rfl); (case hg => rfl); (case hr => first | (go_simp; done) | (go_simp; rfl)); intro gb567 hg w49 hbox hb; have BK567 := Aside0.mk (hbox); have GW567 := bG HB hg; have GE567 := bG HB hg; replace HB := bS HB hb; clear hb hbox hg; have hcz50_0 : w49.cell? ⟨gb567, 0, none⟩ = some (.slice none 0 0) := bc BK567 0; have hfz50_0 := blk_frozen BK567.out 0))
  refine bodyPost_ret (results_ct rfl _ _ gb567 29 #[.slice none 0 0] (0, 0) _ rfl (by (with_reducible repeat (first | refine blk_drewN ?_ _ | refine blk_drew ?_ | refine blk_alloc ?_ _)); refine blk_put (cs := #[.slice none 0 0]) ?_ 0 _ rfl; (with_reducible repeat (first | refine blk_drewN ?_ _ | refine blk_drew ?_ | refine blk_alloc ?_ _)); exact BK567.out) Try.underlying29 rfl (by kernel_rfl)) rfl ?_
  exact ⟨_, by first | rfl | (simp [errW_none, errW_some] <;> rfl) | (simp [*, errW_none, errW_some] <;> rfl), by first | exact Kd.R_nil _ _ _ _ _ | exact Kd.N_nil _ _ _ _ _ | exact Kd.V_nil _ _ _ _ _ | exact Kd.Q_nil _ _ _ _ _ | exact Kd.S_nil _ _ _ _ _, bZ HB⟩
end Go.Proofs.Ytogcobdgnkiopaa.Pf
end
section
namespace Go.Proofs.Ytogcobdgnkiopaa.Pf
open Go.RowKit Go.Proofs.YtogcobdgnkiopaaW.PrintWords Go.Proofs.YtogcobdgnkiopaaW.PrintLast Go.Proofs.YtogcobdgnkiopaaW.PrintMore
attribute [local go_sem] max2_int min2_int max_two min_two max_three min_three max_four min_four   -- for this text's walks alone
set_option linter.unusedVariables false
set_option linter.unusedSimpArgs false

/-! ### laws_FnExactReadCommittee: function 7 -/
mutual
def laws_FnExactReadCommittee.j0 : Nat → ByteArray → Bool → Bool → List (S48) → List (S48) → Option (Bool)
 | 0, _, _, _, _, _ => none
 | k + 1, x0, x4, x32, x584000, x589000 => if x32 = true then (some false) else ((laws_markCommittee.f k x589000 1).bind fun bt590 => ((laws_heldCommittee.f k bt590.2 1).bind fun t592 => (if t592 < 0 then (some false) else (if t592 = bt590.1 then ((impl_ReadCommittee.f k x0).bind fun bt593 => ((laws_eqCommittee.f k bt593.1 x584000).bind fun t598 => (if t598 = true then (laws_FnExactReadCommittee.j1 k bt590.1 (bt593.2 != x4) bt590.2) else (laws_FnExactReadCommittee.j1 k bt590.1 true bt590.2)))) else (some false)))))
def laws_FnExactReadCommittee.j1 : Nat → Int → Bool → List (S48) → Option (Bool)
 | 0, _, _, _ => none
 | k + 1, x7, x57, x589000 => if x57 = true then (some false) else ((laws_heldCommittee.f k x589000 1).bind fun t599 => (if t599 < 0 then (some false) else (if t599 = x7 then (some true) else (some false))))
end
def laws_FnExactReadCommittee.f (k : Nat) (a0 : ByteArray) : Option (Bool) := if (a0.size : Int) > 1048576 then (some true) else ((spec_ReadCommittee.f k a0).bind fun bt579 => ((impl_ReadCommittee.f k a0).bind fun bt584 => ((laws_eqCommittee.f k bt584.1 bt579.1).bind fun t589 => (if t589 = true then (laws_FnExactReadCommittee.j0 k a0 bt579.2 (bt584.2 != bt579.2) bt579.1 bt584.1) else (laws_FnExactReadCommittee.j0 k a0 bt579.2 true bt579.1 bt584.1)))))
theorem laws_FnExactReadCommittee.mono_l : ∀ k, (∀ y0 y1 y2 y3 y4, LeO (laws_FnExactReadCommittee.j0 k y0 y1 y2 y3 y4) (laws_FnExactReadCommittee.j0 (k + 1) y0 y1 y2 y3 y4)) ∧ (∀ y0 y1 y2, LeO (laws_FnExactReadCommittee.j1 k y0 y1 y2) (laws_FnExactReadCommittee.j1 (k + 1) y0 y1 y2))
 | 0 => ⟨fun _ _ _ _ _ r h => by simp [laws_FnExactReadCommittee.j0] at h, fun _ _ _ r h => by simp [laws_FnExactReadCommittee.j1] at h⟩
 | k + 1 => by
  obtain ⟨ih0, ih1⟩ := laws_FnExactReadCommittee.mono_l k
  refine ⟨?_, ?_⟩
  ·intro y0 y1 y2 y3 y4
   unfold laws_FnExactReadCommittee.j0
   repeat' first
   | (with_reducible exact ih0 _ _ _ _ _)
   | (with_reducible exact ih1 _ _ _)
   | (with_reducible exact impl_ReadCommittee.mono _ _)
   | (with_reducible exact laws_eqCommittee.mono _ _ _)
   | (with_reducible exact laws_heldCommittee.mono _ _ _)
   | (with_reducible exact laws_markCommittee.mono _ _ _)
   | (with_reducible exact spec_ReadCommittee.mono _ _)
   | (with_reducible exact LeO.refl _)
   | (with_reducible exact LeO.none _)
   | (with_reducible refine LeO.ite ?_ ?_)
   | (with_reducible refine LeO.bind ?_ (fun _ => ?_))
   | exact ih0 _ _ _ _ _
   | exact ih1 _ _ _
   | exact impl_ReadCommittee.mono _ _
   | exact laws_eqCommittee.mono _ _ _
   | exact laws_heldCommittee.mono _ _ _
   | exact laws_markCommittee.mono _ _ _
   | exact spec_ReadCommittee.mono _ _
   | exact LeO.none _
   | refine LeO.ite ?_ ?_
   | refine LeO.bind ?_ (fun _ => ?_)
  ·intro y0 y1 y2
   unfold laws_FnExactReadCommittee.j1
   repeat' first
   | (with_reducible exact ih0 _ _ _ _ _)
   | (with_reducible exact ih1 _ _ _)
   | (with_reducible exact impl_ReadCommittee.mono _ _)
   | (with_reducible exact laws_eqCommittee.mono _ _ _)
   | (with_reducible exact laws_heldCommittee.mono _ _ _)
   | (with_reducible exact laws_markCommittee.mono _ _ _)
   | (with_reducible exact spec_ReadCommittee.mono _ _)
   | (with_reducible exact LeO.refl _)
   | (with_reducible exact LeO.none _)
   | (with_reducible refine LeO.ite ?_ ?_)
   | (with_reducible refine LeO.bind ?_ (fun _ => ?_))
   | exact ih0 _ _ _ _ _
   | exact ih1 _ _ _
   | exact impl_ReadCommittee.mono _ _
   | exact laws_eqCommittee.mono _ _ _
   | exact laws_heldCommittee.mono _ _ _
   | exact laws_markCommittee.mono _ _ _
   | exact spec_ReadCommittee.mono _ _
   | exact LeO.none _
   | refine LeO.ite ?_ ?_
   | refine LeO.bind ?_ (fun _ => ?_)
theorem laws_FnExactReadCommittee.mono : ∀ a0 k, LeO (laws_FnExactReadCommittee.f k a0) (laws_FnExactReadCommittee.f (k + 1) a0) := by
 intro a0 k
 obtain ⟨ih0, ih1⟩ := laws_FnExactReadCommittee.mono_l k
 unfold laws_FnExactReadCommittee.f
 repeat' first
   | (with_reducible exact ih0 _ _ _ _ _)
   | (with_reducible exact ih1 _ _ _)
   | (with_reducible exact impl_ReadCommittee.mono _ _)
   | (with_reducible exact laws_eqCommittee.mono _ _ _)
   | (with_reducible exact laws_heldCommittee.mono _ _ _)
   | (with_reducible exact laws_markCommittee.mono _ _ _)
   | (with_reducible exact spec_ReadCommittee.mono _ _)
   | (with_reducible exact LeO.refl _)
   | (with_reducible exact LeO.none _)
   | (with_reducible refine LeO.ite ?_ ?_)
   | (with_reducible refine LeO.bind ?_ (fun _ => ?_))
   | exact ih0 _ _ _ _ _
   | exact ih1 _ _ _
   | exact impl_ReadCommittee.mono _ _
   | exact laws_eqCommittee.mono _ _ _
   | exact laws_heldCommittee.mono _ _ _
   | exact laws_markCommittee.mono _ _ _
   | exact spec_ReadCommittee.mono _ _
   | exact LeO.none _
   | refine LeO.ite ?_ ?_
   | refine LeO.bind ?_ (fun _ => ?_)
set_option maxHeartbeats 8000000 in
set_option maxRecDepth 100000 in
theorem laws_FnExactReadCommittee.calls (k : Nat) (a0 : ByteArray) (r : Bool) (w : World) (htrue : Aside0 (r = true)) (h : laws_FnExactReadCommittee.f k a0 = some r) :
  Calls Try.prog 7 #[.string a0] w fun e w' => e = .returned (.bool r) ∧ Below w.heap.size w w' := by
 have hu29 := Try.underlying29
 have HB := Aside0.mk (Below.refl w.heap.size w)
 have H : (if (a0.size : Int) > 1048576 then (some true) else ((spec_ReadCommittee.f k a0).bind fun bt579 => ((impl_ReadCommittee.f k a0).bind fun bt584 => ((laws_eqCommittee.f k bt584.1 bt579.1).bind fun t589 => (if t589 = true then (laws_FnExactReadCommittee.j0 k a0 bt579.2 (bt584.2 != bt579.2) bt579.1 bt584.1) else (laws_FnExactReadCommittee.j0 k a0 bt579.2 true bt579.1 bt584.1)))))) = some r := h
 clear h
 by_cases c2 : (a0.size : Int) > 1048576
 ·rw [if_pos c2] at H
  have c2b0 : decide (1048576 < (a0.size : Int)) = true := decide_eq_true c2
  have c2b1 : decide (1048576 < a0.size) = true := decide_eq_true (by omega)
  clear c2
  obtain rfl := Option.some.inj H
  go_enter Try.func7, Try.ntmps7
  go_wp2
  go_ret
  exact ⟨by first | rfl | (simp [errW_none, errW_some] <;> rfl) | (simp [*, errW_none, errW_some] <;> rfl), bZ HB⟩
 ·rw [if_neg c2] at H
  have c2b0 : decide (1048576 < (a0.size : Int)) = false := decide_eq_false c2
  have c2b1 : decide (1048576 < a0.size) = false := decide_eq_false (by omega)
  clear c2
  replace H := Option.bind_eq_some_iff.mp H
  obtain ⟨⟨t579, t582⟩, A30, H⟩ := H
  replace H : ((impl_ReadCommittee.f k a0).bind fun bt584 => ((laws_eqCommittee.f k bt584.1 t579).bind fun t589 => (if t589 = true then (laws_FnExactReadCommittee.j0 k a0 t582 (bt584.2 != t582) t579 bt584.1) else (laws_FnExactReadCommittee.j0 k a0 t582 true t579 bt584.1)))) = some r := H
  have A3 := Aside0.mk A30
  clear A30
  replace H := Option.bind_eq_some_iff.mp H
  obtain ⟨⟨t584, t587⟩, A40, H⟩ := H
  replace H : ((laws_eqCommittee.f k t584 t579).bind fun t589 => (if t589 = true then (laws_FnExactReadCommittee.j0 k a0 t582 (t587 != t582) t579 t584) else (laws_FnExactReadCommittee.j0 k a0 t582 true t579 t584))) = some r := H
  have A4 := Aside0.mk A40
  clear A40
  have HC5 := Aside0.mk H
  clear H
  go_enter Try.func7, Try.ntmps7
  go_upto_region 5 with (first | ((with_reducible refine gate_callee (f := 24) rfl ?_); refine goesL_ (some 16) rfl rfl Try.func24 (by kernel_rfl) rfl #[.string a0] rfl (by (try simp only [List.map_toArray, List.map_cons, List.map_nil]); first | done | rfl | (simp only [List.length_drop, List.length_take]; rfl)) ?_; (with_reducible refine (spec_ReadCommittee.calls k a0 t579 t582 _ A3.out).mono ?_); rintro e w6 ⟨v580, rfl, ho0, hb⟩; refine ⟨_, rfl, ?_⟩; have HO581 := Aside0.mk (Kd.R_lower ho0 (below_size (bZ HB))); replace HB := bS HB hb; (try clear hb); (try clear hb2); (try clear hk); (try clear hi); (try clear ho0)) | ((with_reducible refine gate_dst (N := 3) rfl ?_); refine box_event ?hg (N := 3) ?hd (cs := #[.slice none 0 0]) (t := 29) ?hr ?_; (case hd => rfl); (case hg => rfl); (case hr => first | (go_simp; done) | (go_simp; rfl)); intro gb583 hg w7 hbox hb; replace HO581 := Aside0.mk (Kd.R_below (by (with_reducible repeat (first | apply Kd.R_alloc | apply Kd.R_drewN | apply Kd.R_drew)); exact HO581.out) hb); have BK583 := Aside0.mk (hbox); have GW583 := bG HB hg; have GE583 := bG HB hg; replace HB := bS HB hb; clear hb hbox hg; obtain ⟨Ao8, co8, eo8⟩ := Kd.R_slice HO581.out; subst eo8; have hcz9_0 : w7.cell? ⟨gb583, 0, none⟩ = some (.slice none 0 0) := bc BK583 0; have hfz9_0 := blk_frozen BK583.out 0) | ((with_reducible refine gate_callee (f := 25) rfl ?_); refine goesL_ (some 21) rfl rfl Try.func25 (by kernel_rfl) rfl #[.string a0] rfl (by (try simp only [List.map_toArray, List.map_cons, List.map_nil]); first | done | rfl | (simp only [List.length_drop, List.length_take]; rfl)) ?_; (with_reducible refine (impl_ReadCommittee.calls k a0 t584 t587 _ A4.out).mono ?_); rintro e w10 ⟨v585, rfl, ho0, hb⟩; refine ⟨_, rfl, ?_⟩; have HO586 := Aside0.mk (Kd.R_lower (Kd.R_new' ho0 (Kd.R_lt (by (with_reducible repeat (first | apply Kd.R_alloc | apply Kd.R_drewN | apply Kd.R_drew)); exact (Kd.R_mono (Kd.R_far (p := ⟨gb583, 0, none⟩) (Kd.R_types HO581.out BK583.out (by decide)) (fun _ hk => hk.2) (.slice Ao8 t579.length co8)) (fun _ h_ => h_.1))))) (below_size (bZ HB))); replace HO581 := Aside0.mk (Kd.R_elder' (by (with_reducible repeat (first | apply Kd.R_alloc | apply Kd.R_drewN | apply Kd.R_drew)); exact (Kd.R_mono (Kd.R_far (p := ⟨gb583, 0, none⟩) (Kd.R_types HO581.out BK583.out (by decide)) (fun _ hk => hk.2) (.slice Ao8 t579.length co8)) (fun _ h_ => h_.1))) (Kd.R_base ho0) hb); replace BK583 := Aside0.mk (blk_below (g := gb583) (o := .cells #[.slice Ao8 t579.length co8] 29 (0, 0)) (by (with_reducible repeat (first | refine blk_drewN ?_ _ | refine blk_drew ?_ | refine blk_alloc ?_ _)); refine blk_put (cs := #[.slice none 0 0]) ?_ 0 _ rfl; (with_reducible repeat (first | refine blk_drewN ?_ _ | refine blk_drew ?_ | refine blk_alloc ?_ _)); exact BK583.out) hb); replace HB := bS HB hb; (try clear hb); (try clear hb2); (try clear hk); (try clear hi); (try clear ho0)) | ((with_reducible refine gate_dst (N := 5) rfl ?_); refine box_event ?hg (N := 5) ?hd (cs := #[.slice none 0 0]) (t := 29) ?hr ?_; (case hd => rfl); (case hg => rfl); (case hr => first | (go_simp; done) | (go_simp; rfl)); intro gb588 hg w11 hbox hb; replace HO581 := Aside0.mk (Kd.R_below (by (with_reducible repeat (first | apply Kd.R_alloc | apply Kd.R_drewN | apply Kd.R_drew)); exact HO581.out) hb); replace HO586 := Aside0.mk (Kd.R_below (by (with_reducible repeat (first | apply Kd.R_alloc | apply Kd.R_drewN | apply Kd.R_drew)); exact HO586.out) hb); have BK588 := Aside0.mk (hbox); have GW588 := bG HB hg; have GE588 := bG HB hg; replace HB := bS HB hb; have NB583_588 := bL BK583 hg; have NB588_583 := bR BK583 hg; replace BK583 := bB BK583 hb; clear hb hbox hg; obtain ⟨Ao12, co12, eo12⟩ := Kd.R_slice HO586.out; subst eo12; have hnb13 := NB588_583.out; have hnc13 := NB583_588.out; have hcz14_0 : w11.cell? ⟨gb588, 0, none⟩ = some (.slice none 0 0) := bc BK588 0; have hfz14_0 := blk_frozen BK588.out 0))
  (try simp only [Act.put, List.setIfInBounds_toArray, List.set_cons_zero, List.set_cons_succ])
  go_cut [32] (fun v32 wc => ∃ (kq : Nat) (x32_4 : Bool), v32 = .bool x32_4 ∧ Aside0 (laws_FnExactReadCommittee.j0 kq a0 t582 x32_4 t579 t584 = some r) ∧ Aside0 (kq ≤ k) ∧ Aside0 (Kd.R k48 48 wc w.heap.size (fun k_ => some k_ ≠ ((.slice Ao12 t584.length co12) : Value).ownBlock) (.slice Ao8 t579.length co8) t579) ∧ Aside0 (Kd.R k48 48 wc w.heap.size (fun k_ => some k_ ≠ ((.slice Ao8 t579.length co8) : Value).ownBlock) (.slice Ao12 t584.length co12) t584) ∧ Aside0 (wc.heap[gb583]? = some (.cells #[(.slice Ao8 t579.length co8)] 29 (0, 0))) ∧ Aside0 (wc.heap[gb588]? = some (.cells #[(.slice Ao12 t584.length co12)] 29 (0, 0))) ∧ Aside0 (Below w.heap.size w wc))
  case first =>
   have H := HC5.out
   clear HC5
   replace H := Option.bind_eq_some_iff.mp H
   obtain ⟨t589, A150, H⟩ := H
   replace H : (if t589 = true then (laws_FnExactReadCommittee.j0 k a0 t582 (t587 != t582) t579 t584) else (laws_FnExactReadCommittee.j0 k a0 t582 true t579 t584)) = some r := H
   have A15 := Aside0.mk A150
   clear A150
   by_cases c16 : t589 = true
   ·subst c16
    have H1 : (laws_FnExactReadCommittee.j0 k a0 t582 (t587 != t582) t579 t584) = some r := by rw [if_pos rfl] at H; exact H
    clear H
    have H := H1
    clear H1
    have H' := Aside0.mk H
    clear H
    have hnb17 := NB588_583.out
    have hnc17 := NB583_588.out
    have hcz18_0 : w11.cell? ⟨gb588, 0, none⟩ = some (.slice none 0 0) := bc BK588 0
    have hfz18_0 := blk_frozen BK588.out 0
    have hcz19_0 : w11.cell? ⟨gb583, 0, none⟩ = some (.slice Ao8 t579.length co8) := bc BK583 0
    have hfz19_0 := blk_frozen BK583.out 0
    go_wp2_with (first | ((with_reducible refine gate_callee (f := 12) rfl ?_); refine goesL_ (some 26) rfl rfl Try.func12 (by kernel_rfl) rfl #[.agg #[.slice Ao12 t584.length co12], .agg #[.slice Ao8 t579.length co8]] rfl (by (try simp only [List.map_toArray, List.map_cons, List.map_nil]); first | done | rfl | (simp only [List.length_drop, List.length_take]; rfl)) ?_; (with_reducible refine (laws_eqCommittee.calls k _ _ t584 _ _ t579 true _ ?side1 ?side2 ?side3 ?side4 A15.out).mono ?_); (case side1 => refine (Kd.R_reads' (e := 48) (base := w.heap.size) (ok := fun k_ => (True ∧ some k_ ≠ (.slice Ao8 t579.length co8 : Value).ownBlock)) (n := t584.length) (c := co12) ?_).2.2; exact (by (with_reducible repeat (first | apply Kd.R_alloc | apply Kd.R_drewN | apply Kd.R_drew)); exact (Kd.R_mono (Kd.R_far (p := ⟨gb588, 0, none⟩) (Kd.R_types HO586.out BK588.out (by decide)) (fun _ hk => hk.2) (.slice Ao12 t584.length co12)) (fun _ h_ => h_.1)))); (case side2 => exact (Kd.R_reads' HO586.out).2.1); (case side3 => refine (Kd.R_reads' (e := 48) (base := w.heap.size) (ok := fun k_ => (True ∧ some k_ ≠ (.slice Ao12 t584.length co12 : Value).ownBlock)) (n := t579.length) (c := co8) ?_).2.2; exact (by (with_reducible repeat (first | apply Kd.R_alloc | apply Kd.R_drewN | apply Kd.R_drew)); exact (Kd.R_mono (Kd.R_far (p := ⟨gb588, 0, none⟩) (Kd.R_types HO581.out BK588.out (by decide)) (fun _ hk => hk.2) (.slice Ao12 t584.length co12)) (fun _ h_ => h_.1)))); (case side4 => exact (Kd.R_reads' HO581.out).2.1); rintro e w20 ⟨rfl, hb⟩; refine ⟨_, rfl, ?_⟩; replace HO581 := Aside0.mk (Kd.R_below (by (with_reducible repeat (first | apply Kd.R_alloc | apply Kd.R_drewN | apply Kd.R_drew)); exact (Kd.R_mono (Kd.R_far (p := ⟨gb588, 0, none⟩) (Kd.R_types HO581.out BK588.out (by decide)) (fun _ hk => hk.2) (.slice Ao12 t584.length co12)) (fun _ h_ => h_.1))) hb); replace HO586 := Aside0.mk (Kd.R_below (by (with_reducible repeat (first | apply Kd.R_alloc | apply Kd.R_drewN | apply Kd.R_drew)); exact (Kd.R_mono (Kd.R_far (p := ⟨gb588, 0, none⟩) (Kd.R_types HO586.out BK588.out (by decide)) (fun _ hk => hk.2) (.slice Ao12 t584.length co12)) (fun _ h_ => h_.1))) hb); replace BK583 := bB BK583 hb; replace BK588 := Aside0.mk (blk_below (g := gb588) (o := .cells #[.slice Ao12 t584.length co12] 29 (0, 0)) (by (with_reducible repeat (first | refine blk_drewN ?_ _ | refine blk_drew ?_ | refine blk_alloc ?_ _)); refine blk_put (cs := #[.slice none 0 0]) ?_ 0 _ rfl; (with_reducible repeat (first | refine blk_drewN ?_ _ | refine blk_drew ?_ | refine blk_alloc ?_ _)); exact BK588.out) hb); replace HB := bS HB hb; (try clear hb); (try clear hb2); (try clear hk); (try clear hi)))
    go_meet
    case rel => exact ⟨_, ((t587 != t582)), (by first | rfl | (simp; done) | (simp [*]; done)), H', ⟨by first | omega | exact Nat.le_refl _⟩, ⟨by (with_reducible repeat (first | apply Kd.R_alloc | apply Kd.R_drewN | apply Kd.R_drew)); exact Kd.R_mono HO581.out (fun _ hk => hk.2)⟩, ⟨by (with_reducible repeat (first | apply Kd.R_alloc | apply Kd.R_drewN | apply Kd.R_drew)); exact Kd.R_mono HO586.out (fun _ hk => hk.2)⟩, ⟨bP BK583⟩, ⟨bP BK588⟩, ⟨bZ HB⟩⟩
   ·replace c16 := Bool.eq_false_iff.mpr c16
    subst c16
    have H1 : (laws_FnExactReadCommittee.j0 k a0 t582 true t579 t584) = some r := by rw [if_neg (show ¬ (false = true) by decide)] at H; exact H
    clear H
    have H := H1
    clear H1
    have H' := Aside0.mk H
    clear H
    have hnb21 := NB588_583.out
    have hnc21 := NB583_588.out
    have hcz22_0 : w11.cell? ⟨gb588, 0, none⟩ = some (.slice none 0 0) := bc BK588 0
    have hfz22_0 := blk_frozen BK588.out 0
    have hcz23_0 : w11.cell? ⟨gb583, 0, none⟩ = some (.slice Ao8 t579.length co8) := bc BK583 0
    have hfz23_0 := blk_frozen BK583.out 0
    go_wp2_with (first | ((with_reducible refine gate_callee (f := 12) rfl ?_); refine goesL_ (some 26) rfl rfl Try.func12 (by kernel_rfl) rfl #[.agg #[.slice Ao12 t584.length co12], .agg #[.slice Ao8 t579.length co8]] rfl (by (try simp only [List.map_toArray, List.map_cons, List.map_nil]); first | done | rfl | (simp only [List.length_drop, List.length_take]; rfl)) ?_; (with_reducible refine (laws_eqCommittee.calls k _ _ t584 _ _ t579 false _ ?side1 ?side2 ?side3 ?side4 A15.out).mono ?_); (case side1 => refine (Kd.R_reads' (e := 48) (base := w.heap.size) (ok := fun k_ => (True ∧ some k_ ≠ (.slice Ao8 t579.length co8 : Value).ownBlock)) (n := t584.length) (c := co12) ?_).2.2; exact (by (with_reducible repeat (first | apply Kd.R_alloc | apply Kd.R_drewN | apply Kd.R_drew)); exact (Kd.R_mono (Kd.R_far (p := ⟨gb588, 0, none⟩) (Kd.R_types HO586.out BK588.out (by decide)) (fun _ hk => hk.2) (.slice Ao12 t584.length co12)) (fun _ h_ => h_.1)))); (case side2 => exact (Kd.R_reads' HO586.out).2.1); (case side3 => refine (Kd.R_reads' (e := 48) (base := w.heap.size) (ok := fun k_ => (True ∧ some k_ ≠ (.slice Ao12 t584.length co12 : Value).ownBlock)) (n := t579.length) (c := co8) ?_).2.2; exact (by (with_reducible repeat (first | apply Kd.R_alloc | apply Kd.R_drewN | apply Kd.R_drew)); exact (Kd.R_mono (Kd.R_far (p := ⟨gb588, 0, none⟩) (Kd.R_types HO581.out BK588.out (by decide)) (fun _ hk => hk.2) (.slice Ao12 t584.length co12)) (fun _ h_ => h_.1)))); (case side4 => exact (Kd.R_reads' HO581.out).2.1); rintro e w24 ⟨rfl, hb⟩; refine ⟨_, rfl, ?_⟩; replace HO581 := Aside0.mk (Kd.R_below (by (with_reducible repeat (first | apply Kd.R_alloc | apply Kd.R_drewN | apply Kd.R_drew)); exact (Kd.R_mono (Kd.R_far (p := ⟨gb588, 0, none⟩) (Kd.R_types HO581.out BK588.out (by decide)) (fun _ hk => hk.2) (.slice Ao12 t584.length co12)) (fun _ h_ => h_.1))) hb); replace HO586 := Aside0.mk (Kd.R_below (by (with_reducible repeat (first | apply Kd.R_alloc | apply Kd.R_drewN | apply Kd.R_drew)); exact (Kd.R_mono (Kd.R_far (p := ⟨gb588, 0, none⟩) (Kd.R_types HO586.out BK588.out (by decide)) (fun _ hk => hk.2) (.slice Ao12 t584.length co12)) (fun _ h_ => h_.1))) hb); replace BK583 := bB BK583 hb; replace BK588 := Aside0.mk (blk_below (g := gb588) (o := .cells #[.slice Ao12 t584.length co12] 29 (0, 0)) (by (with_reducible repeat (first | refine blk_drewN ?_ _ | refine blk_drew ?_ | refine blk_alloc ?_ _)); refine blk_put (cs := #[.slice none 0 0]) ?_ 0 _ rfl; (with_reducible repeat (first | refine blk_drewN ?_ _ | refine blk_drew ?_ | refine blk_alloc ?_ _)); exact BK588.out) hb); replace HB := bS HB hb; (try clear hb); (try clear hb2); (try clear hk); (try clear hi)))
    go_meet
    case rel => exact ⟨_, (true), (by first | rfl | (simp; done) | (simp [*]; done)), H', ⟨by first | omega | exact Nat.le_refl _⟩, ⟨by (with_reducible repeat (first | apply Kd.R_alloc | apply Kd.R_drewN | apply Kd.R_drew)); exact Kd.R_mono HO581.out (fun _ hk => hk.2)⟩, ⟨by (with_reducible repeat (first | apply Kd.R_alloc | apply Kd.R_drewN | apply Kd.R_drew)); exact Kd.R_mono HO586.out (fun _ hk => hk.2)⟩, ⟨bP BK583⟩, ⟨bP BK588⟩, ⟨bZ HB⟩⟩
  case rest =>
   clear HC5
   try clear c1
   try clear c2
   try clear c2b0
   try clear c2b1
   try clear p2
   try clear c7
   try clear c12
   try clear c13
   try clear c16
   try clear c17
   try clear c21
   try clear c24
   try clear hcz14_0
   try clear hcz18_0
   try clear hcz19_0
   try clear hcz22_0
   try clear hcz23_0
   try clear hcz9_0
   try clear hfz14_0
   try clear hfz18_0
   try clear hfz19_0
   try clear hfz22_0
   try clear hfz23_0
   try clear hfz9_0
   obtain ⟨kq, x32_4, rfl, HA, HJ4, HO_584000, HO_589000, BK583, BK588, HB⟩ := hcut
   cases kq with
   | zero => exact absurd HA.out (by simp [laws_FnExactReadCommittee.j0])
   | succ kj4 =>
    have H := HA.out
    clear HA
    simp only [laws_FnExactReadCommittee.j0] at H
    by_cases c25 : x32_4 = true
    ·subst c25
     have H1 : (some false) = some r := by rw [if_pos rfl] at H; exact H
     clear H
     have H := H1
     clear H1
     exact absurd (Option.some.inj H) (by rw [htrue.out]; exact Bool.false_ne_true)
    ·replace c25 := Bool.eq_false_iff.mpr c25
     subst c25
     have H1 : ((laws_markCommittee.f kj4 t584 1).bind fun bt590 => ((laws_heldCommittee.f kj4 bt590.2 1).bind fun t592 => (if t592 < 0 then (some false) else (if t592 = bt590.1 then ((impl_ReadCommittee.f kj4 a0).bind fun bt593 => ((laws_eqCommittee.f kj4 bt593.1 t579).bind fun t598 => (if t598 = true then (laws_FnExactReadCommittee.j1 kj4 bt590.1 (bt593.2 != t582) bt590.2) else (laws_FnExactReadCommittee.j1 kj4 bt590.1 true bt590.2)))) else (some false))))) = some r := by rw [if_neg (show ¬ (false = true) by decide)] at H; exact H
     clear H
     have H := H1
     clear H1
     replace H := Option.bind_eq_some_iff.mp H
     obtain ⟨⟨t590, t591⟩, A260, H⟩ := H
     replace H : ((laws_heldCommittee.f kj4 t591 1).bind fun t592 => (if t592 < 0 then (some false) else (if t592 = t590 then ((impl_ReadCommittee.f kj4 a0).bind fun bt593 => ((laws_eqCommittee.f kj4 bt593.1 t579).bind fun t598 => (if t598 = true then (laws_FnExactReadCommittee.j1 kj4 t590 (bt593.2 != t582) t591) else (laws_FnExactReadCommittee.j1 kj4 t590 true t591)))) else (some false)))) = some r := H
     have A26 := Aside0.mk A260
     clear A260
     replace H := Option.bind_eq_some_iff.mp H
     obtain ⟨t592, A270, H⟩ := H
     replace H : (if t592 < 0 then (some false) else (if t592 = t590 then ((impl_ReadCommittee.f kj4 a0).bind fun bt593 => ((laws_eqCommittee.f kj4 bt593.1 t579).bind fun t598 => (if t598 = true then (laws_FnExactReadCommittee.j1 kj4 t590 (bt593.2 != t582) t591) else (laws_FnExactReadCommittee.j1 kj4 t590 true t591)))) else (some false))) = some r := H
     have A27 := Aside0.mk A270
     clear A270
     by_cases c28 : t592 < 0
     ·rw [if_pos c28] at H
      have c28b0 : decide (t592 < 0) = true := decide_eq_true c28
      clear c28
      exact absurd (Option.some.inj H) (by rw [htrue.out]; exact Bool.false_ne_true)
     ·rw [if_neg c28] at H
      have c28b0 : decide (t592 < 0) = false := decide_eq_false c28
      clear c28
      by_cases c29 : t592 = t590
      ·rw [if_pos c29] at H
       have c29b0 : (t592 == t590) = true := beq_iff_eq.mpr c29
       have c29b1 : (t592 != t590) = false := bne_eq_false_iff_eq.mpr c29
       clear c29
       replace H := Option.bind_eq_some_iff.mp H
       obtain ⟨⟨t593, t596⟩, A300, H⟩ := H
       replace H : ((laws_eqCommittee.f kj4 t593 t579).bind fun t598 => (if t598 = true then (laws_FnExactReadCommittee.j1 kj4 t590 (t596 != t582) t591) else (laws_FnExactReadCommittee.j1 kj4 t590 true t591))) = some r := H
       have A30 := Aside0.mk A300
       clear A300
       have HC31 := Aside0.mk H
       clear H
       have hnb32 := NB588_583.out
       have hnc32 := NB583_588.out
       have hcz33_0 : wc.cell? ⟨gb588, 0, none⟩ = some (.slice Ao12 t584.length co12) := bc BK588 0
       have hfz33_0 := blk_frozen BK588.out 0
       go_upto_region 16 with (first | ((with_reducible refine gate_callee (f := 15) rfl ?_); refine goesL_ (some 35) rfl rfl Try.func15 (by kernel_rfl) rfl #[.agg #[.slice Ao12 t584.length co12], .int .i64 1] rfl (by (try simp only [List.map_toArray, List.map_cons, List.map_nil]); first | done | rfl | (simp only [List.length_drop, List.length_take]; rfl)) ?_; (with_reducible refine (laws_markCommittee.calls kj4 (fun k_ => some k_ = (.slice Ao12 t584.length co12 : Value).ownBlock) (.slice Ao12 t584.length co12) t584 1 t590 t591 w _ ?side1 ?side2 A26.out).mono ?_); (case side1 => repeat (first | (with_reducible first | exact HB.out | apply below_alloc | apply pw_below_drewN | apply below_drew1 | refine below_set ?_ GE583.out | refine below_set ?_ GE588.out) | exact HB.out)); (case side2 => exact Kd.R_tight rfl HO_589000.out); rintro e w34 ⟨rfl, hy0, hb, hkp⟩; refine ⟨_, rfl, ?_⟩; replace HO_584000 := Aside0.mk (Kd.R_mono (ok' := fun k_ => some k_ ≠ (.slice Ao12 t584.length co12 : Value).ownBlock) (Kd.R_keptB (HO_584000.out) hkp (fun k_ hk_ hs_ => (hk_) hs_)) (fun k_ hk_ => hk_.1)); replace BK583 := Aside0.mk (blk_kept (bP BK583) hkp (fun hs_ => (fun e_ => (Kd.R_ne HO_589000.out BK583.out (by decide)) e_) hs_)); replace BK588 := Aside0.mk (blk_kept (bP BK588) hkp (fun hs_ => (fun e_ => (Kd.R_ne HO_589000.out BK588.out (by decide)) e_) hs_)); replace HO_589000 := Aside0.mk (Kd.R_reok rfl hy0 (fun k_ e_ => HO_589000.out.1 k_ e_)); replace HB := Aside0.mk (hb); (try clear hb); (try clear hkp); (try clear hy0); have hcz35_0 : w34.cell? ⟨gb588, 0, none⟩ = some (.slice Ao12 t584.length co12) := bc BK588 0; have hfz35_0 := blk_frozen BK588.out 0) | ((with_reducible refine gate_callee (f := 16) rfl ?_); refine goesL_ (some 38) rfl rfl Try.func16 (by kernel_rfl) rfl #[.agg #[.slice Ao12 t591.length co12], .int .i64 1] rfl (by (try simp only [List.map_toArray, List.map_cons, List.map_nil]); first | done | (rw [show t591.length = t584.length from (Kd.R_reads' HO_589000.out).1.symm] <;> rfl) | rfl | (simp only [List.length_drop, List.length_take]; rfl)) ?_; (with_reducible refine (laws_heldCommittee.calls kj4 _ _ t591 1 t592 _ ?side1 ?side2 A27.out).mono ?_); (case side1 => repeat (first | exact (Kd.R_reads' HO_589000.out).2.2 | (with_reducible refine Kd.C_alloc ?_ _) | (with_reducible refine Kd.C_drewN ?_ _) | (with_reducible refine Kd.C_drew ?_))); (case side2 => rw [show t591.length = t584.length from (Kd.R_reads' HO_589000.out).1.symm]; exact (Kd.R_reads' HO_589000.out).2.1); rintro e w36 ⟨rfl, hb⟩; refine ⟨_, rfl, ?_⟩; replace HO_584000 := Aside0.mk (Kd.R_below (by (with_reducible repeat (first | apply Kd.R_alloc | apply Kd.R_drewN | apply Kd.R_drew)); exact HO_584000.out) hb); replace HO_589000 := Aside0.mk (Kd.R_below (by (with_reducible repeat (first | apply Kd.R_alloc | apply Kd.R_drewN | apply Kd.R_drew)); exact HO_589000.out) hb); replace BK583 := bB BK583 hb; replace BK588 := bB BK588 hb; replace HB := bS HB hb; (try clear hb); (try clear hb2); (try clear hk); (try clear hi)) | ((with_reducible refine gate_callee (f := 25) rfl ?_); refine goesL_ (some 46) rfl rfl Try.func25 (by kernel_rfl) rfl #[.string a0] rfl (by (try simp only [List.map_toArray, List.map_cons, List.map_nil]); first | done | rfl | (simp only [List.length_drop, List.length_take]; rfl)) ?_; (with_reducible refine (impl_ReadCommittee.calls kj4 a0 t593 t596 _ A30.out).mono ?_); rintro e w37 ⟨v594, rfl, ho0, hb⟩; refine ⟨_, rfl, ?_⟩; have HO595 := Aside0.mk (Kd.R_lower (Kd.R_new' (Kd.R_new' ho0 (Kd.R_lt (by (with_reducible repeat (first | apply Kd.R_alloc | apply Kd.R_drewN | apply Kd.R_drew)); exact HO_584000.out))) (Kd.R_lt (by (with_reducible repeat (first | apply Kd.R_alloc | apply Kd.R_drewN | apply Kd.R_drew)); exact HO_589000.out))) (below_size (bZ HB))); replace HO_584000 := Aside0.mk (Kd.R_elder' (by (with_reducible repeat (first | apply Kd.R_alloc | apply Kd.R_drewN | apply Kd.R_drew)); exact HO_584000.out) (Kd.R_base ho0) hb); replace HO_589000 := Aside0.mk (Kd.R_elder' (by (with_reducible repeat (first | apply Kd.R_alloc | apply Kd.R_drewN | apply Kd.R_drew)); exact HO_589000.out) (Kd.R_base ho0) hb); replace BK583 := bB BK583 hb; replace BK588 := bB BK588 hb; replace HB := bS HB hb; (try clear hb); (try clear hb2); (try clear hk); (try clear hi); (try clear ho0)) | ((with_reducible refine gate_dst (N := 9) rfl ?_); refine box_event ?hg (N := 9) ?hd (cs := #[.slice none 0 0]) (t := 29) ?hr ?_; (case hd => rfl); (case hg => rfl); (case hr => first | (go_simp; done) | (go_simp; rfl)); intro gb597 hg w38 hbox hb; replace HO_584000 := Aside0.mk (Kd.R_below (by (with_reducible repeat (first | apply Kd.R_alloc | apply Kd.R_drewN | apply Kd.R_drew)); exact HO_584000.out) hb); replace HO_589000 := Aside0.mk (Kd.R_below (by (with_reducible repeat (first | apply Kd.R_alloc | apply Kd.R_drewN | apply Kd.R_drew)); exact HO_589000.out) hb); replace HO595 := Aside0.mk (Kd.R_below (by (with_reducible repeat (first | apply Kd.R_alloc | apply Kd.R_drewN | apply Kd.R_drew)); exact HO595.out) hb); have BK597 := Aside0.mk (hbox); have GW597 := bG HB hg; have GE597 := bG HB hg; replace HB := bS HB hb; have NB583_597 := bL BK583 hg; have NB597_583 := bR BK583 hg; replace BK583 := bB BK583 hb; have NB588_597 := bL BK588 hg; have NB597_588 := bR BK588 hg; replace BK588 := bB BK588 hb; clear hb hbox hg; obtain ⟨Ao39, co39, eo39⟩ := Kd.R_slice HO595.out; subst eo39; have hnb40 := NB597_583.out; have hnc40 := NB583_597.out; have hnb41 := NB597_588.out; have hnc41 := NB588_597.out; have hcz42_0 : w38.cell? ⟨gb597, 0, none⟩ = some (.slice none 0 0) := bc BK597 0; have hfz42_0 := blk_frozen BK597.out 0))
       (try simp only [Act.put, List.setIfInBounds_toArray, List.set_cons_zero, List.set_cons_succ])
       go_cut [57] (fun v57 wc => ∃ (kq : Nat) (x57_30 : Bool), v57 = .bool x57_30 ∧ Aside0 (laws_FnExactReadCommittee.j1 kq t590 x57_30 t591 = some r) ∧ Aside0 (kq ≤ kj4) ∧ Aside0 (Kd.R k48 48 wc w.heap.size (fun k_ => some k_ ≠ ((.slice Ao12 t584.length co12) : Value).ownBlock ∧ some k_ ≠ ((.slice Ao39 t593.length co39) : Value).ownBlock) (.slice Ao8 t579.length co8) t579) ∧ Aside0 (Kd.R k48 48 wc w.heap.size (fun k_ => some k_ ≠ ((.slice Ao8 t579.length co8) : Value).ownBlock ∧ some k_ ≠ ((.slice Ao39 t593.length co39) : Value).ownBlock) (.slice Ao12 t584.length co12) t591) ∧ Aside0 (Kd.R k48 48 wc w.heap.size (fun k_ => some k_ ≠ ((.slice Ao8 t579.length co8) : Value).ownBlock ∧ some k_ ≠ ((.slice Ao12 t584.length co12) : Value).ownBlock) (.slice Ao39 t593.length co39) t593) ∧ Aside0 (wc.heap[gb583]? = some (.cells #[(.slice Ao8 t579.length co8)] 29 (0, 0))) ∧ Aside0 (wc.heap[gb588]? = some (.cells #[(.slice Ao12 t584.length co12)] 29 (0, 0))) ∧ Aside0 (wc.heap[gb597]? = some (.cells #[(.slice Ao39 t593.length co39)] 29 (0, 0))) ∧ Aside0 (Below w.heap.size w wc))
       case first =>
        have H := HC31.out
        clear HC31
        replace H := Option.bind_eq_some_iff.mp H
        obtain ⟨t598, A430, H⟩ := H
        replace H : (if t598 = true then (laws_FnExactReadCommittee.j1 kj4 t590 (t596 != t582) t591) else (laws_FnExactReadCommittee.j1 kj4 t590 true t591)) = some r := H
        have A43 := Aside0.mk A430
        clear A430
        by_cases c44 : t598 = true
        ·subst c44
         have H1 : (laws_FnExactReadCommittee.j1 kj4 t590 (t596 != t582) t591) = some r := by rw [if_pos rfl] at H; exact H
         clear H
         have H := H1
         clear H1
         have H' := Aside0.mk H
         clear H
         have hnb45 := NB597_583.out
         have hnc45 := NB583_597.out
         have hnb46 := NB597_588.out
         have hnc46 := NB588_597.out
         have hcz47_0 : w38.cell? ⟨gb597, 0, none⟩ = some (.slice none 0 0) := bc BK597 0
         have hfz47_0 := blk_frozen BK597.out 0
         have hnb48 := NB583_588.out
         have hnc48 := NB588_583.out
         have hcz49_0 : w38.cell? ⟨gb583, 0, none⟩ = some (.slice Ao8 t579.length co8) := bc BK583 0
         have hfz49_0 := blk_frozen BK583.out 0
         go_wp2_with (first | ((with_reducible refine gate_callee (f := 12) rfl ?_); refine goesL_ (some 51) rfl rfl Try.func12 (by kernel_rfl) rfl #[.agg #[.slice Ao39 t593.length co39], .agg #[.slice Ao8 t579.length co8]] rfl (by (try simp only [List.map_toArray, List.map_cons, List.map_nil]); first | done | rfl | (simp only [List.length_drop, List.length_take]; rfl)) ?_; (with_reducible refine (laws_eqCommittee.calls kj4 _ _ t593 _ _ t579 true _ ?side1 ?side2 ?side3 ?side4 A43.out).mono ?_); (case side1 => refine (Kd.R_reads' (e := 48) (base := w.heap.size) (ok := fun k_ => ((True ∧ some k_ ≠ (.slice Ao8 t579.length co8 : Value).ownBlock) ∧ some k_ ≠ (.slice Ao12 t584.length co12 : Value).ownBlock)) (n := t593.length) (c := co39) ?_).2.2; exact (by (with_reducible repeat (first | apply Kd.R_alloc | apply Kd.R_drewN | apply Kd.R_drew)); exact (Kd.R_mono (Kd.R_far (p := ⟨gb597, 0, none⟩) (Kd.R_types HO595.out BK597.out (by decide)) (fun _ hk => hk.2) (.slice Ao39 t593.length co39)) (fun _ h_ => h_.1)))); (case side2 => exact (Kd.R_reads' HO595.out).2.1); (case side3 => refine (Kd.R_reads' (e := 48) (base := w.heap.size) (ok := fun k_ => (some k_ ≠ (.slice Ao12 t584.length co12 : Value).ownBlock ∧ some k_ ≠ (.slice Ao39 t593.length co39 : Value).ownBlock)) (n := t579.length) (c := co8) ?_).2.2; exact (by (with_reducible repeat (first | apply Kd.R_alloc | apply Kd.R_drewN | apply Kd.R_drew)); exact (Kd.R_mono (Kd.R_far (p := ⟨gb597, 0, none⟩) (Kd.R_types HO_584000.out BK597.out (by decide)) (fun _ hk => hk.2) (.slice Ao39 t593.length co39)) (fun _ h_ => h_.1)))); (case side4 => exact (Kd.R_reads' HO_584000.out).2.1); rintro e w50 ⟨rfl, hb⟩; refine ⟨_, rfl, ?_⟩; replace HO_584000 := Aside0.mk (Kd.R_below (by (with_reducible repeat (first | apply Kd.R_alloc | apply Kd.R_drewN | apply Kd.R_drew)); exact (Kd.R_mono (Kd.R_far (p := ⟨gb597, 0, none⟩) (Kd.R_types HO_584000.out BK597.out (by decide)) (fun _ hk => hk.2) (.slice Ao39 t593.length co39)) (fun _ h_ => h_.1))) hb); replace HO_589000 := Aside0.mk (Kd.R_below (by (with_reducible repeat (first | apply Kd.R_alloc | apply Kd.R_drewN | apply Kd.R_drew)); exact (Kd.R_mono (Kd.R_far (p := ⟨gb597, 0, none⟩) (Kd.R_types HO_589000.out BK597.out (by decide)) (fun _ hk => hk.2) (.slice Ao39 t593.length co39)) (fun _ h_ => h_.1))) hb); replace HO595 := Aside0.mk (Kd.R_below (by (with_reducible repeat (first | apply Kd.R_alloc | apply Kd.R_drewN | apply Kd.R_drew)); exact (Kd.R_mono (Kd.R_far (p := ⟨gb597, 0, none⟩) (Kd.R_types HO595.out BK597.out (by decide)) (fun _ hk => hk.2) (.slice Ao39 t593.length co39)) (fun _ h_ => h_.1))) hb); replace BK583 := bB BK583 hb; replace BK588 := bB BK588 hb; replace BK597 := Aside0.mk (blk_below (g := gb597) (o := .cells #[.slice Ao39 t593.length co39] 29 (0, 0)) (by (with_reducible repeat (first | refine blk_drewN ?_ _ | refine blk_drew ?_ | refine blk_alloc ?_ _)); refine blk_put (cs := #[.slice none 0 0]) ?_ 0 _ rfl; (with_reducible repeat (first | refine blk_drewN ?_ _ | refine blk_drew ?_ | refine blk_alloc ?_ _)); exact BK597.out) hb); replace HB := bS HB hb; (try clear hb); (try clear hb2); (try clear hk); (try clear hi)))
         go_meet
         case rel => exact ⟨_, ((t596 != t582)), (by first | rfl | (simp; done) | (simp [*]; done)), H', ⟨by have := HJ4.out; first | omega | exact Nat.le_refl _⟩, ⟨by (with_reducible repeat (first | apply Kd.R_alloc | apply Kd.R_drewN | apply Kd.R_drew)); exact HO_584000.out⟩, ⟨by (with_reducible repeat (first | apply Kd.R_alloc | apply Kd.R_drewN | apply Kd.R_drew)); exact HO_589000.out⟩, ⟨by (with_reducible repeat (first | apply Kd.R_alloc | apply Kd.R_drewN | apply Kd.R_drew)); exact Kd.R_mono HO595.out (fun _ hk => ⟨hk.1.2, hk.2⟩)⟩, ⟨bP BK583⟩, ⟨bP BK588⟩, ⟨bP BK597⟩, ⟨bZ HB⟩⟩
        ·replace c44 := Bool.eq_false_iff.mpr c44
         subst c44
         have H1 : (laws_FnExactReadCommittee.j1 kj4 t590 true t591) = some r := by rw [if_neg (show ¬ (false = true) by decide)] at H; exact H
         clear H
         have H := H1
         clear H1
         have H' := Aside0.mk H
         clear H
         have hnb51 := NB597_583.out
         have hnc51 := NB583_597.out
         have hnb52 := NB597_588.out
         have hnc52 := NB588_597.out
         have hcz53_0 : w38.cell? ⟨gb597, 0, none⟩ = some (.slice none 0 0) := bc BK597 0
         have hfz53_0 := blk_frozen BK597.out 0
         have hnb54 := NB583_588.out
         have hnc54 := NB588_583.out
         have hcz55_0 : w38.cell? ⟨gb583, 0, none⟩ = some (.slice Ao8 t579.length co8) := bc BK583 0
         have hfz55_0 := blk_frozen BK583.out 0
         go_wp2_with (first | ((with_reducible refine gate_callee (f := 12) rfl ?_); refine goesL_ (some 51) rfl rfl Try.func12 (by kernel_rfl) rfl #[.agg #[.slice Ao39 t593.length co39], .agg #[.slice Ao8 t579.length co8]] rfl (by (try simp only [List.map_toArray, List.map_cons, List.map_nil]); first | done | rfl | (simp only [List.length_drop, List.length_take]; rfl)) ?_; (with_reducible refine (laws_eqCommittee.calls kj4 _ _ t593 _ _ t579 false _ ?side1 ?side2 ?side3 ?side4 A43.out).mono ?_); (case side1 => refine (Kd.R_reads' (e := 48) (base := w.heap.size) (ok := fun k_ => ((True ∧ some k_ ≠ (.slice Ao8 t579.length co8 : Value).ownBlock) ∧ some k_ ≠ (.slice Ao12 t584.length co12 : Value).ownBlock)) (n := t593.length) (c := co39) ?_).2.2; exact (by (with_reducible repeat (first | apply Kd.R_alloc | apply Kd.R_drewN | apply Kd.R_drew)); exact (Kd.R_mono (Kd.R_far (p := ⟨gb597, 0, none⟩) (Kd.R_types HO595.out BK597.out (by decide)) (fun _ hk => hk.2) (.slice Ao39 t593.length co39)) (fun _ h_ => h_.1)))); (case side2 => exact (Kd.R_reads' HO595.out).2.1); (case side3 => refine (Kd.R_reads' (e := 48) (base := w.heap.size) (ok := fun k_ => (some k_ ≠ (.slice Ao12 t584.length co12 : Value).ownBlock ∧ some k_ ≠ (.slice Ao39 t593.length co39 : Value).ownBlock)) (n := t579.length) (c := co8) ?_).2.2; exact (by (with_reducible repeat (first | apply Kd.R_alloc | apply Kd.R_drewN | apply Kd.R_drew)); exact (Kd.R_mono (Kd.R_far (p := ⟨gb597, 0, none⟩) (Kd.R_types HO_584000.out BK597.out (by decide)) (fun _ hk => hk.2) (.slice Ao39 t593.length co39)) (fun _ h_ => h_.1)))); (case side4 => exact (Kd.R_reads' HO_584000.out).2.1); rintro e w56 ⟨rfl, hb⟩; refine ⟨_, rfl, ?_⟩; replace HO_584000 := Aside0.mk (Kd.R_below (by (with_reducible repeat (first | apply Kd.R_alloc | apply Kd.R_drewN | apply Kd.R_drew)); exact (Kd.R_mono (Kd.R_far (p := ⟨gb597, 0, none⟩) (Kd.R_types HO_584000.out BK597.out (by decide)) (fun _ hk => hk.2) (.slice Ao39 t593.length co39)) (fun _ h_ => h_.1))) hb); replace HO_589000 := Aside0.mk (Kd.R_below (by (with_reducible repeat (first | apply Kd.R_alloc | apply Kd.R_drewN | apply Kd.R_drew)); exact (Kd.R_mono (Kd.R_far (p := ⟨gb597, 0, none⟩) (Kd.R_types HO_589000.out BK597.out (by decide)) (fun _ hk => hk.2) (.slice Ao39 t593.length co39)) (fun _ h_ => h_.1))) hb); replace HO595 := Aside0.mk (Kd.R_below (by (with_reducible repeat (first | apply Kd.R_alloc | apply Kd.R_drewN | apply Kd.R_drew)); exact (Kd.R_mono (Kd.R_far (p := ⟨gb597, 0, none⟩) (Kd.R_types HO595.out BK597.out (by decide)) (fun _ hk => hk.2) (.slice Ao39 t593.length co39)) (fun _ h_ => h_.1))) hb); replace BK583 := bB BK583 hb; replace BK588 := bB BK588 hb; replace BK597 := Aside0.mk (blk_below (g := gb597) (o := .cells #[.slice Ao39 t593.length co39] 29 (0, 0)) (by (with_reducible repeat (first | refine blk_drewN ?_ _ | refine blk_drew ?_ | refine blk_alloc ?_ _)); refine blk_put (cs := #[.slice none 0 0]) ?_ 0 _ rfl; (with_reducible repeat (first | refine blk_drewN ?_ _ | refine blk_drew ?_ | refine blk_alloc ?_ _)); exact BK597.out) hb); replace HB := bS HB hb; (try clear hb); (try clear hb2); (try clear hk); (try clear hi)))
         go_meet
         case rel => exact ⟨_, (true), (by first | rfl | (simp; done) | (simp [*]; done)), H', ⟨by have := HJ4.out; first | omega | exact Nat.le_refl _⟩, ⟨by (with_reducible repeat (first | apply Kd.R_alloc | apply Kd.R_drewN | apply Kd.R_drew)); exact HO_584000.out⟩, ⟨by (with_reducible repeat (first | apply Kd.R_alloc | apply Kd.R_drewN | apply Kd.R_drew)); exact HO_589000.out⟩, ⟨by (with_reducible repeat (first | apply Kd.R_alloc | apply Kd.R_drewN | apply Kd.R_drew)); exact Kd.R_mono HO595.out (fun _ hk => ⟨hk.1.2, hk.2⟩)⟩, ⟨bP BK583⟩, ⟨bP BK588⟩, ⟨bP BK597⟩, ⟨bZ HB⟩⟩
       case rest =>
        clear HC31
        try clear c1
        try clear c2
        try clear c2b0
        try clear c2b1
        try clear p2
        try clear c3
        try clear c4
        try clear c5
        try clear c7
        try clear c12
        try clear c13
        try clear c15
        try clear c16
        try clear c17
        try clear c21
        try clear c24
        try clear c25
        try clear c28
        try clear c28b0
        try clear c29
        try clear c29b0
        try clear c29b1
        try clear c32
        try clear c40
        try clear c41
        try clear c44
        try clear c45
        try clear c46
        try clear c48
        try clear c51
        try clear c52
        try clear c54
        try clear hcz14_0
        try clear hcz18_0
        try clear hcz19_0
        try clear hcz22_0
        try clear hcz23_0
        try clear hcz33_0
        try clear hcz35_0
        try clear hcz42_0
        try clear hcz47_0
        try clear hcz49_0
        try clear hcz53_0
        try clear hcz55_0
        try clear hcz9_0
        try clear hfz14_0
        try clear hfz18_0
        try clear hfz19_0
        try clear hfz22_0
        try clear hfz23_0
        try clear hfz33_0
        try clear hfz35_0
        try clear hfz42_0
        try clear hfz47_0
        try clear hfz49_0
        try clear hfz53_0
        try clear hfz55_0
        try clear hfz9_0
        try clear p2
        obtain ⟨kq, x57_30, rfl, HA, HJ30, HO_584000, HO_589000, HO_598000, BK583, BK588, BK597, HB⟩ := hcut
        have hl589000_30 := (Kd.R_reads' HO_589000.out).1
        rw [hl589000_30] at HO_589000
        (try simp only [hl589000_30])
        (try simp only [hl589000_30] at BK583)
        (try simp only [hl589000_30] at BK588)
        (try simp only [hl589000_30] at BK597)
        (try simp only [hl589000_30] at HO_584000)
        (try simp only [hl589000_30] at HO_598000)
        cases kq with
        | zero => exact absurd HA.out (by simp [laws_FnExactReadCommittee.j1])
        | succ kj30 =>
         have H := HA.out
         clear HA
         simp only [laws_FnExactReadCommittee.j1] at H
         by_cases c57 : x57_30 = true
         ·subst c57
          have H1 : (some false) = some r := by rw [if_pos rfl] at H; exact H
          clear H
          have H := H1
          clear H1
          exact absurd (Option.some.inj H) (by rw [htrue.out]; exact Bool.false_ne_true)
         ·replace c57 := Bool.eq_false_iff.mpr c57
          subst c57
          have H1 : ((laws_heldCommittee.f kj30 t591 1).bind fun t599 => (if t599 < 0 then (some false) else (if t599 = t590 then (some true) else (some false)))) = some r := by rw [if_neg (show ¬ (false = true) by decide)] at H; exact H
          clear H
          have H := H1
          clear H1
          replace H := Option.bind_eq_some_iff.mp H
          obtain ⟨t599, A580, H⟩ := H
          replace H : (if t599 < 0 then (some false) else (if t599 = t590 then (some true) else (some false))) = some r := H
          have A58 := Aside0.mk A580
          clear A580
          by_cases c59 : t599 < 0
          ·rw [if_pos c59] at H
           have c59b0 : decide (t599 < 0) = true := decide_eq_true c59
           clear c59
           exact absurd (Option.some.inj H) (by rw [htrue.out]; exact Bool.false_ne_true)
          ·rw [if_neg c59] at H
           have c59b0 : decide (t599 < 0) = false := decide_eq_false c59
           clear c59
           by_cases c60 : t599 = t590
           ·rw [if_pos c60] at H
            have c60b0 : (t599 == t590) = true := beq_iff_eq.mpr c60
            have c60b1 : (t599 != t590) = false := bne_eq_false_iff_eq.mpr c60
            clear c60
            obtain rfl := Option.some.inj H
            have hnb61 := NB588_583.out
            have hnc61 := NB583_588.out
            have hnb62 := NB588_597.out
            have hnc62 := NB597_588.out
            have hcz63_0 : wc.cell? ⟨gb588, 0, none⟩ = some (.slice Ao12 t591.length co12) := bc BK588 0
            have hfz63_0 := blk_frozen BK588.out 0
            go_wp2_with (first | ((with_reducible refine gate_callee (f := 16) rfl ?_); refine goesL_ (some 60) rfl rfl Try.func16 (by kernel_rfl) rfl #[.agg #[.slice Ao12 t591.length co12], .int .i64 1] rfl (by (try simp only [List.map_toArray, List.map_cons, List.map_nil]); first | done | rfl | (simp only [List.length_drop, List.length_take]; rfl)) ?_; (with_reducible refine (laws_heldCommittee.calls kj30 _ _ t591 1 t599 _ ?side1 ?side2 A58.out).mono ?_); (case side1 => repeat (first | exact (Kd.R_reads' HO_589000.out).2.2 | (with_reducible refine Kd.C_alloc ?_ _) | (with_reducible refine Kd.C_drewN ?_ _) | (with_reducible refine Kd.C_drew ?_))); (case side2 => exact (Kd.R_reads' HO_589000.out).2.1); rintro e w64 ⟨rfl, hb⟩; refine ⟨_, rfl, ?_⟩; replace HO_584000 := Aside0.mk (Kd.R_below (by (with_reducible repeat (first | apply Kd.R_alloc | apply Kd.R_drewN | apply Kd.R_drew)); exact HO_584000.out) hb); replace HO_589000 := Aside0.mk (Kd.R_below (by (with_reducible repeat (first | apply Kd.R_alloc | apply Kd.R_drewN | apply Kd.R_drew)); exact HO_589000.out) hb); replace HO_598000 := Aside0.mk (Kd.R_below (by (with_reducible repeat (first | apply Kd.R_alloc | apply Kd.R_drewN | apply Kd.R_drew)); exact HO_598000.out) hb); replace BK583 := bB BK583 hb; replace BK588 := bB BK588 hb; replace BK597 := bB BK597 hb; replace HB := bS HB hb; (try clear hb); (try clear hb2); (try clear hk); (try clear hi)))
            go_ret
            exact ⟨by first | rfl | (simp [errW_none, errW_some] <;> rfl) | (simp [*, errW_none, errW_some] <;> rfl), bZ HB⟩
           ·rw [if_neg c60] at H
            have c60b0 : (t599 == t590) = false := beq_eq_false_iff_ne.mpr c60
            have c60b1 : (t599 != t590) = true := bne_iff_ne.mpr c60
            exact absurd (Option.some.inj H) (by rw [htrue.out]; exact Bool.false_ne_true)
      ·rw [if_neg c29] at H
       have c29b0 : (t592 == t590) = false := beq_eq_false_iff_ne.mpr c29
       have c29b1 : (t592 != t590) = true := bne_iff_ne.mpr c29
       exact absurd (Option.some.inj H) (by rw [htrue.out]; exact Bool.false_ne_true)

/-- THE ONE PURE STATEMENT of laws_FnExactReadCommittee: yours. -/
def laws_FnExactReadCommittee.Pure : Prop := ∀ (a0 : ByteArray), a0.size ≤ 140737488351232 → ∃ k, laws_FnExactReadCommittee.f k a0 = some true
theorem laws_FnExactReadCommittee.walk (P : laws_FnExactReadCommittee.Pure) (a0 : ByteArray) (w : World) (w0 : a0.size ≤ 140737488351232) :
  Calls Try.prog 7 #[.string a0] w fun e w' => e = .returned (.bool true) ∧ Below w.heap.size w w' := by
 obtain ⟨k, h⟩ := P a0 w0
 refine (laws_FnExactReadCommittee.calls k a0 true w ⟨rfl⟩ h).mono ?_
 rintro e w' ⟨rfl, hd⟩
 exact ⟨rfl, hd⟩

end Go.Proofs.Ytogcobdgnkiopaa.Pf
end
section
/- What is proved here: the points of the curve y*y = x*x*x + x over the numbers modulo 12107 make a commutative group. No conditions but that points lie on the curve. -/
namespace Go.Proofs.Ytogcobdgnkiopaa.Crv
set_option linter.unusedVariables false
set_option linter.unusedSimpArgs false
abbrev F := Fin 12107

/-! the inverse -/
def pwl : Nat → F → Nat → F → F
  | 0, _, _, out => out
  | k + 1, a, n, out => if n = 0 then out else pwl k (a * a) (n / 2) (if n % 2 = 1 then out * a else out)
def inv (a : F) : F := pwl 14 a 12105 1
def npwl : Nat → Nat → Nat → Nat → Nat
  | 0, _, _, out => out
  | k + 1, a, n, out => npwl k (a * a % 12107) (n / 2) (cond (Nat.beq (n % 2) 1) (out * a % 12107) out)
theorem npwl_zero : ∀ (k a out : Nat), npwl k a 0 out = out
  | 0, _, _ => rfl
  | k + 1, a, out => by rw [npwl]; exact npwl_zero k _ _
theorem pwl_val : ∀ (k : Nat) (a : F) (n : Nat) (out : F), (pwl k a n out).val = npwl k a.val n out.val
  | 0, _, _, _ => rfl
  | k + 1, a, n, out => by
    rw [pwl, npwl]
    by_cases h : n = 0
    · subst h
      rw [if_pos rfl]
      have : npwl k (a.val * a.val % 12107) (0 / 2) (cond (Nat.beq (0 % 2) 1) (out.val * a.val % 12107) out.val) = out.val := npwl_zero _ _ _
      rw [this]
    · rw [if_neg h, pwl_val k]
      by_cases h2 : n % 2 = 1
      · rw [if_pos h2, h2]; rfl
      · rw [if_neg h2, show n % 2 = 0 by omega]; rfl
def all2 (f : Nat → Bool) : Nat → Nat → Bool
  | 0, i => f i
  | k + 1, i => cond (all2 f k i) (all2 f k (i + 2 ^ k)) false
theorem all2_ok (f : Nat → Bool) : ∀ (k i : Nat), all2 f k i = true → ∀ j, i ≤ j → j < i + 2 ^ k → f j = true
  | 0, i, h, j, h1, h2 => by
    rw [all2] at h
    have : j = i := by simp at h2; omega
    rw [this]; exact h
  | k + 1, i, h, j, h1, h2 => by
    rw [all2] at h
    cases e : all2 f k i with
    | false => rw [e] at h; cases h
    | true =>
      rw [e] at h
      rw [Nat.pow_succ] at h2
      by_cases c : j < i + 2 ^ k
      · exact all2_ok f k i e j h1 c
      · exact all2_ok f k (i + 2 ^ k) h j (by omega) (by omega)
def invchk (n : Nat) : Bool := cond (Nat.ble 12107 n) true (cond (Nat.beq n 0) (Nat.beq (npwl 14 0 12105 1) 0) (Nat.beq (n * npwl 14 n 12105 1 % 12107) 1))
theorem invchk_all : all2 invchk 14 0 = true := by decide +kernel
theorem mul_inv (a : F) (h : a ≠ 0) : a * inv a = 1 := by
  have h1 := all2_ok invchk 14 0 invchk_all a.val (by omega) (by have := a.isLt; omega)
  unfold invchk at h1
  have h2 : ¬ a.val = 0 := fun e => h (Fin.ext e)
  have h3 := a.isLt
  rw [show Nat.ble 12107 a.val = false by rw [← Bool.not_eq_true, Nat.ble_eq]; omega, show Nat.beq a.val 0 = false by rw [← Bool.not_eq_true, Nat.beq_eq]; exact h2] at h1
  have h4 := Nat.eq_of_beq_eq_true h1
  apply Fin.ext
  show a.val * (inv a).val % 12107 = 1
  rw [inv, pwl_val]; exact h4
theorem inv_zero : inv 0 = 0 := by
  apply Fin.ext; rw [inv, pwl_val]; decide +kernel
theorem mul_zero_cases (a b : F) (h : a * b = 0) : a = 0 ∨ b = 0 := by
  by_cases c : a = 0
  · exact Or.inl c
  · right
    have h1 := mul_inv a c
    generalize inv a = i at h1
    grobner
theorem cancel (a b c : F) (ha : a ≠ 0) (h : a * b = a * c) : b = c := by
  have h1 := mul_inv a ha
  generalize inv a = i at h1
  grobner
theorem two_ne : (2 : F) ≠ 0 := by decide
theorem dbl_zero (a : F) (h : a + a = 0) : a = 0 := by
  rcases mul_zero_cases 2 a (by grobner) with h1 | h1
  · exact absurd h1 two_ne
  · exact h1

/-! lines -/
def Ln (a a' b b' l : F) : Prop := a' - b' = l*(a-b) ∧ l*(a'+b') = a*a+a*b+b*b+1
def On (a a' : F) : Prop := a'*a' = a*a*a + a
theorem On.neg {a a' : F} (h : On a a') : On a (-a') := by unfold On at *; grobner
/-- the points are each other's negatives -/
def Up (a a' b b' : F) : Prop := a = b ∧ a' + b' = 0
theorem Ln.symm {a a' b b' l : F} (h : Ln a a' b b' l) : Ln b b' a a' l := by
  obtain ⟨h1, h2⟩ := h; constructor <;> grobner
theorem Ln.flip {a a' b b' l : F} (h : Ln a a' b b' l) : Ln a (-a') b (-b') (-l) := by
  obtain ⟨h1, h2⟩ := h; constructor <;> grobner
theorem same_x {a a' b' : F} (ha : On a a') (hb : On a b') : a' = b' ∨ a' + b' = 0 := by
  unfold On at *
  rcases mul_zero_cases (a' - b') (a' + b') (by grobner) with h | h
  · left; grobner
  · exact Or.inr h
/-- no point is flat -/
theorem not_flat {a : F} (ha : On a 0) (h : 3 * (a * a) + 1 = 0) : False := by
  unfold On at ha
  have h1 : a * (a * a + 1) = 0 := by grobner
  rcases mul_zero_cases _ _ h1 with h2 | h2
  · subst h2; exact absurd h (by decide)
  · have h3 : (2 : F) = 0 := by grobner
    exact two_ne h3
theorem Ln.unique {a a' b b' l m : F} (h : Ln a a' b b' l) (g : Ln a a' b b' m) (ha : On a a') (hb : On b b') (hu : ¬ Up a a' b b') : l = m := by
  obtain ⟨h1, h2⟩ := h
  obtain ⟨g1, g2⟩ := g
  by_cases c : a - b = 0
  · have e : a = b := by grobner
    subst e
    have hn : a' + b' ≠ 0 := fun e => hu ⟨rfl, e⟩
    exact cancel (a' + b') l m hn (by grobner)
  · exact cancel (a - b) l m c (by grobner)
theorem third_on {a a' b b' l s s' : F} (ha : On a a') (hl : Ln a a' b b' l) (hs : s = l*l - a - b) (hs' : s' = l*(a-s) - a') : On s s' := by
  unfold On Ln at *
  obtain ⟨h1, h2⟩ := hl
  subst hs hs'
  grobner
theorem third_ln {a a' b b' l s s' : F} (hl : Ln a a' b b' l) (hs : s = l*l - a - b) (hs' : s' = l*(a-s) - a') : Ln a a' s (-s') l := by
  unfold Ln at *
  obtain ⟨h1, h2⟩ := hl
  subst hs hs'
  constructor <;> grobner
theorem third_ln' {a a' b b' l s s' : F} (hl : Ln a a' b b' l) (hs : s = l*l - a - b) (hs' : s' = l*(a-s) - a') : Ln b b' s (-s') l := by
  unfold Ln at *
  obtain ⟨h1, h2⟩ := hl
  subst hs hs'
  constructor <;> grobner
theorem third_y {a a' b b' l s s' : F} (hl : Ln a a' b b' l) (hs' : s' = l*(a-s) - a') : s' = l*(b-s) - b' := by
  obtain ⟨h1, h2⟩ := hl
  clear h2
  grobner
/-- the two products of lines have one quotient: its sum of slopes -/
theorem key {a a' b b' c c' l1 l2 l3 s s' : F} (hb : On b b') (h1 : Ln a a' b b' l1) (hs : s = l1*l1 - a - b) (hs' : s' = l1*(a-s) - a')
    (h2 : Ln s s' c c' l2) (h3 : Ln b b' c c' l3) (hu : ¬ Up b b' c c') (hc : On c c') : (l1 + l2) * (l1 - l3) = a - c := by
  have t := third_ln' h1 hs hs'
  have e : b + c + s + l1*l2 = (l1+l2)*l3 := by
    obtain ⟨t1, t2⟩ := t
    obtain ⟨u1, u2⟩ := h2
    obtain ⟨v1, v2⟩ := h3
    clear h1 hs hs'
    by_cases d : b - c = 0
    · have e : b = c := by grobner
      subst e
      rcases same_x hb hc with e | e
      · subst e
        have n : b' + b' ≠ 0 := fun e => hu ⟨rfl, e⟩
        refine cancel (b' + b') _ _ n ?_
        unfold On at *
        grobner
      · exact absurd ⟨rfl, e⟩ hu
    · refine cancel (b - c) _ _ d ?_
      grobner
  subst hs
  grobner
theorem assoc_x {a a' b b' c c' l1 l2 l3 l4 s s' t t' : F} (ha : On a a') (hb : On b b') (hc : On c c')
    (h1 : Ln a a' b b' l1) (hs : s = l1*l1 - a - b) (hs' : s' = l1*(a-s) - a')
    (h2 : Ln s s' c c' l2) (h3 : Ln b b' c c' l3) (ht : t = l3*l3 - b - c) (ht' : t' = l3*(b-t) - b')
    (h4 : Ln a a' t t' l4) (hab : ¬ Up a a' b b') (hbc : ¬ Up b b' c c') (hac : a ≠ c) : l1 + l2 = l3 + l4 ∧ (l1 + l2) * (l1 - l3) = a - c := by
  have k1 := key hb h1 hs hs' h2 h3 hbc hc
  have hu' : ¬ Up b b' a a' := fun ⟨e1, e2⟩ => hab ⟨e1.symm, by grobner⟩
  have k2 := key (a := c) (a' := c') (c := a) (c' := a') (l1 := l3) (l2 := l4) (l3 := l1) (s := t) (s' := t') hb h3.symm (by rw [ht]; grobner) (third_y h3 ht') h4.symm h1.symm hu' ha
  refine ⟨?_, k1⟩
  have n : l1 - l3 ≠ 0 := by
    intro e
    rw [e] at k1
    apply hac
    grobner
  exact cancel (l1 - l3) _ _ n (by grobner)

/-! points -/
inductive Pt where
  | O : Pt
  | P (x y : F) : Pt

open Pt
def Ok : Pt → Prop
  | O => True
  | P x y => On x y
def neg : Pt → Pt
  | O => O
  | P x y => P x (-y)
def slope (x y x' y' : F) : F := if x = x' then (3 * (x * x) + 1) * inv (2 * y) else (y' - y) * inv (x' - x)
instance (a a' b b' : F) : Decidable (Up a a' b b') := by unfold Up; infer_instance
def add : Pt → Pt → Pt
  | O, q => q
  | P x y, O => P x y
  | P x y, P x' y' => if Up x y x' y' then O else P (slope x y x' y' * slope x y x' y' - x - x') (slope x y x' y' * (x - (slope x y x' y' * slope x y x' y' - x - x')) - y)
theorem slope_ln {a a' b b' : F} (ha : On a a') (hb : On b b') (hu : ¬ Up a a' b b') : Ln a a' b b' (slope a a' b b') := by
  unfold slope
  by_cases c : a = b
  · subst c
    rw [if_pos rfl]
    rcases same_x ha hb with e | e
    · subst e
      have n : 2 * a' ≠ 0 := fun e => hu ⟨rfl, by grobner⟩
      have i := mul_inv _ n
      generalize inv (2 * a') = j at *
      constructor <;> grobner
    · exact absurd ⟨rfl, e⟩ hu
  · rw [if_neg c]
    have n : b - a ≠ 0 := fun e => c (by grobner)
    have i := mul_inv _ n
    generalize inv (b - a) = j at *
    unfold On at *
    clear hu
    constructor
    · grobner
    · refine cancel (b - a) _ _ n ?_
      grobner
theorem add_P {a a' b b' l s s' : F} (ha : On a a') (hb : On b b') (hu : ¬ Up a a' b b') (hl : Ln a a' b b' l) (hs : s = l*l - a - b) (hs' : s' = l*(a-s) - a') : add (P a a') (P b b') = P s s' := by
  rw [add, if_neg hu, ← Ln.unique hl (slope_ln ha hb hu) ha hb hu, ← hs, ← hs']
/-- what a sum is made of -/
theorem add_cases (a a' b b' : F) (ha : On a a') (hb : On b b') (hu : ¬ Up a a' b b') : ∃ l s s', Ln a a' b b' l ∧ s = l*l - a - b ∧ s' = l*(a-s) - a' ∧ add (P a a') (P b b') = P s s' ∧ On s s' := by
  have h := slope_ln ha hb hu
  exact ⟨_, _, _, h, rfl, rfl, add_P ha hb hu h rfl rfl, third_on ha h rfl rfl⟩
theorem Ok_neg {A : Pt} (h : Ok A) : Ok (neg A) := by
  cases A with
  | O => exact h
  | P x y => exact On.neg h
theorem neg_neg (A : Pt) : neg (neg A) = A := by
  cases A with
  | O => rfl
  | P x y => simp only [neg]; congr 1; grobner
theorem add_zero (A : Pt) : add A O = A := by cases A <;> rfl
theorem zero_add (A : Pt) : add O A = A := by cases A <;> rfl
theorem add_up {a a' b b' : F} (h : Up a a' b b') : add (P a a') (P b b') = O := by rw [add, if_pos h]
theorem Up.symm {a a' b b' : F} (h : Up a a' b b') : Up b b' a a' := ⟨h.1.symm, by have := h.2; grobner⟩
theorem add_comm (A B : Pt) (hA : Ok A) (hB : Ok B) : add A B = add B A := by
  cases A with
  | O => rw [add_zero, zero_add]
  | P a a' =>
    cases B with
    | O => rw [add_zero, zero_add]
    | P b b' =>
      by_cases hu : Up a a' b b'
      · rw [add_up hu, add_up hu.symm]
      · obtain ⟨l, s, s', hl, hs, hs', e, _⟩ := add_cases a a' b b' hA hB hu
        rw [e]
        exact (add_P hB hA (fun h => hu h.symm) hl.symm (by rw [hs]; grobner) (third_y hl hs')).symm
theorem Ok_add {A B : Pt} (hA : Ok A) (hB : Ok B) : Ok (add A B) := by
  cases A with
  | O => rw [zero_add]; exact hB
  | P a a' =>
    cases B with
    | O => rw [add_zero]; exact hA
    | P b b' =>
      by_cases hu : Up a a' b b'
      · rw [add_up hu]; trivial
      · obtain ⟨l, s, s', hl, hs, hs', e, h⟩ := add_cases a a' b b' hA hB hu
        rw [e]; exact h
theorem add_neg (A : Pt) : add A (neg A) = O := by
  cases A with
  | O => rfl
  | P a a' => exact add_up ⟨rfl, by grobner⟩
theorem neg_of_add {A B : Pt} (h : add A B = O) : B = neg A := by
  cases A with
  | O => rw [zero_add] at h; exact h
  | P a a' =>
    cases B with
    | O => rw [add_zero] at h; cases h
    | P b b' =>
      by_cases hu : Up a a' b b'
      · rw [neg, ← hu.1]; congr 1; have := hu.2; grobner
      · rw [add, if_neg hu] at h; cases h
theorem neg_add (A B : Pt) (hA : Ok A) (hB : Ok B) : neg (add A B) = add (neg A) (neg B) := by
  cases A with
  | O => rw [zero_add]; exact (zero_add _).symm
  | P a a' =>
    cases B with
    | O => rw [add_zero]; exact (add_zero _).symm
    | P b b' =>
      by_cases hu : Up a a' b b'
      · rw [add_up hu]; symm; exact add_up ⟨hu.1, by have := hu.2; grobner⟩
      · obtain ⟨l, s, s', hl, hs, hs', e, h⟩ := add_cases a a' b b' hA hB hu
        rw [e]
        exact (add_P (On.neg hA) (On.neg hB) (fun h => hu ⟨h.1, by have := h.2; grobner⟩) hl.flip (by rw [hs]; grobner) (by rw [hs']; grobner)).symm
/-- a point back -/
theorem back (A C : Pt) (hA : Ok A) (hC : Ok C) : add (neg A) (add A C) = C := by
  cases A with
  | O => rfl
  | P a a' =>
    cases C with
    | O => rw [add_zero, add_comm _ _ (Ok_neg hA) hA, add_neg]
    | P c c' =>
      by_cases hu : Up a a' c c'
      · rw [add_up hu, add_zero, neg]
        rw [← hu.1]; congr 1; have := hu.2; grobner
      · obtain ⟨l, s, s', hl, hs, hs', e, h⟩ := add_cases a a' c c' hA hC hu
        rw [e]
        have t := third_ln hl hs hs'
        have hv : ¬ Up a (-a') s s' := by
          rintro ⟨e1, e2⟩
          obtain ⟨t1, t2⟩ := t
          subst e1
          have e3 : s' = a' := by grobner
          subst e3
          have e4 : s' = 0 := dbl_zero _ (by grobner)
          subst e4
          exact not_flat hA (by grobner)
        have g := t.flip
        rw [show -(-s') = s' by grobner] at g
        exact add_P (On.neg hA) h hv g (by rw [hs]; grobner) (by have := third_y hl hs'; have e1 := hl.1; rw [hs'] at *; grobner)
theorem back' (A C : Pt) (hA : Ok A) (hC : Ok C) : add A (add (neg A) C) = C := by
  have h := back (neg A) C (Ok_neg hA) hC
  rw [neg_neg] at h
  exact h
theorem back2 (A C : Pt) (hA : Ok A) (hC : Ok C) : add (add C A) (neg A) = C := by
  rw [add_comm C A hC hA, add_comm _ _ (Ok_add hA hC) (Ok_neg hA)]
  exact back A C hA hC
theorem assoc (A B C : Pt) (hA : Ok A) (hB : Ok B) (hC : Ok C) : add (add A B) C = add A (add B C) := by
  cases A with
  | O => rw [zero_add, zero_add]
  | P a a' =>
  cases B with
  | O => rw [add_zero, zero_add]
  | P b b' =>
  cases C with
  | O => rw [add_zero, add_zero]
  | P c c' =>
  by_cases hab : Up a a' b b'
  · have e : P a a' = neg (P b b') := neg_of_add (add_up hab.symm)
    rw [e, back _ _ hB hC, add_comm _ _ (Ok_neg hB) hB, add_neg, zero_add]
  by_cases hbc : Up b b' c c'
  · have e : P c c' = neg (P b b') := neg_of_add (add_up hbc)
    rw [e, back2 _ _ hB hA, add_neg, add_zero]
  by_cases hac : a = c
  · subst hac
    rcases same_x hA hC with e | e
    · subst e
      rw [add_comm _ _ (Ok_add hA hB) hA, add_comm (P b b') _ hB hA]
    · have e : P a c' = neg (P a a') := neg_of_add (add_up ⟨rfl, e⟩)
      rw [e, add_comm (P a a') _ hA hB, back2 _ _ hA hB, add_comm (P b b') _ hB (Ok_neg hA), back' _ _ hA hB]
  obtain ⟨l1, s, s', h1, hs, hs', es, os⟩ := add_cases a a' b b' hA hB hab
  obtain ⟨l3, t, t', h3, ht, ht', et, ot⟩ := add_cases b b' c c' hB hC hbc
  by_cases hsc : Up s s' c c'
  · have e : P c c' = neg (add (P a a') (P b b')) := by rw [es]; exact neg_of_add (add_up hsc)
    have e2 : add (P b b') (P c c') = neg (P a a') := by
      rw [e, neg_add _ _ hA hB, add_comm _ _ (Ok_neg hA) (Ok_neg hB)]
      exact back' _ _ hB (Ok_neg hA)
    rw [e2, add_neg, e, add_neg]
  by_cases hta : Up a a' t t'
  · have e : P a a' = neg (add (P b b') (P c c')) := by rw [et]; exact neg_of_add (add_up hta.symm)
    have e2 : add (P a a') (P b b') = neg (P c c') := by
      rw [e, neg_add _ _ hB hC, add_comm _ _ (Ok_add (Ok_neg hB) (Ok_neg hC)) hB]
      exact back' _ _ hB (Ok_neg hC)
    rw [e2, et, add_up hta, add_comm _ _ (Ok_neg hC) hC, add_neg]
  rw [es, et]
  obtain ⟨l2, u, u', h2, hu, hu', eu, ou⟩ := add_cases s s' c c' os hC hsc
  obtain ⟨l4, v, v', h4, hv, hv', ev, ov⟩ := add_cases a a' t t' hA ot hta
  rw [eu, ev]
  obtain ⟨m1, m2⟩ := assoc_x hA hB hC h1 hs hs' h2 h3 ht ht' h4 hab hbc hac
  have e1 : u = v := by
    clear h1 h2 h3 h4 hs' ht' hu' hv' hA hB hC os ot ou ov
    grobner
  subst e1
  have hu2 := third_y h2 hu'
  obtain ⟨p1, p2⟩ := h1
  obtain ⟨q1, q2⟩ := h3
  have e3 : (l1+l2)*(l1+l3-(l1+l2)) + u - b = 0 := by
    rw [hu, hs]
    clear hv ht hs' ht' hu2 hv' p1 p2 q1 q2 h2 h4 hA hB hC os ot ou ov hu'
    grobner
  have e4 : u' - v' = (l1 - l3) * ((l1+l2)*(l1+l3-(l1+l2)) + u - b) := by
    rw [hu2, hv']
    clear hu hv ht hs' ht' hs e3 p2 q2 h2 h4 hA hB hC os ot ou ov hu' hu2 hv'
    have e5 : l4 = l1 + l2 - l3 := by grobner
    have e6 : c' = a' - l1*(a-b) - l3*(b-c) := by grobner
    rw [e5, e6]
    clear e5 e6 p1 q1 m1
    grobner
  have e2 : u' = v' := by
    rw [e3] at e4
    clear hu hv ht hs' ht' hs e3 p1 p2 q1 q2 h2 h4 hA hB hC os ot ou ov hu' hu2 hv'
    grobner
  rw [e2]
end Go.Proofs.Ytogcobdgnkiopaa.Crv
end
section
/- What is proved here: what the field's functions answer, of the program and of the reference alike: sums, products and inverses modulo 12107. No conditions. -/
set_option linter.unusedVariables false
set_option linter.unusedSimpArgs false
namespace Go.Proofs.Ytogcobdgnkiopaa.Link
open Go.RowKit Go.Proofs.Ytogcobdgnkiopaa.Pf Go.Proofs.YtogcobdgnkiopaaW.PrintWords Go.Proofs.Ytogcobdgnkiopaa.Crv
set_option maxRecDepth 4000

theorem wrap_in {i : Int} (h0 : -9223372036854775808 ≤ i) (h : i ≤ 9223372036854775807) : wrap64 i = i := by
  unfold wrap64; omega
/-- an element's number, a number's element -/
def I (x : F) : Int := (x.val : Int)
def R (n : Int) : F := Fin.ofNat 12107 (n % 12107).toNat
theorem I_lt (x : F) : I x < 12107 := by have := x.isLt; unfold I; omega
theorem I_nn (x : F) : 0 ≤ I x := by unfold I; omega
theorem I_R (n : Int) : I (R n) = n % 12107 := by
  unfold I R
  show (((n % 12107).toNat % 12107 : Nat) : Int) = _
  omega
theorem R_I (x : F) : R (I x) = x := by
  apply Fin.ext
  show ((x.val : Int) % 12107).toNat % 12107 = x.val
  have := x.isLt
  omega
theorem I_inj {x y : F} (h : I x = I y) : x = y := by rw [← R_I x, h, R_I]
theorem R_mod (n : Int) : R (n % 12107) = R n := by
  apply I_inj; rw [I_R, I_R]; omega
theorem R_small {n : Int} (h0 : 0 ≤ n) (h : n < 12107) : I (R n) = n := by rw [I_R]; omega
theorem I_add (x y : F) : I (x + y) = (((x.val + y.val) % 12107 : Nat) : Int) := rfl
theorem I_mul (x y : F) : I (x * y) = (((x.val * y.val) % 12107 : Nat) : Int) := rfl
theorem I_sub (x y : F) : I (x - y) = (((12107 - y.val + x.val) % 12107 : Nat) : Int) := rfl
theorem R_add (a b : Int) : R (a + b) = R a + R b := by
  apply I_inj
  rw [I_R, I_add]
  have h1 := I_R a
  have h2 := I_R b
  unfold I at h1 h2
  omega
theorem R_mul (a b : Int) : R (a * b) = R a * R b := by
  apply I_inj
  rw [I_R, I_mul]
  have h1 := I_R a
  have h2 := I_R b
  unfold I at h1 h2
  rw [Int.mul_emod, ← h1, ← h2, ← Int.natCast_mul]
  omega
theorem R_sub (a b : Int) : R (a - b) = R a - R b := by
  apply I_inj
  rw [I_R, I_sub]
  have h1 := I_R a
  have h2 := I_R b
  have h3 := (R b).isLt
  unfold I at h1 h2
  omega
theorem R_zero : R 0 = 0 := by decide
theorem R_one : R 1 = 1 := by decide
theorem R_two : R 2 = 2 := by decide
theorem R_three : R 3 = 3 := by decide
theorem I_zero : I 0 = 0 := by decide
theorem I_one : I 1 = 1 := by decide
theorem tmod_two (n : Int) (m : Int) (hm : 0 < m) : Int.tmod n m = n % m ∨ (Int.tmod n m = n % m - m ∧ n % m ≠ 0) := by
  rw [Int.tmod_eq_emod]
  split
  · left; omega
  · rename_i h
    right
    refine ⟨by omega, fun e => h (Or.inr (Int.dvd_of_emod_eq_zero e))⟩
theorem mul_bound (a b : F) : 0 ≤ I a * I b ∧ I a * I b ≤ 146555236 := by
  have h1 := I_nn a
  have h2 := I_nn b
  have h3 := I_lt a
  have h4 := I_lt b
  refine ⟨Int.mul_nonneg h1 h2, ?_⟩
  have := Int.mul_le_mul (show I a ≤ 12106 by omega) (show I b ≤ 12106 by omega) h2 (by decide)
  omega

theorem impl_FpOf_eq (n : Int) : impl_FpOf.f n = some (I (R n)) := by
  unfold impl_FpOf.f impl_remainder.f
  rw [if_neg (by decide)]
  rw [I_R]
  rcases tmod_two n 12107 (by decide) with h | ⟨h, h2⟩
  · rw [h, if_neg (by omega)]; rfl
  · rw [h, if_pos (by omega), wrap_in (by omega) (by omega)]
    simp
theorem impl_FpAdd_eq (a b : Int) : impl_FpAdd.f a b = some (I (R a + R b)) := by
  have h1 := I_lt (R a)
  have h2 := I_lt (R b)
  have h3 := I_nn (R a)
  have h4 := I_nn (R b)
  simp only [impl_FpAdd.f, impl_FpOf_eq, Option.bind_some]
  rw [wrap_in (by omega) (by omega), R_add, R_I, R_I]
theorem impl_FpSub_eq (a b : Int) : impl_FpSub.f a b = some (I (R a - R b)) := by
  have h1 := I_lt (R a)
  have h2 := I_lt (R b)
  have h3 := I_nn (R a)
  have h4 := I_nn (R b)
  simp only [impl_FpSub.f, impl_FpOf_eq, Option.bind_some]
  rw [wrap_in (by omega) (by omega), R_sub, R_I, R_I]
theorem impl_FpMul_eq (a b : Int) : impl_FpMul.f a b = some (I (R a * R b)) := by
  have h := mul_bound (R a) (R b)
  simp only [impl_FpMul.f, impl_FpOf_eq, Option.bind_some]
  rw [wrap_in (by omega) (by omega), R_mul, R_I, R_I]

theorem spec_FpOf_eq (n : Int) : spec_FpOf.f n = some (I (R n)) := by
  unfold spec_FpOf.f
  rw [I_R]
  rcases tmod_two n 12107 (by decide) with h | ⟨h, h2⟩
  · rw [h, if_neg (by omega)]
  · rw [h, if_pos (by omega), wrap_in (by omega) (by omega)]
    simp
theorem spec_FpAdd_eq (a b : Int) : spec_FpAdd.f a b = some (I (R a + R b)) := by
  have h1 := I_lt (R a)
  have h2 := I_lt (R b)
  have h3 := I_nn (R a)
  have h4 := I_nn (R b)
  simp only [spec_FpAdd.f, spec_FpOf_eq, Option.bind_some]
  rw [wrap_in (by omega) (by omega), R_add, R_I, R_I]
theorem spec_FpSub_eq (a b : Int) : spec_FpSub.f a b = some (I (R a - R b)) := by
  have h1 := I_lt (R a)
  have h2 := I_lt (R b)
  have h3 := I_nn (R a)
  have h4 := I_nn (R b)
  simp only [spec_FpSub.f, spec_FpOf_eq, Option.bind_some]
  rw [wrap_in (by omega) (by omega), R_sub, R_I, R_I]
theorem spec_FpMul_eq (a b : Int) : spec_FpMul.f a b = some (I (R a * R b)) := by
  have h := mul_bound (R a) (R b)
  simp only [spec_FpMul.f, spec_FpOf_eq, Option.bind_some]
  rw [wrap_in (by omega) (by omega), R_mul, R_I, R_I]

theorem halve (n : Nat) (h : n < 4611686018427387904) : wrap64 (Int.tdiv (n : Int) 2) = ((n / 2 : Nat) : Int) := by
  rw [Int.tdiv_eq_ediv_of_nonneg (by omega), wrap_in (by omega) (by omega)]; omega
theorem odd (n : Nat) : Int.tmod (n : Int) 2 = 1 ↔ n % 2 = 1 := by
  rw [Int.tmod_eq_emod_of_nonneg (by omega)]; omega
theorem pwl_stop : ∀ (f : Nat) (a out : F), pwl f a 0 out = out
  | 0, _, _ => rfl
  | f + 1, a, out => by rw [pwl, if_pos rfl]
theorem tmod_mul (a b : F) : Int.tmod (wrap64 (I a * I b)) 12107 = I (a * b) := by
  have h := mul_bound a b
  rw [wrap_in (by omega) (by omega), Int.tmod_eq_emod_of_nonneg h.1, ← I_R, R_mul, R_I, R_I]
theorem impl_power_l0 : ∀ (f k : Nat) (a : F) (n : Nat) (out : F), n < 2 ^ f → f ≤ 60 → f < k → impl_powerMod.l0 k (I a) (n : Int) 12107 (I out) = some (I (pwl f a n out))
  | 0, k, a, n, out, h, _, hk => by
    obtain rfl : n = 0 := by simp at h; exact h
    obtain ⟨k, rfl⟩ : ∃ m, k = m + 1 := ⟨k - 1, by omega⟩
    simp only [impl_powerMod.l0]
    rw [if_neg (by omega), pwl]
  | f + 1, k, a, n, out, h, hf, hk => by
    obtain ⟨k, rfl⟩ : ∃ m, k = m + 1 := ⟨k - 1, by omega⟩
    have hb : 2 ^ (f + 1) ≤ 2 ^ 60 := Nat.pow_le_pow_right (by decide) hf
    simp only [impl_powerMod.l0]
    rw [pwl]
    by_cases c : n = 0
    · subst c; rw [if_neg (by omega), if_pos rfl]
    rw [if_pos (by omega), if_neg c, halve n (by omega)]
    rw [Nat.pow_succ] at h
    by_cases d : n % 2 = 1
    · rw [if_pos ((odd n).mpr d), if_pos d, if_neg (by decide), tmod_mul, tmod_mul, impl_power_l0 f k _ _ _ (by omega) (by omega) (by omega)]
    · rw [if_neg (fun e => d ((odd n).mp e)), if_neg d, if_neg (by decide), tmod_mul, impl_power_l0 f k _ _ _ (by omega) (by omega) (by omega)]
theorem impl_power_eq (k : Nat) (a : Int) (n f : Nat) (h : n < 2 ^ f) (hf : f ≤ 60) (hk : f < k) : impl_powerMod.f k a (n : Int) 12107 = some (I (pwl f (R a) n 1)) := by
  have e := impl_FpOf_eq a
  unfold impl_FpOf.f at e
  have e2 : impl_remainder.f a 12107 = some (I (R a)) := by
    cases h : impl_remainder.f a 12107 with
    | none => rw [h] at e; cases e
    | some v => rw [h] at e; exact e
  simp only [impl_powerMod.f, e2, Option.bind_some]
  have := impl_power_l0 f k (R a) n 1 h hf hk
  rw [I_one] at this
  exact this
theorem spec_power_l0 : ∀ (f k : Nat) (a : F) (n : Nat) (out : F), n < 2 ^ f → f ≤ 60 → f < k → spec_FpPow.l0 k (n : Int) (I out) (I a) = some (I (pwl f a n out))
  | 0, k, a, n, out, h, _, hk => by
    obtain rfl : n = 0 := by simp at h; exact h
    obtain ⟨k, rfl⟩ : ∃ m, k = m + 1 := ⟨k - 1, by omega⟩
    simp only [spec_FpPow.l0]
    rw [if_neg (by omega), pwl]
  | f + 1, k, a, n, out, h, hf, hk => by
    obtain ⟨k, rfl⟩ : ∃ m, k = m + 1 := ⟨k - 1, by omega⟩
    have hb : 2 ^ (f + 1) ≤ 2 ^ 60 := Nat.pow_le_pow_right (by decide) hf
    simp only [spec_FpPow.l0, spec_FpMul_eq, Option.bind_some, R_I]
    rw [pwl]
    by_cases c : n = 0
    · subst c; rw [if_neg (by omega), if_pos rfl]
    rw [if_pos (by omega), if_neg c, halve n (by omega)]
    rw [Nat.pow_succ] at h
    by_cases d : n % 2 = 1
    · rw [if_pos ((odd n).mpr d), if_pos d, spec_power_l0 f k _ _ _ (by omega) (by omega) (by omega)]
    · rw [if_neg (fun e => d ((odd n).mp e)), if_neg d, spec_power_l0 f k _ _ _ (by omega) (by omega) (by omega)]
theorem spec_power_eq (k : Nat) (a : Int) (n f : Nat) (h : n < 2 ^ f) (hf : f ≤ 60) (hk : f < k) : spec_FpPow.f k a (n : Int) = some (I (pwl f (R a) n 1)) := by
  simp only [spec_FpPow.f, spec_FpOf_eq, Option.bind_some]
  rw [if_neg (by omega)]
  have := spec_power_l0 f k (R a) n 1 h hf hk
  rw [I_one] at this
  exact this
theorem impl_FpInv_eq (k : Nat) (a : Int) (hk : 15 ≤ k) : impl_FpInv.f k a = some (I (inv (R a))) := by
  have h := impl_power_eq k a 12105 14 (by decide) (by decide) (by omega)
  have e : ((12105 : Nat) : Int) = 12105 := rfl
  rw [e] at h
  simp only [impl_FpInv.f, h, Option.bind_some, inv]
theorem spec_FpInv_eq (k : Nat) (a : Int) (hk : 15 ≤ k) : spec_FpInv.f k a = some (I (inv (R a))) := by
  have h := spec_power_eq k a 12105 14 (by decide) (by decide) (by omega)
  have e : ((12105 : Nat) : Int) = 12105 := rfl
  rw [e] at h
  simp only [spec_FpInv.f, h, Option.bind_some, inv]

end Go.Proofs.Ytogcobdgnkiopaa.Link
end
section
/- What is proved here: what the functions over points of the curve answer, of the program and of the reference alike: the sum of the curve. No conditions but that points lie on the curve. -/
set_option linter.unusedVariables false
set_option linter.unusedSimpArgs false
namespace Go.Proofs.Ytogcobdgnkiopaa.Link
open Go.RowKit Go.Proofs.Ytogcobdgnkiopaa.Pf Go.Proofs.YtogcobdgnkiopaaW.PrintWords Go.Proofs.Ytogcobdgnkiopaa.Crv
open Go.Proofs.Ytogcobdgnkiopaa.Crv.Pt
set_option maxRecDepth 4000


def tr : Pt → Int × Int × Bool
  | O => (0, 0, true)
  | P x y => (I x, I y, false)
/-- the point that three parts tell -/
def dec (x y : Int) (z : Bool) : Option Pt :=
  if z = true then (if x = 0 ∧ y = 0 then some O else none)
  else if (0 ≤ x ∧ x < 12107) ∧ (0 ≤ y ∧ y < 12107) ∧ R y * R y = R x * R x * R x + R x then some (P (R x) (R y)) else none
theorem dec_ok {x y : Int} {z : Bool} {A : Pt} (h : dec x y z = some A) : Ok A ∧ x = (tr A).1 ∧ y = (tr A).2.1 ∧ z = (tr A).2.2 := by
  unfold dec at h
  by_cases c : z = true
  · rw [if_pos c] at h
    by_cases d : x = 0 ∧ y = 0
    · rw [if_pos d] at h
      obtain rfl := Option.some.inj h
      exact ⟨trivial, d.1, d.2, c⟩
    · rw [if_neg d] at h; cases h
  · rw [if_neg c] at h
    by_cases d : (0 ≤ x ∧ x < 12107) ∧ (0 ≤ y ∧ y < 12107) ∧ R y * R y = R x * R x * R x + R x
    · rw [if_pos d] at h
      obtain rfl := Option.some.inj h
      obtain ⟨⟨d1, d2⟩, ⟨d3, d4⟩, d5⟩ := d
      exact ⟨d5, (R_small d1 d2).symm, (R_small d3 d4).symm, Bool.eq_false_iff.mpr c⟩
    · rw [if_neg d] at h; cases h
theorem dec_tr (A : Pt) (hA : Ok A) : dec (tr A).1 (tr A).2.1 (tr A).2.2 = some A := by
  cases A with
  | O => rfl
  | P x y =>
    unfold dec tr
    have hA' : y * y = x * x * x + x := hA
    dsimp only
    rw [if_neg (by decide), if_pos ⟨⟨I_nn x, I_lt x⟩, ⟨I_nn y, I_lt y⟩, by rw [R_I, R_I]; exact hA'⟩, R_I, R_I]
theorem tr_inj {A B : Pt} (hA : Ok A) (hB : Ok B) (h : tr A = tr B) : A = B := by
  have h1 := dec_tr A hA
  rw [h, dec_tr B hB] at h1
  exact (Option.some.inj h1).symm
theorem Ieq_iff (x y : F) : I x = I y ↔ x = y := ⟨I_inj, fun h => by rw [h]⟩
theorem I_eq_zero (x : F) : I x = 0 ↔ x = 0 := by rw [← I_zero]; exact Ieq_iff x 0
theorem addc (a b c d : F) : (I (a * b * c + d) == I (a * b * c + d)) = true := by simp

theorem impl_curve_eq (x : Int) : impl_curveAt.f x = some (I (R x * R x * R x + R x)) := by
  simp only [impl_curveAt.f, impl_FpMul_eq, impl_FpAdd_eq, Option.bind_some, R_I]
theorem impl_FpOk_eq (x : Int) : impl_FpOk.f x = some (decide (0 ≤ x ∧ x < 12107)) := by
  unfold impl_FpOk.f
  by_cases h : x ≥ 0
  · rw [if_pos h]; congr 1; simp only [decide_eq_decide]; omega
  · rw [if_neg h, decide_eq_false (by omega)]
theorem impl_PointOk_eq (x y : Int) (z : Bool) : impl_PointOk.f x y z = some (dec x y z).isSome := by
  unfold impl_PointOk.f dec
  simp only [impl_FpOk_eq, impl_curve_eq, impl_FpMul_eq, Option.bind_some]
  by_cases c : z = true
  · rw [if_pos c, if_pos c]
    by_cases d : x = 0
    · rw [if_pos d]
      by_cases e : y = 0
      · rw [if_pos ⟨d, e⟩, e]; rfl
      · rw [if_neg (fun h => e h.2), beq_false_of_ne e]; rfl
    · rw [if_neg d, if_neg (fun h => d h.1)]; rfl
  · rw [if_neg c, if_neg c]
    by_cases d : 0 ≤ x ∧ x < 12107
    · rw [decide_eq_true d, if_pos rfl]
      by_cases e : 0 ≤ y ∧ y < 12107
      · rw [decide_eq_true e, if_pos rfl]
        by_cases f : R y * R y = R x * R x * R x + R x
        · rw [if_pos ⟨d, e, f⟩, f]; simp
        · rw [if_neg (fun h => f h.2.2), beq_false_of_ne (fun h => f (I_inj h))]; rfl
      · rw [decide_eq_false e, if_neg (by decide), if_neg (fun h => e h.2.1)]; rfl
    · rw [decide_eq_false d, if_neg (by decide), if_neg (fun h => d h.1)]; rfl

theorem spec_curve_eq (x : Int) : spec_l07Right.f x = some (I (R x * R x * R x + R x)) := by
  simp only [spec_l07Right.f, spec_FpMul_eq, spec_FpAdd_eq, Option.bind_some, R_I]
theorem spec_FpOk_eq (x : Int) : spec_FpOk.f x = some (decide (0 ≤ x ∧ x < 12107)) := by
  simp only [spec_FpOk.f, spec_l01In.f]
  by_cases h : x ≥ 0
  · rw [if_pos h]; simp only [Option.bind_some]; congr 1; simp only [decide_eq_decide]; omega
  · rw [if_neg h, decide_eq_false (by omega)]; rfl
theorem spec_PointOk_eq (x y : Int) (z : Bool) : spec_PointOk.f x y z = some (dec x y z).isSome := by
  unfold spec_PointOk.f dec
  simp only [spec_FpOk_eq, spec_curve_eq, spec_FpMul_eq, Option.bind_some]
  by_cases c : z = true
  · rw [if_pos c, if_pos c]
    by_cases d : x = 0
    · rw [if_pos d]
      by_cases e : y = 0
      · rw [if_pos ⟨d, e⟩, e]; rfl
      · rw [if_neg (fun h => e h.2), beq_false_of_ne e]; rfl
    · rw [if_neg d, if_neg (fun h => d h.1)]; rfl
  · rw [if_neg c, if_neg c]
    by_cases d : 0 ≤ x ∧ x < 12107
    · rw [decide_eq_true d, if_pos rfl]
      by_cases e : 0 ≤ y ∧ y < 12107
      · rw [decide_eq_true e, if_pos rfl]
        by_cases f : R y * R y = R x * R x * R x + R x
        · rw [if_pos ⟨d, e, f⟩, f]; simp
        · rw [if_neg (fun h => f h.2.2), beq_false_of_ne (fun h => f (I_inj h))]; rfl
      · rw [decide_eq_false e, if_neg (by decide), if_neg (fun h => e h.2.1)]; rfl
    · rw [decide_eq_false d, if_neg (by decide), if_neg (fun h => d h.1)]; rfl

theorem impl_slope_eq (k : Nat) (hk : 20 ≤ k) (a a' b b' : F) (ha : On a a') (hb : On b b') :
    impl_slopeOf.f k (I a) (I a') false (I b) (I b') false = some (if Up a a' b b' then (0, false) else (I (slope a a' b b'), true)) := by
  obtain ⟨k, rfl⟩ : ∃ m, k = m + 1 := ⟨k - 1, by omega⟩
  unfold impl_slopeOf.f
  by_cases c : a = b
  · subst c
    rw [if_pos rfl]
    have e0 : impl_slopeOf.j0 (k + 1) true (I a) (I a') false = some (0, false) := by simp only [impl_slopeOf.j0, if_true]
    by_cases d : a' = b'
    · subst d
      rw [if_pos rfl]
      by_cases e : a' = 0
      · subst e
        rw [show (I 0 == 0) = true from rfl, e0, if_pos ⟨rfl, by decide⟩]
      · have u : ¬ Up a a' a a' := fun h => e (dbl_zero _ h.2)
        rw [if_neg u, beq_false_of_ne (fun h => e ((I_eq_zero a').mp h))]
        simp only [impl_slopeOf.j0, impl_FpMul_eq, impl_FpAdd_eq, impl_FpInv_eq k _ (by omega), Option.bind_some, R_I, R_three, R_two, R_one, slope, if_true]
        rw [if_neg (by decide)]
    · rw [if_neg (fun h => d (I_inj h)), e0]
      rcases same_x ha hb with e | e
      · exact absurd e d
      · rw [if_pos ⟨rfl, e⟩]
  · have u : ¬ Up a a' b b' := fun h => c h.1
    rw [if_neg (fun h => c (I_inj h)), if_neg u]
    simp only [impl_FpSub_eq, impl_FpMul_eq, impl_FpInv_eq (k + 1) _ (by omega), Option.bind_some, R_I, slope, if_neg c]
theorem spec_slope_eq (k : Nat) (hk : 20 ≤ k) (a a' b b' : F) (ha : On a a') (hb : On b b') :
    spec_l07Slope.f k (I a) (I a') false (I b) (I b') false = some (if Up a a' b b' then (0, false) else (I (slope a a' b b'), true)) := by
  unfold spec_l07Slope.f
  by_cases c : a = b
  · subst c
    rw [if_pos rfl, spec_FpAdd_eq, Option.bind_some, R_I, R_I]
    by_cases e : a' + b' = 0
    · rw [e, I_zero, if_pos rfl, if_pos ⟨rfl, e⟩]
    · rw [if_neg (fun h => e ((I_eq_zero _).mp h)), if_neg (fun h => e h.2)]
      simp only [spec_FpMul_eq, spec_FpAdd_eq, spec_FpInv_eq k _ (show 15 ≤ k by omega), Option.bind_some, R_I, R_three, R_two, R_one]
      rw [slope, if_pos rfl]
  · have u : ¬ Up a a' b b' := fun h => c h.1
    rw [if_neg (fun h => c (I_inj h)), if_neg u]
    simp only [spec_FpSub_eq, spec_FpMul_eq, spec_FpInv_eq k _ (by omega), Option.bind_some, R_I, slope, if_neg c]

theorem impl_add_eq (k : Nat) (hk : 20 ≤ k) (A B : Pt) (hA : Ok A) (hB : Ok B) :
    impl_add.f k (tr A).1 (tr A).2.1 (tr A).2.2 (tr B).1 (tr B).2.1 (tr B).2.2 = some (tr (add A B)) := by
  unfold impl_add.f
  cases A with
  | O => rw [zero_add, if_pos (show (tr O).2.2 = true from rfl)]
  | P a a' =>
    rw [if_neg (by simp [tr])]
    cases B with
    | O => rw [add_zero, if_pos (show (tr O).2.2 = true from rfl)]
    | P b b' =>
      rw [if_neg (by simp [tr])]
      simp only [tr, impl_slope_eq k hk a a' b b' hA hB, Option.bind_some]
      by_cases u : Up a a' b b'
      · rw [add_up u]
        simp only [if_pos u, Option.bind_some, Bool.false_eq_true, if_false]
      · rw [add, if_neg u]
        simp only [if_neg u, if_true, impl_FpSub_eq, impl_FpMul_eq, Option.bind_some, R_I]

theorem spec_add_eq (k : Nat) (hk : 20 ≤ k) (A B : Pt) (hA : Ok A) (hB : Ok B) :
    spec_l07Add.f k (tr A).1 (tr A).2.1 (tr A).2.2 (tr B).1 (tr B).2.1 (tr B).2.2 = some (tr (add A B)) := by
  unfold spec_l07Add.f
  cases A with
  | O => rw [zero_add, if_pos (show (tr O).2.2 = true from rfl)]
  | P a a' =>
    rw [if_neg (by simp [tr])]
    cases B with
    | O => rw [add_zero, if_pos (show (tr O).2.2 = true from rfl)]
    | P b b' =>
      rw [if_neg (by simp [tr])]
      simp only [tr, spec_slope_eq k hk a a' b b' hA hB, Option.bind_some]
      by_cases u : Up a a' b b'
      · rw [add_up u]
        simp only [if_pos u, spec_l07Zero.f, Option.bind_some, Bool.false_eq_true, if_false]
      · rw [add, if_neg u]
        simp only [if_neg u, if_true, spec_FpSub_eq, spec_FpMul_eq, Option.bind_some, R_I]

end Go.Proofs.Ytogcobdgnkiopaa.Link
end
