/- What is proved here: part 3 of 5 of the proof of the given statement FnCommittees: the contracts of the Go functions that it reaches, the plain facts on lists and numbers, and (in the last part) the statement itself. No conditions beyond the given ones. -/
import Derived.Test.YtkdmplfldfagnaaDoorMFnCommitteeswSlim
import Derived.Test.YtkdmplfldfagnaaDoorMFnCommitteesa
import Derived.Test.YtkdmplfldfagnaaDoorMFnCommitteesb

section
namespace Go.Proofs.YtkdmplfldfagnaaDoor.Pf
open Go.RowKit Go.Proofs.YtkdmplfldfagnaaDoorW.PrintWords Go.Proofs.YtkdmplfldfagnaaDoorW.PrintLast Go.Proofs.YtkdmplfldfagnaaDoorW.PrintMore
attribute [local go_sem] max2_int min2_int max_two min_two max_three min_three max_four min_four   -- for this text's walks alone
set_option linter.unusedVariables false
set_option linter.unusedSimpArgs false
def impl_ReadPoint.f (k : Nat) (a0 : ByteArray) : Option (Int × Int × Bool × Bool) := if (a0.size : Int) = 3 then (if 0 < (a0.size : Int) then (if 1 < (a0.size : Int) then (if (wrap64 ((wrap64 ((wrap64 ((wrap64 (bt a0 0)) * 256)) + (wrap64 (bt a0 1)))) - 1)) < 0 then ((impl_PointText.f 0 0 true).bind fun t806 => (if t806.toList = a0.toList then (some (0, 0, true, true)) else (some (0, 0, false, false)))) else ((impl_curveAt.f (wrap64 ((wrap64 ((wrap64 ((wrap64 (bt a0 0)) * 256)) + (wrap64 (bt a0 1)))) - 1))).bind fun t807 => ((impl_FpRoot.f k t807).bind fun bt808 => (if 2 < (a0.size : Int) then (if (Int.tmod bt808.1 2) = (wrap64 (bt a0 2)) then ((impl_PointText.f (wrap64 ((wrap64 ((wrap64 ((wrap64 (bt a0 0)) * 256)) + (wrap64 (bt a0 1)))) - 1)) bt808.1 false).bind fun t810 => (if t810.toList = a0.toList then (some (wrap64 ((wrap64 ((wrap64 ((wrap64 (bt a0 0)) * 256)) + (wrap64 (bt a0 1)))) - 1), bt808.1, false, true)) else (some (0, 0, false, false)))) else ((impl_PointNeg.f (wrap64 ((wrap64 ((wrap64 ((wrap64 (bt a0 0)) * 256)) + (wrap64 (bt a0 1)))) - 1)) bt808.1 false).bind fun bt811 => ((impl_PointText.f bt811.1 bt811.2.1 bt811.2.2).bind fun t814 => (if t814.toList = a0.toList then (some (bt811.1, bt811.2.1, bt811.2.2, true)) else (some (0, 0, false, false)))))) else (none))))) else (none)) else (none)) else (some (0, 0, false, false))
def impl_ReadPoint.T3 : Bool × List (List Nat × List Nat) := (true, [([], []), ([0], [0]), ([1], [1]), ([2], [2]), ([], []), ([4], [4]), ([5], [5]), ([3, 6], [3, 6]), ([7], [7]), ([8], [8]), ([], []), ([10, 9, 0, 1, 2, 3, 4, 5, 6, 7, 8, 9, 10], [9, 10])])
def impl_ReadPoint.B3 : List Nat := [0, 1, 3, 7, 0, 16, 48, 127, 255, 511, 0, 2047]
theorem impl_ReadPoint.tab3 : rtab .any (opsOf Tryd.f75 3) = impl_ReadPoint.T3 := by kernel_rfl
theorem impl_ReadPoint.bits3 : waitsOk impl_ReadPoint.T3.2 impl_ReadPoint.B3 = true := by kernel_rfl
set_option maxHeartbeats 8000000 in
set_option maxRecDepth 100000 in
theorem impl_ReadPoint.calls (k : Nat) (a0 : ByteArray) (r1 : Int) (r2 : Int) (r3 : Bool) (r4 : Bool) (w : World) (h : impl_ReadPoint.f k a0 = some (r1, r2, r3, r4)) :
  Calls Tryd.prog 75 #[.string a0] w fun e w' => e = .returned (.tuple #[.agg #[.int .i64 r1, .int .i64 r2, .bool r3], .bool r4]) ∧ Below w.heap.size w w' := by
 have hu23 := Tryd.underlying23
 have HB := Aside0.mk (Below.refl w.heap.size w)
 have H : (if (a0.size : Int) = 3 then (if 0 < (a0.size : Int) then (if 1 < (a0.size : Int) then (if (wrap64 ((wrap64 ((wrap64 ((wrap64 (bt a0 0)) * 256)) + (wrap64 (bt a0 1)))) - 1)) < 0 then ((impl_PointText.f 0 0 true).bind fun t806 => (if t806.toList = a0.toList then (some (0, 0, true, true)) else (some (0, 0, false, false)))) else ((impl_curveAt.f (wrap64 ((wrap64 ((wrap64 ((wrap64 (bt a0 0)) * 256)) + (wrap64 (bt a0 1)))) - 1))).bind fun t807 => ((impl_FpRoot.f k t807).bind fun bt808 => (if 2 < (a0.size : Int) then (if (Int.tmod bt808.1 2) = (wrap64 (bt a0 2)) then ((impl_PointText.f (wrap64 ((wrap64 ((wrap64 ((wrap64 (bt a0 0)) * 256)) + (wrap64 (bt a0 1)))) - 1)) bt808.1 false).bind fun t810 => (if t810.toList = a0.toList then (some (wrap64 ((wrap64 ((wrap64 ((wrap64 (bt a0 0)) * 256)) + (wrap64 (bt a0 1)))) - 1), bt808.1, false, true)) else (some (0, 0, false, false)))) else ((impl_PointNeg.f (wrap64 ((wrap64 ((wrap64 ((wrap64 (bt a0 0)) * 256)) + (wrap64 (bt a0 1)))) - 1)) bt808.1 false).bind fun bt811 => ((impl_PointText.f bt811.1 bt811.2.1 bt811.2.2).bind fun t814 => (if t814.toList = a0.toList then (some (bt811.1, bt811.2.1, bt811.2.2, true)) else (some (0, 0, false, false)))))) else (none))))) else (none)) else (none)) else (some (0, 0, false, false))) = some (r1, r2, r3, r4) := h
 clear h
 by_cases c2 : (a0.size : Int) = 3
 ·rw [if_pos c2] at H
  have c2b0 : ((a0.size : Int) == 3) = true := beq_iff_eq.mpr c2
  have c2b1 : ((a0.size : Int) != 3) = false := bne_eq_false_iff_eq.mpr c2
  clear c2
  by_cases c3 : 0 < (a0.size : Int)
  ·rw [if_pos c3] at H
   have c3b0 : decide (0 < (a0.size : Int)) = true := decide_eq_true c3
   have c3b1 : decide (0 < a0.size) = true := decide_eq_true (by omega)
   clear c3
   by_cases c5 : 1 < (a0.size : Int)
   ·rw [if_pos c5] at H
    have c5b0 : decide (1 < (a0.size : Int)) = true := decide_eq_true c5
    have c5b1 : decide (1 < a0.size) = true := decide_eq_true (by omega)
    clear c5
    by_cases c7 : (wrap64 ((wrap64 ((wrap64 ((wrap64 (bt a0 0)) * 256)) + (wrap64 (bt a0 1)))) - 1)) < 0
    ·rw [if_pos c7] at H
     have c7b0 : decide ((wrap64 ((wrap64 ((wrap64 ((wrap64 (bt a0 0)) * 256)) + (wrap64 (bt a0 1)))) - 1)) < 0) = true := decide_eq_true c7
     clear c7
     replace H := Option.bind_eq_some_iff.mp H
     obtain ⟨t806, A80, H⟩ := H
     have A8 := Aside0.mk A80
     clear A80
     by_cases c9 : t806.toList = a0.toList
     ·rw [if_pos c9] at H
      have c9b0 : (t806.toList == a0.toList) = true := beq_iff_eq.mpr c9
      have c9b1 : (t806.toList != a0.toList) = false := bne_eq_false_iff_eq.mpr c9
      clear c9
      simp only [Option.some.injEq, Prod.mk.injEq] at H
      obtain ⟨rfl, rfl, rfl, rfl⟩ := H
      go_enter Tryd.func75, Tryd.ntmps75
      try go_wp2_with (first | ((with_reducible refine gate_dst (N := 2) rfl ?_); refine bE 2 #[.int .i64 0, .int .i64 0, .bool false] 23 ?_; intro gb804 hg w10 hbox hb; have BK804 := Aside0.mk (hbox); have GW804 := bG HB hg; have GE804 := bG HB hg; replace HB := bS HB hb; clear hb hbox hg))
      replace BK804 := Aside0.mk (blk_drew BK804.out)
      replace HB := Aside0.mk (below_drew1 HB.out)
      have p4 : 0 ≤ (0 : Int) := (by omega)
      have q4 : 0 < a0.size := (by have : (0 : Int) < (a0.size : Int) := of_decide_eq_true (by first | (with_reducible assumption) | assumption); omega)
      have hx4 : ∀ h : 0 < a0.size, ((a0[0]'h).toNat : Int) = bt a0 0 := bt_at a0 0
      clear p4
      have qi4 : (0 < (a0.size : Int)) = True := eq_true (of_decide_eq_true (by first | (with_reducible assumption) | assumption))
      replace q4 := eq_true q4
      have p6 : 0 ≤ (1 : Int) := (by omega)
      have q6 : 1 < a0.size := (by have : (1 : Int) < (a0.size : Int) := of_decide_eq_true (by first | (with_reducible assumption) | assumption); omega)
      have hx6 : ∀ h : 1 < a0.size, ((a0[1]'h).toNat : Int) = bt a0 1 := bt_at a0 1
      clear p6
      have qi6 : (1 < (a0.size : Int)) = True := eq_true (of_decide_eq_true (by first | (with_reducible assumption) | assumption))
      replace q6 := eq_true q6
      refine start_ (n := 12) (S := fun w' => True) (ds := []) #[false, false, false, false, false, false, false, false, false, false, false, false] (by kernel_rfl) rfl rfl trivial (fun hHeld => ?_); refine with_tabW impl_ReadPoint.tab3 impl_ReadPoint.bits3 (fun HT_ HW_ => ?_)
      generalize w10.drew = w11 at BK804 HB hHeld ⊢
      refine pI 0 (some 9) HT_.out ?_
      refine pI 4 (some 13) HT_.out ?_
      refine take_ (i := 1) (N := some 10) (v := ?_) (a' := ?_) #[true, true, false, false, true, false, false, false, false, false, false, false] rfl rfl (take_ofW HT_.out HW_.out (by kernel_rfl)) (fun _ _ _ h => h) (Or.inl ⟨by rfl, ?_⟩) hHeld ?_ ?_
      rotate_left
      ·intro w' _
       go_simp
       with_reducible rfl
      rotate_left
      ·simp only [Act.put, List.setIfInBounds_toArray, List.set_cons_zero, List.set_cons_succ, i64_w, i32_w]
       rfl
      refine pI 2 (some 11) HT_.out ?_
      refine pI 3 (some 12) HT_.out ?_
      refine take_ (i := 5) (N := some 14) (v := ?_) (a' := ?_) #[true, true, true, true, true, true, false, false, false, false, false, false] rfl rfl (take_ofW HT_.out HW_.out (by kernel_rfl)) (fun _ _ _ h => h) (Or.inl ⟨by rfl, ?_⟩) hHeld ?_ ?_
      rotate_left
      ·intro w' _
       go_simp
       with_reducible rfl
      rotate_left
      ·simp only [Act.put, List.setIfInBounds_toArray, List.set_cons_zero, List.set_cons_succ, i64_w, i32_w]
       rfl
      refine pI 6 (some 15) HT_.out ?_
      refine pI 7 (some 16) HT_.out ?_
      refine pI 8 (some 17) HT_.out ?_
      refine pI 9 (some 18) HT_.out ?_
      refine oI 10 (some 4) HT_.out (fun K hK => ?_)
      refine box_step ?hg (N := 4) ?hd (cs := #[.int .i64 0, .int .i64 0, .bool false]) (t := 23) ?hr ?_; (case hd => rfl); (case hg => rfl); (case hr => first | (go_simp; done) | (go_simp; rfl))
      intro gb805 hg w12 hbox hb
      have BK805 := Aside0.mk (hbox)
      have GW805 := bG HB hg
      have GE805 := bG HB hg
      replace HB := bS HB hb
      have NB804_805 := bL BK804 hg
      have NB805_804 := bR BK804 hg
      replace BK804 := bB BK804 hb
      clear hb hbox hg
      refine hK.out _ _ trivial (fun hHeld => ?_)
      clear hK K
      refine nO (some 4) ?_
      refine oI 11 (none) HT_.out (fun K hK => ?_)
      have hs13 : w12.cell? ⟨gb805, 0, none⟩ = some (.int .i64 0) := bc BK805 0
      have hfs13 := blk_frozen BK805.out 0
      have hns13_0 := NB804_805.out
      have hms13_0 := NB805_804.out
      have hs14 : w12.cell? ⟨gb805, 1, none⟩ = some (.int .i64 0) := bc BK805 1
      have hfs14 := blk_frozen BK805.out 1
      have hns14_0 := NB804_805.out
      have hms14_0 := NB805_804.out
      have hs15 : w12.cell? ⟨gb805, 2, none⟩ = some (.bool false) := bc BK805 2
      have hfs15 := blk_frozen BK805.out 2
      have hns15_0 := NB804_805.out
      have hms15_0 := NB805_804.out
      refine skip_ (w1 := ?_) (by rfl) rfl ?_ ?_
      rotate_left
      ·go_simp
       rfl
      refine hK.out _ _ trivial (fun hHeld => ?_)
      clear hK K
      refine done_ (done_of HT_.out (by kernel_rfl)) ?_
      have hnb16 := NB805_804.out
      have hnc16 := NB804_805.out
      obtain ⟨hcz17_0, hcz17_1, hcz17_2, hfz17_0, hfz17_1, hfz17_2⟩ := bK3 (w := w12) BK805
      have q1_ : Aside0 ((((w12.setCell ⟨gb805, 0, none⟩ (.int .i64 (wrap64 ((wrap64 ((wrap64 ((wrap64 (bt a0 0)) * 256)) + (wrap64 (bt a0 1)))) - 1)))).setCell ⟨gb805, 1, none⟩ (.int .i64 0)).setCell ⟨gb805, 2, none⟩ (.bool false)).heap[gb805]? = some (.cells #[.int .i64 (wrap64 ((wrap64 ((wrap64 ((wrap64 (bt a0 0)) * 256)) + (wrap64 (bt a0 1)))) - 1)), .int .i64 0, .bool false] 23 (0, 0))) := ⟨by refine blk_put (cs := #[.int .i64 (wrap64 ((wrap64 ((wrap64 ((wrap64 (bt a0 0)) * 256)) + (wrap64 (bt a0 1)))) - 1)), .int .i64 0, .bool false]) ?_ 2 _ rfl; refine blk_put (cs := #[.int .i64 (wrap64 ((wrap64 ((wrap64 ((wrap64 (bt a0 0)) * 256)) + (wrap64 (bt a0 1)))) - 1)), .int .i64 0, .bool false]) ?_ 1 _ rfl; refine blk_put (cs := #[.int .i64 0, .int .i64 0, .bool false]) ?_ 0 _ rfl; exact BK805.out⟩
      have q2_ : Aside0 ((((w12.setCell ⟨gb805, 0, none⟩ (.int .i64 (wrap64 ((wrap64 ((wrap64 ((wrap64 (bt a0 0)) * 256)) + (wrap64 (bt a0 1)))) - 1)))).setCell ⟨gb805, 1, none⟩ (.int .i64 0)).setCell ⟨gb805, 2, none⟩ (.bool false)).heap[gb804]? = some (.cells #[.int .i64 0, .int .i64 0, .bool false] 23 (0, 0))) := ⟨by refine blk_far ?_ NB804_805.out _; refine blk_far ?_ NB804_805.out _; refine blk_far ?_ NB804_805.out _; exact BK804.out⟩
      have q3_ : Aside0 (Below w.heap.size w (((w12.setCell ⟨gb805, 0, none⟩ (.int .i64 (wrap64 ((wrap64 ((wrap64 ((wrap64 (bt a0 0)) * 256)) + (wrap64 (bt a0 1)))) - 1)))).setCell ⟨gb805, 1, none⟩ (.int .i64 0)).setCell ⟨gb805, 2, none⟩ (.bool false))) := ⟨bZ HB⟩
      generalize (((w12.setCell ⟨gb805, 0, none⟩ (.int .i64 (wrap64 ((wrap64 ((wrap64 ((wrap64 (bt a0 0)) * 256)) + (wrap64 (bt a0 1)))) - 1)))).setCell ⟨gb805, 1, none⟩ (.int .i64 0)).setCell ⟨gb805, 2, none⟩ (.bool false)) = wq_ at q1_ q2_ q3_ ⊢
      clear BK805 BK804 HB
      have BK805 := q1_
      have BK804 := q2_
      have HB := q3_
      clear q1_ q2_ q3_
      have hq805_0 : wq_.cell? ⟨gb805, 0, none⟩ = some (.int .i64 (wrap64 ((wrap64 ((wrap64 ((wrap64 (bt a0 0)) * 256)) + (wrap64 (bt a0 1)))) - 1))) := bc BK805 0
      have hr805_0 := blk_frozen BK805.out 0
      have hq805_1 : wq_.cell? ⟨gb805, 1, none⟩ = some (.int .i64 0) := bc BK805 1
      have hr805_1 := blk_frozen BK805.out 1
      have hq805_2 : wq_.cell? ⟨gb805, 2, none⟩ = some (.bool false) := bc BK805 2
      have hr805_2 := blk_frozen BK805.out 2
      have hq804_0 : wq_.cell? ⟨gb804, 0, none⟩ = some (.int .i64 0) := bc BK804 0
      have hr804_0 := blk_frozen BK804.out 0
      have hq804_1 : wq_.cell? ⟨gb804, 1, none⟩ = some (.int .i64 0) := bc BK804 1
      have hr804_1 := blk_frozen BK804.out 1
      have hq804_2 : wq_.cell? ⟨gb804, 2, none⟩ = some (.bool false) := bc BK804 2
      have hr804_2 := blk_frozen BK804.out 2
      try go_wp2_with (first | ((with_reducible refine gate_callee (f := 73) rfl ?_); refine gL (some 41) Tryd.func73 #[.agg #[.int .i64 0, .int .i64 0, .bool true]] ?_; (with_reducible refine (impl_PointText.calls 0 0 true t806 _ A8.out).mono ?_); rintro e w18 ⟨rfl, hb⟩; refine ⟨_, rfl, ?_⟩; replace BK804 := bB BK804 hb; replace BK805 := bV 23 #[.int .i64 0, .int .i64 0, .bool true] BK805 hb; replace HB := bS HB hb; (try clear hb); obtain ⟨hcz19_0, hcz19_1, hcz19_2, hfz19_0, hfz19_1, hfz19_2⟩ := bK3 (w := w18) BK805; obtain ⟨hcz20_0, hcz20_1, hcz20_2, hfz20_0, hfz20_1, hfz20_2⟩ := bK3 (w := w18) BK804))
      refine bodyPost_ret (results_ct rfl _ _ gb804 23 #[.int .i64 0, .int .i64 0, .bool true] (0, 0) _ rfl (bU BK804) Tryd.underlying23 rfl (by kernel_rfl)) rfl ?_
      exact ⟨rR, bZ HB⟩
     ·rw [if_neg c9] at H
      have c9b0 : (t806.toList == a0.toList) = false := beq_eq_false_iff_ne.mpr c9
      have c9b1 : (t806.toList != a0.toList) = true := bne_iff_ne.mpr c9
      simp only [Option.some.injEq, Prod.mk.injEq] at H
      obtain ⟨rfl, rfl, rfl, rfl⟩ := H
      go_enter Tryd.func75, Tryd.ntmps75
      try go_wp2_with (first | ((with_reducible refine gate_dst (N := 2) rfl ?_); refine bE 2 #[.int .i64 0, .int .i64 0, .bool false] 23 ?_; intro gb804 hg w21 hbox hb; have BK804 := Aside0.mk (hbox); have GW804 := bG HB hg; have GE804 := bG HB hg; replace HB := bS HB hb; clear hb hbox hg))
      replace BK804 := Aside0.mk (blk_drew BK804.out)
      replace HB := Aside0.mk (below_drew1 HB.out)
      have p4 : 0 ≤ (0 : Int) := (by omega)
      have q4 : 0 < a0.size := (by have : (0 : Int) < (a0.size : Int) := of_decide_eq_true (by first | (with_reducible assumption) | assumption); omega)
      have hx4 : ∀ h : 0 < a0.size, ((a0[0]'h).toNat : Int) = bt a0 0 := bt_at a0 0
      clear p4
      have qi4 : (0 < (a0.size : Int)) = True := eq_true (of_decide_eq_true (by first | (with_reducible assumption) | assumption))
      replace q4 := eq_true q4
      have p6 : 0 ≤ (1 : Int) := (by omega)
      have q6 : 1 < a0.size := (by have : (1 : Int) < (a0.size : Int) := of_decide_eq_true (by first | (with_reducible assumption) | assumption); omega)
      have hx6 : ∀ h : 1 < a0.size, ((a0[1]'h).toNat : Int) = bt a0 1 := bt_at a0 1
      clear p6
      have qi6 : (1 < (a0.size : Int)) = True := eq_true (of_decide_eq_true (by first | (with_reducible assumption) | assumption))
      replace q6 := eq_true q6
      refine start_ (n := 12) (S := fun w' => True) (ds := []) #[false, false, false, false, false, false, false, false, false, false, false, false] (by kernel_rfl) rfl rfl trivial (fun hHeld => ?_); refine with_tabW impl_ReadPoint.tab3 impl_ReadPoint.bits3 (fun HT_ HW_ => ?_)
      generalize w21.drew = w22 at BK804 HB hHeld ⊢
      refine pI 0 (some 9) HT_.out ?_
      refine pI 4 (some 13) HT_.out ?_
      refine take_ (i := 1) (N := some 10) (v := ?_) (a' := ?_) #[true, true, false, false, true, false, false, false, false, false, false, false] rfl rfl (take_ofW HT_.out HW_.out (by kernel_rfl)) (fun _ _ _ h => h) (Or.inl ⟨by rfl, ?_⟩) hHeld ?_ ?_
      rotate_left
      ·intro w' _
       go_simp
       with_reducible rfl
      rotate_left
      ·simp only [Act.put, List.setIfInBounds_toArray, List.set_cons_zero, List.set_cons_succ, i64_w, i32_w]
       rfl
      refine pI 2 (some 11) HT_.out ?_
      refine pI 3 (some 12) HT_.out ?_
      refine take_ (i := 5) (N := some 14) (v := ?_) (a' := ?_) #[true, true, true, true, true, true, false, false, false, false, false, false] rfl rfl (take_ofW HT_.out HW_.out (by kernel_rfl)) (fun _ _ _ h => h) (Or.inl ⟨by rfl, ?_⟩) hHeld ?_ ?_
      rotate_left
      ·intro w' _
       go_simp
       with_reducible rfl
      rotate_left
      ·simp only [Act.put, List.setIfInBounds_toArray, List.set_cons_zero, List.set_cons_succ, i64_w, i32_w]
       rfl
      refine pI 6 (some 15) HT_.out ?_
      refine pI 7 (some 16) HT_.out ?_
      refine pI 8 (some 17) HT_.out ?_
      refine pI 9 (some 18) HT_.out ?_
      refine oI 10 (some 4) HT_.out (fun K hK => ?_)
      refine box_step ?hg (N := 4) ?hd (cs := #[.int .i64 0, .int .i64 0, .bool false]) (t := 23) ?hr ?_; (case hd => rfl); (case hg => rfl); (case hr => first | (go_simp; done) | (go_simp; rfl))
      intro gb805 hg w23 hbox hb
      have BK805 := Aside0.mk (hbox)
      have GW805 := bG HB hg
      have GE805 := bG HB hg
      replace HB := bS HB hb
      have NB804_805 := bL BK804 hg
      have NB805_804 := bR BK804 hg
      replace BK804 := bB BK804 hb
      clear hb hbox hg
      refine hK.out _ _ trivial (fun hHeld => ?_)
      clear hK K
      refine nO (some 4) ?_
      refine oI 11 (none) HT_.out (fun K hK => ?_)
      have hs24 : w23.cell? ⟨gb805, 0, none⟩ = some (.int .i64 0) := bc BK805 0
      have hfs24 := blk_frozen BK805.out 0
      have hns24_0 := NB804_805.out
      have hms24_0 := NB805_804.out
      have hs25 : w23.cell? ⟨gb805, 1, none⟩ = some (.int .i64 0) := bc BK805 1
      have hfs25 := blk_frozen BK805.out 1
      have hns25_0 := NB804_805.out
      have hms25_0 := NB805_804.out
      have hs26 : w23.cell? ⟨gb805, 2, none⟩ = some (.bool false) := bc BK805 2
      have hfs26 := blk_frozen BK805.out 2
      have hns26_0 := NB804_805.out
      have hms26_0 := NB805_804.out
      refine skip_ (w1 := ?_) (by rfl) rfl ?_ ?_
      rotate_left
      ·go_simp
       rfl
      refine hK.out _ _ trivial (fun hHeld => ?_)
      clear hK K
      refine done_ (done_of HT_.out (by kernel_rfl)) ?_
      have hnb27 := NB805_804.out
      have hnc27 := NB804_805.out
      obtain ⟨hcz28_0, hcz28_1, hcz28_2, hfz28_0, hfz28_1, hfz28_2⟩ := bK3 (w := w23) BK805
      have q1_ : Aside0 ((((w23.setCell ⟨gb805, 0, none⟩ (.int .i64 (wrap64 ((wrap64 ((wrap64 ((wrap64 (bt a0 0)) * 256)) + (wrap64 (bt a0 1)))) - 1)))).setCell ⟨gb805, 1, none⟩ (.int .i64 0)).setCell ⟨gb805, 2, none⟩ (.bool false)).heap[gb805]? = some (.cells #[.int .i64 (wrap64 ((wrap64 ((wrap64 ((wrap64 (bt a0 0)) * 256)) + (wrap64 (bt a0 1)))) - 1)), .int .i64 0, .bool false] 23 (0, 0))) := ⟨by refine blk_put (cs := #[.int .i64 (wrap64 ((wrap64 ((wrap64 ((wrap64 (bt a0 0)) * 256)) + (wrap64 (bt a0 1)))) - 1)), .int .i64 0, .bool false]) ?_ 2 _ rfl; refine blk_put (cs := #[.int .i64 (wrap64 ((wrap64 ((wrap64 ((wrap64 (bt a0 0)) * 256)) + (wrap64 (bt a0 1)))) - 1)), .int .i64 0, .bool false]) ?_ 1 _ rfl; refine blk_put (cs := #[.int .i64 0, .int .i64 0, .bool false]) ?_ 0 _ rfl; exact BK805.out⟩
      have q2_ : Aside0 ((((w23.setCell ⟨gb805, 0, none⟩ (.int .i64 (wrap64 ((wrap64 ((wrap64 ((wrap64 (bt a0 0)) * 256)) + (wrap64 (bt a0 1)))) - 1)))).setCell ⟨gb805, 1, none⟩ (.int .i64 0)).setCell ⟨gb805, 2, none⟩ (.bool false)).heap[gb804]? = some (.cells #[.int .i64 0, .int .i64 0, .bool false] 23 (0, 0))) := ⟨by refine blk_far ?_ NB804_805.out _; refine blk_far ?_ NB804_805.out _; refine blk_far ?_ NB804_805.out _; exact BK804.out⟩
      have q3_ : Aside0 (Below w.heap.size w (((w23.setCell ⟨gb805, 0, none⟩ (.int .i64 (wrap64 ((wrap64 ((wrap64 ((wrap64 (bt a0 0)) * 256)) + (wrap64 (bt a0 1)))) - 1)))).setCell ⟨gb805, 1, none⟩ (.int .i64 0)).setCell ⟨gb805, 2, none⟩ (.bool false))) := ⟨bZ HB⟩
      generalize (((w23.setCell ⟨gb805, 0, none⟩ (.int .i64 (wrap64 ((wrap64 ((wrap64 ((wrap64 (bt a0 0)) * 256)) + (wrap64 (bt a0 1)))) - 1)))).setCell ⟨gb805, 1, none⟩ (.int .i64 0)).setCell ⟨gb805, 2, none⟩ (.bool false)) = wq_ at q1_ q2_ q3_ ⊢
      clear BK805 BK804 HB
      have BK805 := q1_
      have BK804 := q2_
      have HB := q3_
      clear q1_ q2_ q3_
      have hq805_0 : wq_.cell? ⟨gb805, 0, none⟩ = some (.int .i64 (wrap64 ((wrap64 ((wrap64 ((wrap64 (bt a0 0)) * 256)) + (wrap64 (bt a0 1)))) - 1))) := bc BK805 0
      have hr805_0 := blk_frozen BK805.out 0
      have hq805_1 : wq_.cell? ⟨gb805, 1, none⟩ = some (.int .i64 0) := bc BK805 1
      have hr805_1 := blk_frozen BK805.out 1
      have hq805_2 : wq_.cell? ⟨gb805, 2, none⟩ = some (.bool false) := bc BK805 2
      have hr805_2 := blk_frozen BK805.out 2
      have hq804_0 : wq_.cell? ⟨gb804, 0, none⟩ = some (.int .i64 0) := bc BK804 0
      have hr804_0 := blk_frozen BK804.out 0
      have hq804_1 : wq_.cell? ⟨gb804, 1, none⟩ = some (.int .i64 0) := bc BK804 1
      have hr804_1 := blk_frozen BK804.out 1
      have hq804_2 : wq_.cell? ⟨gb804, 2, none⟩ = some (.bool false) := bc BK804 2
      have hr804_2 := blk_frozen BK804.out 2
      try go_wp2_with (first | ((with_reducible refine gate_callee (f := 73) rfl ?_); refine gL (some 41) Tryd.func73 #[.agg #[.int .i64 0, .int .i64 0, .bool true]] ?_; (with_reducible refine (impl_PointText.calls 0 0 true t806 _ A8.out).mono ?_); rintro e w29 ⟨rfl, hb⟩; refine ⟨_, rfl, ?_⟩; replace BK804 := bB BK804 hb; replace BK805 := bV 23 #[.int .i64 0, .int .i64 0, .bool true] BK805 hb; replace HB := bS HB hb; (try clear hb); obtain ⟨hcz30_0, hcz30_1, hcz30_2, hfz30_0, hfz30_1, hfz30_2⟩ := bK3 (w := w29) BK804))
      refine bodyPost_ret (results_ct rfl _ _ gb804 23 #[.int .i64 0, .int .i64 0, .bool false] (0, 0) _ rfl (bU BK804) Tryd.underlying23 rfl (by kernel_rfl)) rfl ?_
      exact ⟨rR, bZ HB⟩
    ·rw [if_neg c7] at H
     have c7b0 : decide ((wrap64 ((wrap64 ((wrap64 ((wrap64 (bt a0 0)) * 256)) + (wrap64 (bt a0 1)))) - 1)) < 0) = false := decide_eq_false c7
     clear c7
     replace H := Option.bind_eq_some_iff.mp H
     obtain ⟨t807, A310, H⟩ := H
     have A31 := Aside0.mk A310
     clear A310
     replace H := Option.bind_eq_some_iff.mp H
     obtain ⟨⟨t808, t809⟩, A320, H⟩ := H
     have A32 := Aside0.mk A320
     clear A320
     by_cases c33 : 2 < (a0.size : Int)
     ·rw [if_pos c33] at H
      have c33b0 : decide (2 < (a0.size : Int)) = true := decide_eq_true c33
      have c33b1 : decide (2 < a0.size) = true := decide_eq_true (by omega)
      clear c33
      by_cases c35 : (Int.tmod t808 2) = (wrap64 (bt a0 2))
      ·rw [if_pos c35] at H
       have c35b0 : ((Int.tmod t808 2) == (wrap64 (bt a0 2))) = true := beq_iff_eq.mpr c35
       have c35b1 : ((Int.tmod t808 2) != (wrap64 (bt a0 2))) = false := bne_eq_false_iff_eq.mpr c35
       clear c35
       replace H := Option.bind_eq_some_iff.mp H
       obtain ⟨t810, A360, H⟩ := H
       have A36 := Aside0.mk A360
       clear A360
       by_cases c37 : t810.toList = a0.toList
       ·rw [if_pos c37] at H
        have c37b0 : (t810.toList == a0.toList) = true := beq_iff_eq.mpr c37
        have c37b1 : (t810.toList != a0.toList) = false := bne_eq_false_iff_eq.mpr c37
        clear c37
        simp only [Option.some.injEq, Prod.mk.injEq] at H
        obtain ⟨rfl, rfl, rfl, rfl⟩ := H
        go_enter Tryd.func75, Tryd.ntmps75
        try go_wp2_with (first | ((with_reducible refine gate_dst (N := 2) rfl ?_); refine bE 2 #[.int .i64 0, .int .i64 0, .bool false] 23 ?_; intro gb804 hg w38 hbox hb; have BK804 := Aside0.mk (hbox); have GW804 := bG HB hg; have GE804 := bG HB hg; replace HB := bS HB hb; clear hb hbox hg))
        replace BK804 := Aside0.mk (blk_drew BK804.out)
        replace HB := Aside0.mk (below_drew1 HB.out)
        have p4 : 0 ≤ (0 : Int) := (by omega)
        have q4 : 0 < a0.size := (by have : (0 : Int) < (a0.size : Int) := of_decide_eq_true (by first | (with_reducible assumption) | assumption); omega)
        have hx4 : ∀ h : 0 < a0.size, ((a0[0]'h).toNat : Int) = bt a0 0 := bt_at a0 0
        clear p4
        have qi4 : (0 < (a0.size : Int)) = True := eq_true (of_decide_eq_true (by first | (with_reducible assumption) | assumption))
        replace q4 := eq_true q4
        have p6 : 0 ≤ (1 : Int) := (by omega)
        have q6 : 1 < a0.size := (by have : (1 : Int) < (a0.size : Int) := of_decide_eq_true (by first | (with_reducible assumption) | assumption); omega)
        have hx6 : ∀ h : 1 < a0.size, ((a0[1]'h).toNat : Int) = bt a0 1 := bt_at a0 1
        clear p6
        have qi6 : (1 < (a0.size : Int)) = True := eq_true (of_decide_eq_true (by first | (with_reducible assumption) | assumption))
        replace q6 := eq_true q6
        refine start_ (n := 12) (S := fun w' => True) (ds := []) #[false, false, false, false, false, false, false, false, false, false, false, false] (by kernel_rfl) rfl rfl trivial (fun hHeld => ?_); refine with_tabW impl_ReadPoint.tab3 impl_ReadPoint.bits3 (fun HT_ HW_ => ?_)
        generalize w38.drew = w39 at BK804 HB hHeld ⊢
        refine pI 0 (some 9) HT_.out ?_
        refine pI 4 (some 13) HT_.out ?_
        refine take_ (i := 1) (N := some 10) (v := ?_) (a' := ?_) #[true, true, false, false, true, false, false, false, false, false, false, false] rfl rfl (take_ofW HT_.out HW_.out (by kernel_rfl)) (fun _ _ _ h => h) (Or.inl ⟨by rfl, ?_⟩) hHeld ?_ ?_
        rotate_left
        ·intro w' _
         go_simp
         with_reducible rfl
        rotate_left
        ·simp only [Act.put, List.setIfInBounds_toArray, List.set_cons_zero, List.set_cons_succ, i64_w, i32_w]
         rfl
        refine pI 2 (some 11) HT_.out ?_
        refine pI 3 (some 12) HT_.out ?_
        refine take_ (i := 5) (N := some 14) (v := ?_) (a' := ?_) #[true, true, true, true, true, true, false, false, false, false, false, false] rfl rfl (take_ofW HT_.out HW_.out (by kernel_rfl)) (fun _ _ _ h => h) (Or.inl ⟨by rfl, ?_⟩) hHeld ?_ ?_
        rotate_left
        ·intro w' _
         go_simp
         with_reducible rfl
        rotate_left
        ·simp only [Act.put, List.setIfInBounds_toArray, List.set_cons_zero, List.set_cons_succ, i64_w, i32_w]
         rfl
        refine pI 6 (some 15) HT_.out ?_
        refine pI 7 (some 16) HT_.out ?_
        refine pI 8 (some 17) HT_.out ?_
        refine pI 9 (some 18) HT_.out ?_
        refine oI 10 (some 4) HT_.out (fun K hK => ?_)
        refine box_step ?hg (N := 4) ?hd (cs := #[.int .i64 0, .int .i64 0, .bool false]) (t := 23) ?hr ?_; (case hd => rfl); (case hg => rfl); (case hr => first | (go_simp; done) | (go_simp; rfl))
        intro gb805 hg w40 hbox hb
        have BK805 := Aside0.mk (hbox)
        have GW805 := bG HB hg
        have GE805 := bG HB hg
        replace HB := bS HB hb
        have NB804_805 := bL BK804 hg
        have NB805_804 := bR BK804 hg
        replace BK804 := bB BK804 hb
        clear hb hbox hg
        refine hK.out _ _ trivial (fun hHeld => ?_)
        clear hK K
        refine nO (some 4) ?_
        refine oI 11 (none) HT_.out (fun K hK => ?_)
        have hs41 : w40.cell? ⟨gb805, 0, none⟩ = some (.int .i64 0) := bc BK805 0
        have hfs41 := blk_frozen BK805.out 0
        have hns41_0 := NB804_805.out
        have hms41_0 := NB805_804.out
        have hs42 : w40.cell? ⟨gb805, 1, none⟩ = some (.int .i64 0) := bc BK805 1
        have hfs42 := blk_frozen BK805.out 1
        have hns42_0 := NB804_805.out
        have hms42_0 := NB805_804.out
        have hs43 : w40.cell? ⟨gb805, 2, none⟩ = some (.bool false) := bc BK805 2
        have hfs43 := blk_frozen BK805.out 2
        have hns43_0 := NB804_805.out
        have hms43_0 := NB805_804.out
        refine skip_ (w1 := ?_) (by rfl) rfl ?_ ?_
        rotate_left
        ·go_simp
         rfl
        refine hK.out _ _ trivial (fun hHeld => ?_)
        clear hK K
        refine done_ (done_of HT_.out (by kernel_rfl)) ?_
        have hnb44 := NB805_804.out
        have hnc44 := NB804_805.out
        obtain ⟨hcz45_0, hcz45_1, hcz45_2, hfz45_0, hfz45_1, hfz45_2⟩ := bK3 (w := w40) BK805
        have q1_ : Aside0 ((((w40.setCell ⟨gb805, 0, none⟩ (.int .i64 (wrap64 ((wrap64 ((wrap64 ((wrap64 (bt a0 0)) * 256)) + (wrap64 (bt a0 1)))) - 1)))).setCell ⟨gb805, 1, none⟩ (.int .i64 0)).setCell ⟨gb805, 2, none⟩ (.bool false)).heap[gb805]? = some (.cells #[.int .i64 (wrap64 ((wrap64 ((wrap64 ((wrap64 (bt a0 0)) * 256)) + (wrap64 (bt a0 1)))) - 1)), .int .i64 0, .bool false] 23 (0, 0))) := ⟨by refine blk_put (cs := #[.int .i64 (wrap64 ((wrap64 ((wrap64 ((wrap64 (bt a0 0)) * 256)) + (wrap64 (bt a0 1)))) - 1)), .int .i64 0, .bool false]) ?_ 2 _ rfl; refine blk_put (cs := #[.int .i64 (wrap64 ((wrap64 ((wrap64 ((wrap64 (bt a0 0)) * 256)) + (wrap64 (bt a0 1)))) - 1)), .int .i64 0, .bool false]) ?_ 1 _ rfl; refine blk_put (cs := #[.int .i64 0, .int .i64 0, .bool false]) ?_ 0 _ rfl; exact BK805.out⟩
        have q2_ : Aside0 ((((w40.setCell ⟨gb805, 0, none⟩ (.int .i64 (wrap64 ((wrap64 ((wrap64 ((wrap64 (bt a0 0)) * 256)) + (wrap64 (bt a0 1)))) - 1)))).setCell ⟨gb805, 1, none⟩ (.int .i64 0)).setCell ⟨gb805, 2, none⟩ (.bool false)).heap[gb804]? = some (.cells #[.int .i64 0, .int .i64 0, .bool false] 23 (0, 0))) := ⟨by refine blk_far ?_ NB804_805.out _; refine blk_far ?_ NB804_805.out _; refine blk_far ?_ NB804_805.out _; exact BK804.out⟩
        have q3_ : Aside0 (Below w.heap.size w (((w40.setCell ⟨gb805, 0, none⟩ (.int .i64 (wrap64 ((wrap64 ((wrap64 ((wrap64 (bt a0 0)) * 256)) + (wrap64 (bt a0 1)))) - 1)))).setCell ⟨gb805, 1, none⟩ (.int .i64 0)).setCell ⟨gb805, 2, none⟩ (.bool false))) := ⟨bZ HB⟩
        generalize (((w40.setCell ⟨gb805, 0, none⟩ (.int .i64 (wrap64 ((wrap64 ((wrap64 ((wrap64 (bt a0 0)) * 256)) + (wrap64 (bt a0 1)))) - 1)))).setCell ⟨gb805, 1, none⟩ (.int .i64 0)).setCell ⟨gb805, 2, none⟩ (.bool false)) = wq_ at q1_ q2_ q3_ ⊢
        clear BK805 BK804 HB
        have BK805 := q1_
        have BK804 := q2_
        have HB := q3_
        clear q1_ q2_ q3_
        have hq805_0 : wq_.cell? ⟨gb805, 0, none⟩ = some (.int .i64 (wrap64 ((wrap64 ((wrap64 ((wrap64 (bt a0 0)) * 256)) + (wrap64 (bt a0 1)))) - 1))) := bc BK805 0
        have hr805_0 := blk_frozen BK805.out 0
        have hq805_1 : wq_.cell? ⟨gb805, 1, none⟩ = some (.int .i64 0) := bc BK805 1
        have hr805_1 := blk_frozen BK805.out 1
        have hq805_2 : wq_.cell? ⟨gb805, 2, none⟩ = some (.bool false) := bc BK805 2
        have hr805_2 := blk_frozen BK805.out 2
        have hq804_0 : wq_.cell? ⟨gb804, 0, none⟩ = some (.int .i64 0) := bc BK804 0
        have hr804_0 := blk_frozen BK804.out 0
        have hq804_1 : wq_.cell? ⟨gb804, 1, none⟩ = some (.int .i64 0) := bc BK804 1
        have hr804_1 := blk_frozen BK804.out 1
        have hq804_2 : wq_.cell? ⟨gb804, 2, none⟩ = some (.bool false) := bc BK804 2
        have hr804_2 := blk_frozen BK804.out 2
        try go_wp2_with (first | ((with_reducible refine gate_callee (f := 50) rfl ?_); refine gL (some 26) Tryd.func50 #[.int .i64 (wrap64 ((wrap64 ((wrap64 ((wrap64 (bt a0 0)) * 256)) + (wrap64 (bt a0 1)))) - 1))] ?_; (with_reducible refine (impl_curveAt.calls (wrap64 ((wrap64 ((wrap64 ((wrap64 (bt a0 0)) * 256)) + (wrap64 (bt a0 1)))) - 1)) t807 _ A31.out).mono ?_); rintro e w' ⟨rfl, ⟨nd, rfl⟩⟩; refine ⟨_, rfl, ?_⟩) | ((with_reducible refine gate_callee (f := 49) rfl ?_); refine gL (some 27) Tryd.func49 #[.int .i64 t807] ?_; (with_reducible refine (impl_FpRoot.calls k t807 t808 t809 _ A32.out).mono ?_); rintro e w46 ⟨rfl, hb⟩; refine ⟨_, rfl, ?_⟩; replace BK804 := bB BK804 hb; replace BK805 := bB BK805 hb; replace HB := bS HB hb; (try clear hb); obtain ⟨hcz47_0, hcz47_1, hcz47_2, hfz47_0, hfz47_1, hfz47_2⟩ := bK3 (w := w46) BK805))
        have n0_ : Aside0 ((w46.setCell ⟨gb805, 1, none⟩ (.int .i64 t808)).heap[gb804]? = some (.cells #[.int .i64 0, .int .i64 0, .bool false] 23 (0, 0))) := ⟨bP BK804⟩
        have n1_ : Aside0 ((w46.setCell ⟨gb805, 1, none⟩ (.int .i64 t808)).heap[gb805]? = some (.cells #[.int .i64 (wrap64 ((wrap64 ((wrap64 ((wrap64 (bt a0 0)) * 256)) + (wrap64 (bt a0 1)))) - 1)), .int .i64 t808, .bool false] 23 (0, 0))) := ⟨bU BK805⟩
        have n2_ : Aside0 (Below w.heap.size w (w46.setCell ⟨gb805, 1, none⟩ (.int .i64 t808))) := ⟨bZ HB⟩
        (try clear BK804)
        (try clear BK805)
        (try clear HB)
        generalize (w46.setCell ⟨gb805, 1, none⟩ (.int .i64 t808)) = w48 at n0_ n1_ n2_ ⊢
        have BK804 := n0_
        have BK805 := n1_
        have HB := n2_
        clear n0_ n1_ n2_
        replace BK804 := Aside0.mk (blk_drew BK804.out)
        replace BK805 := Aside0.mk (blk_drew BK805.out)
        replace HB := Aside0.mk (below_drew1 HB.out)
        have p34 : 0 ≤ (2 : Int) := (by omega)
        have q34 : 2 < a0.size := (by have : (2 : Int) < (a0.size : Int) := of_decide_eq_true (by first | (with_reducible assumption) | assumption); omega)
        have hx34 : ∀ h : 2 < a0.size, ((a0[2]'h).toNat : Int) = bt a0 2 := bt_at a0 2
        clear p34
        have qi34 : (2 < (a0.size : Int)) = True := eq_true (of_decide_eq_true (by first | (with_reducible assumption) | assumption))
        replace q34 := eq_true q34
        refine start_ (n := 7) (S := fun w' => w'.cell? ⟨gb805, 0, none⟩ = some (.int .i64 (wrap64 ((wrap64 ((wrap64 ((wrap64 (bt a0 0)) * 256)) + (wrap64 (bt a0 1)))) - 1))) ∧ w'.cell? ⟨gb805, 1, none⟩ = some (.int .i64 t808) ∧ w'.cell? ⟨gb805, 2, none⟩ = some (.bool false)) (ds := []) #[false, false, false, false, false, false, false] (by kernel_rfl) rfl rfl ⟨bc BK805 0, bc BK805 1, bc BK805 2⟩ (fun hHeld => ?_)
        generalize w48.drew = w49 at BK804 BK805 HB hHeld ⊢
        refine pure_ (i := 0) (N := some 31) (v := ?_) (a' := ?_) #[true, false, false, false, false, false, false] rfl rfl (by kernel_rfl) (fun _ _ _ h => h) (Or.inl ⟨by rfl, ?_⟩) ?_ ?_
        rotate_left
        ·intro w'
         go_simp
         with_reducible rfl
        rotate_left
        ·simp only [Act.put, List.setIfInBounds_toArray, List.set_cons_zero, List.set_cons_succ, i64_w, i32_w]
         rfl
        refine pure_ (i := 3) (N := some 34) (v := ?_) (a' := ?_) #[true, false, false, true, false, false, false] rfl rfl (by kernel_rfl) (fun _ _ _ h => h) (Or.inl ⟨by rfl, ?_⟩) ?_ ?_
        rotate_left
        ·intro w'
         go_simp
         with_reducible rfl
        rotate_left
        ·simp only [Act.put, List.setIfInBounds_toArray, List.set_cons_zero, List.set_cons_succ, i64_w, i32_w]
         rfl
        refine take_ (i := 1) (N := some 32) (v := ?_) (a' := ?_) #[true, true, false, true, false, false, false] rfl rfl (by kernel_rfl) (fun _ _ _ h => h) (Or.inl ⟨by rfl, ?_⟩) hHeld ?_ ?_
        rotate_left
        ·rintro w' ⟨s0, s1, s2⟩
         go_simp
         with_reducible rfl
        rotate_left
        ·simp only [Act.put, List.setIfInBounds_toArray, List.set_cons_zero, List.set_cons_succ, i64_w, i32_w]
         rfl
        refine pure_ (i := 2) (N := some 33) (v := ?_) (a' := ?_) #[true, true, true, true, false, false, false] rfl rfl (by kernel_rfl) (fun _ _ _ h => h) (Or.inl ⟨by rfl, ?_⟩) ?_ ?_
        rotate_left
        ·intro w'
         go_simp
         with_reducible rfl
        rotate_left
        ·simp only [Act.put, List.setIfInBounds_toArray, List.set_cons_zero, List.set_cons_succ, i64_w, i32_w]
         rfl
        refine take_ (i := 4) (N := some 35) (v := ?_) (a' := ?_) #[true, true, true, true, true, false, false] rfl rfl (by kernel_rfl) (fun _ _ _ h => h) (Or.inl ⟨by rfl, ?_⟩) hHeld ?_ ?_
        rotate_left
        ·rintro w' ⟨s0, s1, s2⟩
         go_simp
         with_reducible rfl
        rotate_left
        ·simp only [Act.put, List.setIfInBounds_toArray, List.set_cons_zero, List.set_cons_succ, i64_w, i32_w]
         rfl
        refine pure_ (i := 5) (N := some 36) (v := ?_) (a' := ?_) #[true, true, true, true, true, true, false] rfl rfl (by kernel_rfl) (fun _ _ _ h => h) (Or.inl ⟨by rfl, ?_⟩) ?_ ?_
        rotate_left
        ·intro w'
         go_simp
         with_reducible rfl
        rotate_left
        ·simp only [Act.put, List.setIfInBounds_toArray, List.set_cons_zero, List.set_cons_succ, i64_w, i32_w]
         rfl
        refine pure_ (i := 6) (N := some 37) (v := ?_) (a' := ?_) #[true, true, true, true, true, true, true] rfl rfl (by kernel_rfl) (fun _ _ _ h => h) (Or.inl ⟨by rfl, ?_⟩) ?_ ?_
        rotate_left
        ·intro w'
         go_simp
         with_reducible rfl
        rotate_left
        ·simp only [Act.put, List.setIfInBounds_toArray, List.set_cons_zero, List.set_cons_succ, i64_w, i32_w]
         rfl
        refine done_ (by kernel_rfl) ?_
        obtain ⟨hcz50_0, hcz50_1, hcz50_2, hfz50_0, hfz50_1, hfz50_2⟩ := bK3 (w := w49) BK805
        try go_wp2_with (first | ((with_reducible refine gate_callee (f := 73) rfl ?_); refine gL (some 41) Tryd.func73 #[.agg #[.int .i64 (wrap64 ((wrap64 ((wrap64 ((wrap64 (bt a0 0)) * 256)) + (wrap64 (bt a0 1)))) - 1)), .int .i64 t808, .bool false]] ?_; (with_reducible refine (impl_PointText.calls (wrap64 ((wrap64 ((wrap64 ((wrap64 (bt a0 0)) * 256)) + (wrap64 (bt a0 1)))) - 1)) t808 false t810 _ A36.out).mono ?_); rintro e w51 ⟨rfl, hb⟩; refine ⟨_, rfl, ?_⟩; replace BK804 := bB BK804 hb; replace BK805 := bB BK805 hb; replace HB := bS HB hb; (try clear hb); obtain ⟨hcz52_0, hcz52_1, hcz52_2, hfz52_0, hfz52_1, hfz52_2⟩ := bK3 (w := w51) BK805; obtain ⟨hcz53_0, hcz53_1, hcz53_2, hfz53_0, hfz53_1, hfz53_2⟩ := bK3 (w := w51) BK804))
        refine bodyPost_ret (results_ct rfl _ _ gb804 23 #[.int .i64 (wrap64 ((wrap64 ((wrap64 ((wrap64 (bt a0 0)) * 256)) + (wrap64 (bt a0 1)))) - 1)), .int .i64 t808, .bool false] (0, 0) _ rfl (bU BK804) Tryd.underlying23 rfl (by kernel_rfl)) rfl ?_
        exact ⟨rR, bZ HB⟩
       ·rw [if_neg c37] at H
        have c37b0 : (t810.toList == a0.toList) = false := beq_eq_false_iff_ne.mpr c37
        have c37b1 : (t810.toList != a0.toList) = true := bne_iff_ne.mpr c37
        simp only [Option.some.injEq, Prod.mk.injEq] at H
        obtain ⟨rfl, rfl, rfl, rfl⟩ := H
        go_enter Tryd.func75, Tryd.ntmps75
        try go_wp2_with (first | ((with_reducible refine gate_dst (N := 2) rfl ?_); refine bE 2 #[.int .i64 0, .int .i64 0, .bool false] 23 ?_; intro gb804 hg w54 hbox hb; have BK804 := Aside0.mk (hbox); have GW804 := bG HB hg; have GE804 := bG HB hg; replace HB := bS HB hb; clear hb hbox hg))
        replace BK804 := Aside0.mk (blk_drew BK804.out)
        replace HB := Aside0.mk (below_drew1 HB.out)
        have p4 : 0 ≤ (0 : Int) := (by omega)
        have q4 : 0 < a0.size := (by have : (0 : Int) < (a0.size : Int) := of_decide_eq_true (by first | (with_reducible assumption) | assumption); omega)
        have hx4 : ∀ h : 0 < a0.size, ((a0[0]'h).toNat : Int) = bt a0 0 := bt_at a0 0
        clear p4
        have qi4 : (0 < (a0.size : Int)) = True := eq_true (of_decide_eq_true (by first | (with_reducible assumption) | assumption))
        replace q4 := eq_true q4
        have p6 : 0 ≤ (1 : Int) := (by omega)
        have q6 : 1 < a0.size := (by have : (1 : Int) < (a0.size : Int) := of_decide_eq_true (by first | (with_reducible assumption) | assumption); omega)
        have hx6 : ∀ h : 1 < a0.size, ((a0[1]'h).toNat : Int) = bt a0 1 := bt_at a0 1
        clear p6
        have qi6 : (1 < (a0.size : Int)) = True := eq_true (of_decide_eq_true (by first | (with_reducible assumption) | assumption))
        replace q6 := eq_true q6
        refine start_ (n := 12) (S := fun w' => True) (ds := []) #[false, false, false, false, false, false, false, false, false, false, false, false] (by kernel_rfl) rfl rfl trivial (fun hHeld => ?_); refine with_tabW impl_ReadPoint.tab3 impl_ReadPoint.bits3 (fun HT_ HW_ => ?_)
        generalize w54.drew = w55 at BK804 HB hHeld ⊢
        refine pI 0 (some 9) HT_.out ?_
        refine pI 4 (some 13) HT_.out ?_
        refine take_ (i := 1) (N := some 10) (v := ?_) (a' := ?_) #[true, true, false, false, true, false, false, false, false, false, false, false] rfl rfl (take_ofW HT_.out HW_.out (by kernel_rfl)) (fun _ _ _ h => h) (Or.inl ⟨by rfl, ?_⟩) hHeld ?_ ?_
        rotate_left
        ·intro w' _
         go_simp
         with_reducible rfl
        rotate_left
        ·simp only [Act.put, List.setIfInBounds_toArray, List.set_cons_zero, List.set_cons_succ, i64_w, i32_w]
         rfl
        refine pI 2 (some 11) HT_.out ?_
        refine pI 3 (some 12) HT_.out ?_
        refine take_ (i := 5) (N := some 14) (v := ?_) (a' := ?_) #[true, true, true, true, true, true, false, false, false, false, false, false] rfl rfl (take_ofW HT_.out HW_.out (by kernel_rfl)) (fun _ _ _ h => h) (Or.inl ⟨by rfl, ?_⟩) hHeld ?_ ?_
        rotate_left
        ·intro w' _
         go_simp
         with_reducible rfl
        rotate_left
        ·simp only [Act.put, List.setIfInBounds_toArray, List.set_cons_zero, List.set_cons_succ, i64_w, i32_w]
         rfl
        refine pI 6 (some 15) HT_.out ?_
        refine pI 7 (some 16) HT_.out ?_
        refine pI 8 (some 17) HT_.out ?_
        refine pI 9 (some 18) HT_.out ?_
        refine oI 10 (some 4) HT_.out (fun K hK => ?_)
        refine box_step ?hg (N := 4) ?hd (cs := #[.int .i64 0, .int .i64 0, .bool false]) (t := 23) ?hr ?_; (case hd => rfl); (case hg => rfl); (case hr => first | (go_simp; done) | (go_simp; rfl))
        intro gb805 hg w56 hbox hb
        have BK805 := Aside0.mk (hbox)
        have GW805 := bG HB hg
        have GE805 := bG HB hg
        replace HB := bS HB hb
        have NB804_805 := bL BK804 hg
        have NB805_804 := bR BK804 hg
        replace BK804 := bB BK804 hb
        clear hb hbox hg
        refine hK.out _ _ trivial (fun hHeld => ?_)
        clear hK K
        refine nO (some 4) ?_
        refine oI 11 (none) HT_.out (fun K hK => ?_)
        have hs57 : w56.cell? ⟨gb805, 0, none⟩ = some (.int .i64 0) := bc BK805 0
        have hfs57 := blk_frozen BK805.out 0
        have hns57_0 := NB804_805.out
        have hms57_0 := NB805_804.out
        have hs58 : w56.cell? ⟨gb805, 1, none⟩ = some (.int .i64 0) := bc BK805 1
        have hfs58 := blk_frozen BK805.out 1
        have hns58_0 := NB804_805.out
        have hms58_0 := NB805_804.out
        have hs59 : w56.cell? ⟨gb805, 2, none⟩ = some (.bool false) := bc BK805 2
        have hfs59 := blk_frozen BK805.out 2
        have hns59_0 := NB804_805.out
        have hms59_0 := NB805_804.out
        refine skip_ (w1 := ?_) (by rfl) rfl ?_ ?_
        rotate_left
        ·go_simp
         rfl
        refine hK.out _ _ trivial (fun hHeld => ?_)
        clear hK K
        refine done_ (done_of HT_.out (by kernel_rfl)) ?_
        have hnb60 := NB805_804.out
        have hnc60 := NB804_805.out
        obtain ⟨hcz61_0, hcz61_1, hcz61_2, hfz61_0, hfz61_1, hfz61_2⟩ := bK3 (w := w56) BK805
        have q1_ : Aside0 ((((w56.setCell ⟨gb805, 0, none⟩ (.int .i64 (wrap64 ((wrap64 ((wrap64 ((wrap64 (bt a0 0)) * 256)) + (wrap64 (bt a0 1)))) - 1)))).setCell ⟨gb805, 1, none⟩ (.int .i64 0)).setCell ⟨gb805, 2, none⟩ (.bool false)).heap[gb805]? = some (.cells #[.int .i64 (wrap64 ((wrap64 ((wrap64 ((wrap64 (bt a0 0)) * 256)) + (wrap64 (bt a0 1)))) - 1)), .int .i64 0, .bool false] 23 (0, 0))) := ⟨by refine blk_put (cs := #[.int .i64 (wrap64 ((wrap64 ((wrap64 ((wrap64 (bt a0 0)) * 256)) + (wrap64 (bt a0 1)))) - 1)), .int .i64 0, .bool false]) ?_ 2 _ rfl; refine blk_put (cs := #[.int .i64 (wrap64 ((wrap64 ((wrap64 ((wrap64 (bt a0 0)) * 256)) + (wrap64 (bt a0 1)))) - 1)), .int .i64 0, .bool false]) ?_ 1 _ rfl; refine blk_put (cs := #[.int .i64 0, .int .i64 0, .bool false]) ?_ 0 _ rfl; exact BK805.out⟩
        have q2_ : Aside0 ((((w56.setCell ⟨gb805, 0, none⟩ (.int .i64 (wrap64 ((wrap64 ((wrap64 ((wrap64 (bt a0 0)) * 256)) + (wrap64 (bt a0 1)))) - 1)))).setCell ⟨gb805, 1, none⟩ (.int .i64 0)).setCell ⟨gb805, 2, none⟩ (.bool false)).heap[gb804]? = some (.cells #[.int .i64 0, .int .i64 0, .bool false] 23 (0, 0))) := ⟨by refine blk_far ?_ NB804_805.out _; refine blk_far ?_ NB804_805.out _; refine blk_far ?_ NB804_805.out _; exact BK804.out⟩
        have q3_ : Aside0 (Below w.heap.size w (((w56.setCell ⟨gb805, 0, none⟩ (.int .i64 (wrap64 ((wrap64 ((wrap64 ((wrap64 (bt a0 0)) * 256)) + (wrap64 (bt a0 1)))) - 1)))).setCell ⟨gb805, 1, none⟩ (.int .i64 0)).setCell ⟨gb805, 2, none⟩ (.bool false))) := ⟨bZ HB⟩
        generalize (((w56.setCell ⟨gb805, 0, none⟩ (.int .i64 (wrap64 ((wrap64 ((wrap64 ((wrap64 (bt a0 0)) * 256)) + (wrap64 (bt a0 1)))) - 1)))).setCell ⟨gb805, 1, none⟩ (.int .i64 0)).setCell ⟨gb805, 2, none⟩ (.bool false)) = wq_ at q1_ q2_ q3_ ⊢
        clear BK805 BK804 HB
        have BK805 := q1_
        have BK804 := q2_
        have HB := q3_
        clear q1_ q2_ q3_
        have hq805_0 : wq_.cell? ⟨gb805, 0, none⟩ = some (.int .i64 (wrap64 ((wrap64 ((wrap64 ((wrap64 (bt a0 0)) * 256)) + (wrap64 (bt a0 1)))) - 1))) := bc BK805 0
        have hr805_0 := blk_frozen BK805.out 0
        have hq805_1 : wq_.cell? ⟨gb805, 1, none⟩ = some (.int .i64 0) := bc BK805 1
        have hr805_1 := blk_frozen BK805.out 1
        have hq805_2 : wq_.cell? ⟨gb805, 2, none⟩ = some (.bool false) := bc BK805 2
        have hr805_2 := blk_frozen BK805.out 2
        have hq804_0 : wq_.cell? ⟨gb804, 0, none⟩ = some (.int .i64 0) := bc BK804 0
        have hr804_0 := blk_frozen BK804.out 0
        have hq804_1 : wq_.cell? ⟨gb804, 1, none⟩ = some (.int .i64 0) := bc BK804 1
        have hr804_1 := blk_frozen BK804.out 1
        have hq804_2 : wq_.cell? ⟨gb804, 2, none⟩ = some (.bool false) := bc BK804 2
        have hr804_2 := blk_frozen BK804.out 2
        try go_wp2_with (first | ((with_reducible refine gate_callee (f := 50) rfl ?_); refine gL (some 26) Tryd.func50 #[.int .i64 (wrap64 ((wrap64 ((wrap64 ((wrap64 (bt a0 0)) * 256)) + (wrap64 (bt a0 1)))) - 1))] ?_; (with_reducible refine (impl_curveAt.calls (wrap64 ((wrap64 ((wrap64 ((wrap64 (bt a0 0)) * 256)) + (wrap64 (bt a0 1)))) - 1)) t807 _ A31.out).mono ?_); rintro e w' ⟨rfl, ⟨nd, rfl⟩⟩; refine ⟨_, rfl, ?_⟩) | ((with_reducible refine gate_callee (f := 49) rfl ?_); refine gL (some 27) Tryd.func49 #[.int .i64 t807] ?_; (with_reducible refine (impl_FpRoot.calls k t807 t808 t809 _ A32.out).mono ?_); rintro e w62 ⟨rfl, hb⟩; refine ⟨_, rfl, ?_⟩; replace BK804 := bB BK804 hb; replace BK805 := bB BK805 hb; replace HB := bS HB hb; (try clear hb); obtain ⟨hcz63_0, hcz63_1, hcz63_2, hfz63_0, hfz63_1, hfz63_2⟩ := bK3 (w := w62) BK805))
        have n0_ : Aside0 ((w62.setCell ⟨gb805, 1, none⟩ (.int .i64 t808)).heap[gb804]? = some (.cells #[.int .i64 0, .int .i64 0, .bool false] 23 (0, 0))) := ⟨bP BK804⟩
        have n1_ : Aside0 ((w62.setCell ⟨gb805, 1, none⟩ (.int .i64 t808)).heap[gb805]? = some (.cells #[.int .i64 (wrap64 ((wrap64 ((wrap64 ((wrap64 (bt a0 0)) * 256)) + (wrap64 (bt a0 1)))) - 1)), .int .i64 t808, .bool false] 23 (0, 0))) := ⟨bU BK805⟩
        have n2_ : Aside0 (Below w.heap.size w (w62.setCell ⟨gb805, 1, none⟩ (.int .i64 t808))) := ⟨bZ HB⟩
        (try clear BK804)
        (try clear BK805)
        (try clear HB)
        generalize (w62.setCell ⟨gb805, 1, none⟩ (.int .i64 t808)) = w64 at n0_ n1_ n2_ ⊢
        have BK804 := n0_
        have BK805 := n1_
        have HB := n2_
        clear n0_ n1_ n2_
        replace BK804 := Aside0.mk (blk_drew BK804.out)
        replace BK805 := Aside0.mk (blk_drew BK805.out)
        replace HB := Aside0.mk (below_drew1 HB.out)
        have p34 : 0 ≤ (2 : Int) := (by omega)
        have q34 : 2 < a0.size := (by have : (2 : Int) < (a0.size : Int) := of_decide_eq_true (by first | (with_reducible assumption) | assumption); omega)
        have hx34 : ∀ h : 2 < a0.size, ((a0[2]'h).toNat : Int) = bt a0 2 := bt_at a0 2
        clear p34
        have qi34 : (2 < (a0.size : Int)) = True := eq_true (of_decide_eq_true (by first | (with_reducible assumption) | assumption))
        replace q34 := eq_true q34
        refine start_ (n := 7) (S := fun w' => w'.cell? ⟨gb805, 0, none⟩ = some (.int .i64 (wrap64 ((wrap64 ((wrap64 ((wrap64 (bt a0 0)) * 256)) + (wrap64 (bt a0 1)))) - 1))) ∧ w'.cell? ⟨gb805, 1, none⟩ = some (.int .i64 t808) ∧ w'.cell? ⟨gb805, 2, none⟩ = some (.bool false)) (ds := []) #[false, false, false, false, false, false, false] (by kernel_rfl) rfl rfl ⟨bc BK805 0, bc BK805 1, bc BK805 2⟩ (fun hHeld => ?_)
        generalize w64.drew = w65 at BK804 BK805 HB hHeld ⊢
        refine pure_ (i := 0) (N := some 31) (v := ?_) (a' := ?_) #[true, false, false, false, false, false, false] rfl rfl (by kernel_rfl) (fun _ _ _ h => h) (Or.inl ⟨by rfl, ?_⟩) ?_ ?_
        rotate_left
        ·intro w'
         go_simp
         with_reducible rfl
        rotate_left
        ·simp only [Act.put, List.setIfInBounds_toArray, List.set_cons_zero, List.set_cons_succ, i64_w, i32_w]
         rfl
        refine pure_ (i := 3) (N := some 34) (v := ?_) (a' := ?_) #[true, false, false, true, false, false, false] rfl rfl (by kernel_rfl) (fun _ _ _ h => h) (Or.inl ⟨by rfl, ?_⟩) ?_ ?_
        rotate_left
        ·intro w'
         go_simp
         with_reducible rfl
        rotate_left
        ·simp only [Act.put, List.setIfInBounds_toArray, List.set_cons_zero, List.set_cons_succ, i64_w, i32_w]
         rfl
        refine take_ (i := 1) (N := some 32) (v := ?_) (a' := ?_) #[true, true, false, true, false, false, false] rfl rfl (by kernel_rfl) (fun _ _ _ h => h) (Or.inl ⟨by rfl, ?_⟩) hHeld ?_ ?_
        rotate_left
        ·rintro w' ⟨s0, s1, s2⟩
         go_simp
         with_reducible rfl
        rotate_left
        ·simp only [Act.put, List.setIfInBounds_toArray, List.set_cons_zero, List.set_cons_succ, i64_w, i32_w]
         rfl
        refine pure_ (i := 2) (N := some 33) (v := ?_) (a' := ?_) #[true, true, true, true, false, false, false] rfl rfl (by kernel_rfl) (fun _ _ _ h => h) (Or.inl ⟨by rfl, ?_⟩) ?_ ?_
        rotate_left
        ·intro w'
         go_simp
         with_reducible rfl
        rotate_left
        ·simp only [Act.put, List.setIfInBounds_toArray, List.set_cons_zero, List.set_cons_succ, i64_w, i32_w]
         rfl
        refine take_ (i := 4) (N := some 35) (v := ?_) (a' := ?_) #[true, true, true, true, true, false, false] rfl rfl (by kernel_rfl) (fun _ _ _ h => h) (Or.inl ⟨by rfl, ?_⟩) hHeld ?_ ?_
        rotate_left
        ·rintro w' ⟨s0, s1, s2⟩
         go_simp
         with_reducible rfl
        rotate_left
        ·simp only [Act.put, List.setIfInBounds_toArray, List.set_cons_zero, List.set_cons_succ, i64_w, i32_w]
         rfl
        refine pure_ (i := 5) (N := some 36) (v := ?_) (a' := ?_) #[true, true, true, true, true, true, false] rfl rfl (by kernel_rfl) (fun _ _ _ h => h) (Or.inl ⟨by rfl, ?_⟩) ?_ ?_
        rotate_left
        ·intro w'
         go_simp
         with_reducible rfl
        rotate_left
        ·simp only [Act.put, List.setIfInBounds_toArray, List.set_cons_zero, List.set_cons_succ, i64_w, i32_w]
         rfl
        refine pure_ (i := 6) (N := some 37) (v := ?_) (a' := ?_) #[true, true, true, true, true, true, true] rfl rfl (by kernel_rfl) (fun _ _ _ h => h) (Or.inl ⟨by rfl, ?_⟩) ?_ ?_
        rotate_left
        ·intro w'
         go_simp
         with_reducible rfl
        rotate_left
        ·simp only [Act.put, List.setIfInBounds_toArray, List.set_cons_zero, List.set_cons_succ, i64_w, i32_w]
         rfl
        refine done_ (by kernel_rfl) ?_
        obtain ⟨hcz66_0, hcz66_1, hcz66_2, hfz66_0, hfz66_1, hfz66_2⟩ := bK3 (w := w65) BK805
        try go_wp2_with (first | ((with_reducible refine gate_callee (f := 73) rfl ?_); refine gL (some 41) Tryd.func73 #[.agg #[.int .i64 (wrap64 ((wrap64 ((wrap64 ((wrap64 (bt a0 0)) * 256)) + (wrap64 (bt a0 1)))) - 1)), .int .i64 t808, .bool false]] ?_; (with_reducible refine (impl_PointText.calls (wrap64 ((wrap64 ((wrap64 ((wrap64 (bt a0 0)) * 256)) + (wrap64 (bt a0 1)))) - 1)) t808 false t810 _ A36.out).mono ?_); rintro e w67 ⟨rfl, hb⟩; refine ⟨_, rfl, ?_⟩; replace BK804 := bB BK804 hb; replace BK805 := bB BK805 hb; replace HB := bS HB hb; (try clear hb); obtain ⟨hcz68_0, hcz68_1, hcz68_2, hfz68_0, hfz68_1, hfz68_2⟩ := bK3 (w := w67) BK804))
        refine bodyPost_ret (results_ct rfl _ _ gb804 23 #[.int .i64 0, .int .i64 0, .bool false] (0, 0) _ rfl (bU BK804) Tryd.underlying23 rfl (by kernel_rfl)) rfl ?_
        exact ⟨rR, bZ HB⟩
      ·rw [if_neg c35] at H
       have c35b0 : ((Int.tmod t808 2) == (wrap64 (bt a0 2))) = false := beq_eq_false_iff_ne.mpr c35
       have c35b1 : ((Int.tmod t808 2) != (wrap64 (bt a0 2))) = true := bne_iff_ne.mpr c35
       replace H := Option.bind_eq_some_iff.mp H
       obtain ⟨⟨t811, t812, t813⟩, A690, H⟩ := H
       have A69 := Aside0.mk A690
       clear A690
       replace H := Option.bind_eq_some_iff.mp H
       obtain ⟨t814, A700, H⟩ := H
       have A70 := Aside0.mk A700
       clear A700
       by_cases c71 : t814.toList = a0.toList
       ·rw [if_pos c71] at H
        have c71b0 : (t814.toList == a0.toList) = true := beq_iff_eq.mpr c71
        have c71b1 : (t814.toList != a0.toList) = false := bne_eq_false_iff_eq.mpr c71
        clear c71
        simp only [Option.some.injEq, Prod.mk.injEq] at H
        obtain ⟨rfl, rfl, rfl, rfl⟩ := H
        go_enter Tryd.func75, Tryd.ntmps75
        try go_wp2_with (first | ((with_reducible refine gate_dst (N := 2) rfl ?_); refine bE 2 #[.int .i64 0, .int .i64 0, .bool false] 23 ?_; intro gb804 hg w72 hbox hb; have BK804 := Aside0.mk (hbox); have GW804 := bG HB hg; have GE804 := bG HB hg; replace HB := bS HB hb; clear hb hbox hg))
        replace BK804 := Aside0.mk (blk_drew BK804.out)
        replace HB := Aside0.mk (below_drew1 HB.out)
        have p4 : 0 ≤ (0 : Int) := (by omega)
        have q4 : 0 < a0.size := (by have : (0 : Int) < (a0.size : Int) := of_decide_eq_true (by first | (with_reducible assumption) | assumption); omega)
        have hx4 : ∀ h : 0 < a0.size, ((a0[0]'h).toNat : Int) = bt a0 0 := bt_at a0 0
        clear p4
        have qi4 : (0 < (a0.size : Int)) = True := eq_true (of_decide_eq_true (by first | (with_reducible assumption) | assumption))
        replace q4 := eq_true q4
        have p6 : 0 ≤ (1 : Int) := (by omega)
        have q6 : 1 < a0.size := (by have : (1 : Int) < (a0.size : Int) := of_decide_eq_true (by first | (with_reducible assumption) | assumption); omega)
        have hx6 : ∀ h : 1 < a0.size, ((a0[1]'h).toNat : Int) = bt a0 1 := bt_at a0 1
        clear p6
        have qi6 : (1 < (a0.size : Int)) = True := eq_true (of_decide_eq_true (by first | (with_reducible assumption) | assumption))
        replace q6 := eq_true q6
        refine start_ (n := 12) (S := fun w' => True) (ds := []) #[false, false, false, false, false, false, false, false, false, false, false, false] (by kernel_rfl) rfl rfl trivial (fun hHeld => ?_); refine with_tabW impl_ReadPoint.tab3 impl_ReadPoint.bits3 (fun HT_ HW_ => ?_)
        generalize w72.drew = w73 at BK804 HB hHeld ⊢
        refine pI 0 (some 9) HT_.out ?_
        refine pI 4 (some 13) HT_.out ?_
        refine take_ (i := 1) (N := some 10) (v := ?_) (a' := ?_) #[true, true, false, false, true, false, false, false, false, false, false, false] rfl rfl (take_ofW HT_.out HW_.out (by kernel_rfl)) (fun _ _ _ h => h) (Or.inl ⟨by rfl, ?_⟩) hHeld ?_ ?_
        rotate_left
        ·intro w' _
         go_simp
         with_reducible rfl
        rotate_left
        ·simp only [Act.put, List.setIfInBounds_toArray, List.set_cons_zero, List.set_cons_succ, i64_w, i32_w]
         rfl
        refine pI 2 (some 11) HT_.out ?_
        refine pI 3 (some 12) HT_.out ?_
        refine take_ (i := 5) (N := some 14) (v := ?_) (a' := ?_) #[true, true, true, true, true, true, false, false, false, false, false, false] rfl rfl (take_ofW HT_.out HW_.out (by kernel_rfl)) (fun _ _ _ h => h) (Or.inl ⟨by rfl, ?_⟩) hHeld ?_ ?_
        rotate_left
        ·intro w' _
         go_simp
         with_reducible rfl
        rotate_left
        ·simp only [Act.put, List.setIfInBounds_toArray, List.set_cons_zero, List.set_cons_succ, i64_w, i32_w]
         rfl
        refine pI 6 (some 15) HT_.out ?_
        refine pI 7 (some 16) HT_.out ?_
        refine pI 8 (some 17) HT_.out ?_
        refine pI 9 (some 18) HT_.out ?_
        refine oI 10 (some 4) HT_.out (fun K hK => ?_)
        refine box_step ?hg (N := 4) ?hd (cs := #[.int .i64 0, .int .i64 0, .bool false]) (t := 23) ?hr ?_; (case hd => rfl); (case hg => rfl); (case hr => first | (go_simp; done) | (go_simp; rfl))
        intro gb805 hg w74 hbox hb
        have BK805 := Aside0.mk (hbox)
        have GW805 := bG HB hg
        have GE805 := bG HB hg
        replace HB := bS HB hb
        have NB804_805 := bL BK804 hg
        have NB805_804 := bR BK804 hg
        replace BK804 := bB BK804 hb
        clear hb hbox hg
        refine hK.out _ _ trivial (fun hHeld => ?_)
        clear hK K
        refine nO (some 4) ?_
        refine oI 11 (none) HT_.out (fun K hK => ?_)
        have hs75 : w74.cell? ⟨gb805, 0, none⟩ = some (.int .i64 0) := bc BK805 0
        have hfs75 := blk_frozen BK805.out 0
        have hns75_0 := NB804_805.out
        have hms75_0 := NB805_804.out
        have hs76 : w74.cell? ⟨gb805, 1, none⟩ = some (.int .i64 0) := bc BK805 1
        have hfs76 := blk_frozen BK805.out 1
        have hns76_0 := NB804_805.out
        have hms76_0 := NB805_804.out
        have hs77 : w74.cell? ⟨gb805, 2, none⟩ = some (.bool false) := bc BK805 2
        have hfs77 := blk_frozen BK805.out 2
        have hns77_0 := NB804_805.out
        have hms77_0 := NB805_804.out
        refine skip_ (w1 := ?_) (by rfl) rfl ?_ ?_
        rotate_left
        ·go_simp
         rfl
        refine hK.out _ _ trivial (fun hHeld => ?_)
        clear hK K
        refine done_ (done_of HT_.out (by kernel_rfl)) ?_
        have hnb78 := NB805_804.out
        have hnc78 := NB804_805.out
        obtain ⟨hcz79_0, hcz79_1, hcz79_2, hfz79_0, hfz79_1, hfz79_2⟩ := bK3 (w := w74) BK805
        have q1_ : Aside0 ((((w74.setCell ⟨gb805, 0, none⟩ (.int .i64 (wrap64 ((wrap64 ((wrap64 ((wrap64 (bt a0 0)) * 256)) + (wrap64 (bt a0 1)))) - 1)))).setCell ⟨gb805, 1, none⟩ (.int .i64 0)).setCell ⟨gb805, 2, none⟩ (.bool false)).heap[gb805]? = some (.cells #[.int .i64 (wrap64 ((wrap64 ((wrap64 ((wrap64 (bt a0 0)) * 256)) + (wrap64 (bt a0 1)))) - 1)), .int .i64 0, .bool false] 23 (0, 0))) := ⟨by refine blk_put (cs := #[.int .i64 (wrap64 ((wrap64 ((wrap64 ((wrap64 (bt a0 0)) * 256)) + (wrap64 (bt a0 1)))) - 1)), .int .i64 0, .bool false]) ?_ 2 _ rfl; refine blk_put (cs := #[.int .i64 (wrap64 ((wrap64 ((wrap64 ((wrap64 (bt a0 0)) * 256)) + (wrap64 (bt a0 1)))) - 1)), .int .i64 0, .bool false]) ?_ 1 _ rfl; refine blk_put (cs := #[.int .i64 0, .int .i64 0, .bool false]) ?_ 0 _ rfl; exact BK805.out⟩
        have q2_ : Aside0 ((((w74.setCell ⟨gb805, 0, none⟩ (.int .i64 (wrap64 ((wrap64 ((wrap64 ((wrap64 (bt a0 0)) * 256)) + (wrap64 (bt a0 1)))) - 1)))).setCell ⟨gb805, 1, none⟩ (.int .i64 0)).setCell ⟨gb805, 2, none⟩ (.bool false)).heap[gb804]? = some (.cells #[.int .i64 0, .int .i64 0, .bool false] 23 (0, 0))) := ⟨by refine blk_far ?_ NB804_805.out _; refine blk_far ?_ NB804_805.out _; refine blk_far ?_ NB804_805.out _; exact BK804.out⟩
        have q3_ : Aside0 (Below w.heap.size w (((w74.setCell ⟨gb805, 0, none⟩ (.int .i64 (wrap64 ((wrap64 ((wrap64 ((wrap64 (bt a0 0)) * 256)) + (wrap64 (bt a0 1)))) - 1)))).setCell ⟨gb805, 1, none⟩ (.int .i64 0)).setCell ⟨gb805, 2, none⟩ (.bool false))) := ⟨bZ HB⟩
        generalize (((w74.setCell ⟨gb805, 0, none⟩ (.int .i64 (wrap64 ((wrap64 ((wrap64 ((wrap64 (bt a0 0)) * 256)) + (wrap64 (bt a0 1)))) - 1)))).setCell ⟨gb805, 1, none⟩ (.int .i64 0)).setCell ⟨gb805, 2, none⟩ (.bool false)) = wq_ at q1_ q2_ q3_ ⊢
        clear BK805 BK804 HB
        have BK805 := q1_
        have BK804 := q2_
        have HB := q3_
        clear q1_ q2_ q3_
        have hq805_0 : wq_.cell? ⟨gb805, 0, none⟩ = some (.int .i64 (wrap64 ((wrap64 ((wrap64 ((wrap64 (bt a0 0)) * 256)) + (wrap64 (bt a0 1)))) - 1))) := bc BK805 0
        have hr805_0 := blk_frozen BK805.out 0
        have hq805_1 : wq_.cell? ⟨gb805, 1, none⟩ = some (.int .i64 0) := bc BK805 1
        have hr805_1 := blk_frozen BK805.out 1
        have hq805_2 : wq_.cell? ⟨gb805, 2, none⟩ = some (.bool false) := bc BK805 2
        have hr805_2 := blk_frozen BK805.out 2
        have hq804_0 : wq_.cell? ⟨gb804, 0, none⟩ = some (.int .i64 0) := bc BK804 0
        have hr804_0 := blk_frozen BK804.out 0
        have hq804_1 : wq_.cell? ⟨gb804, 1, none⟩ = some (.int .i64 0) := bc BK804 1
        have hr804_1 := blk_frozen BK804.out 1
        have hq804_2 : wq_.cell? ⟨gb804, 2, none⟩ = some (.bool false) := bc BK804 2
        have hr804_2 := blk_frozen BK804.out 2
        try go_wp2_with (first | ((with_reducible refine gate_callee (f := 50) rfl ?_); refine gL (some 26) Tryd.func50 #[.int .i64 (wrap64 ((wrap64 ((wrap64 ((wrap64 (bt a0 0)) * 256)) + (wrap64 (bt a0 1)))) - 1))] ?_; (with_reducible refine (impl_curveAt.calls (wrap64 ((wrap64 ((wrap64 ((wrap64 (bt a0 0)) * 256)) + (wrap64 (bt a0 1)))) - 1)) t807 _ A31.out).mono ?_); rintro e w' ⟨rfl, ⟨nd, rfl⟩⟩; refine ⟨_, rfl, ?_⟩) | ((with_reducible refine gate_callee (f := 49) rfl ?_); refine gL (some 27) Tryd.func49 #[.int .i64 t807] ?_; (with_reducible refine (impl_FpRoot.calls k t807 t808 t809 _ A32.out).mono ?_); rintro e w80 ⟨rfl, hb⟩; refine ⟨_, rfl, ?_⟩; replace BK804 := bB BK804 hb; replace BK805 := bB BK805 hb; replace HB := bS HB hb; (try clear hb); obtain ⟨hcz81_0, hcz81_1, hcz81_2, hfz81_0, hfz81_1, hfz81_2⟩ := bK3 (w := w80) BK805))
        have n0_ : Aside0 ((w80.setCell ⟨gb805, 1, none⟩ (.int .i64 t808)).heap[gb804]? = some (.cells #[.int .i64 0, .int .i64 0, .bool false] 23 (0, 0))) := ⟨bP BK804⟩
        have n1_ : Aside0 ((w80.setCell ⟨gb805, 1, none⟩ (.int .i64 t808)).heap[gb805]? = some (.cells #[.int .i64 (wrap64 ((wrap64 ((wrap64 ((wrap64 (bt a0 0)) * 256)) + (wrap64 (bt a0 1)))) - 1)), .int .i64 t808, .bool false] 23 (0, 0))) := ⟨bU BK805⟩
        have n2_ : Aside0 (Below w.heap.size w (w80.setCell ⟨gb805, 1, none⟩ (.int .i64 t808))) := ⟨bZ HB⟩
        (try clear BK804)
        (try clear BK805)
        (try clear HB)
        generalize (w80.setCell ⟨gb805, 1, none⟩ (.int .i64 t808)) = w82 at n0_ n1_ n2_ ⊢
        have BK804 := n0_
        have BK805 := n1_
        have HB := n2_
        clear n0_ n1_ n2_
        replace BK804 := Aside0.mk (blk_drew BK804.out)
        replace BK805 := Aside0.mk (blk_drew BK805.out)
        replace HB := Aside0.mk (below_drew1 HB.out)
        have p34 : 0 ≤ (2 : Int) := (by omega)
        have q34 : 2 < a0.size := (by have : (2 : Int) < (a0.size : Int) := of_decide_eq_true (by first | (with_reducible assumption) | assumption); omega)
        have hx34 : ∀ h : 2 < a0.size, ((a0[2]'h).toNat : Int) = bt a0 2 := bt_at a0 2
        clear p34
        have qi34 : (2 < (a0.size : Int)) = True := eq_true (of_decide_eq_true (by first | (with_reducible assumption) | assumption))
        replace q34 := eq_true q34
        refine start_ (n := 7) (S := fun w' => w'.cell? ⟨gb805, 0, none⟩ = some (.int .i64 (wrap64 ((wrap64 ((wrap64 ((wrap64 (bt a0 0)) * 256)) + (wrap64 (bt a0 1)))) - 1))) ∧ w'.cell? ⟨gb805, 1, none⟩ = some (.int .i64 t808) ∧ w'.cell? ⟨gb805, 2, none⟩ = some (.bool false)) (ds := []) #[false, false, false, false, false, false, false] (by kernel_rfl) rfl rfl ⟨bc BK805 0, bc BK805 1, bc BK805 2⟩ (fun hHeld => ?_)
        generalize w82.drew = w83 at BK804 BK805 HB hHeld ⊢
        refine pure_ (i := 0) (N := some 31) (v := ?_) (a' := ?_) #[true, false, false, false, false, false, false] rfl rfl (by kernel_rfl) (fun _ _ _ h => h) (Or.inl ⟨by rfl, ?_⟩) ?_ ?_
        rotate_left
        ·intro w'
         go_simp
         with_reducible rfl
        rotate_left
        ·simp only [Act.put, List.setIfInBounds_toArray, List.set_cons_zero, List.set_cons_succ, i64_w, i32_w]
         rfl
        refine pure_ (i := 3) (N := some 34) (v := ?_) (a' := ?_) #[true, false, false, true, false, false, false] rfl rfl (by kernel_rfl) (fun _ _ _ h => h) (Or.inl ⟨by rfl, ?_⟩) ?_ ?_
        rotate_left
        ·intro w'
         go_simp
         with_reducible rfl
        rotate_left
        ·simp only [Act.put, List.setIfInBounds_toArray, List.set_cons_zero, List.set_cons_succ, i64_w, i32_w]
         rfl
        refine take_ (i := 1) (N := some 32) (v := ?_) (a' := ?_) #[true, true, false, true, false, false, false] rfl rfl (by kernel_rfl) (fun _ _ _ h => h) (Or.inl ⟨by rfl, ?_⟩) hHeld ?_ ?_
        rotate_left
        ·rintro w' ⟨s0, s1, s2⟩
         go_simp
         with_reducible rfl
        rotate_left
        ·simp only [Act.put, List.setIfInBounds_toArray, List.set_cons_zero, List.set_cons_succ, i64_w, i32_w]
         rfl
        refine pure_ (i := 2) (N := some 33) (v := ?_) (a' := ?_) #[true, true, true, true, false, false, false] rfl rfl (by kernel_rfl) (fun _ _ _ h => h) (Or.inl ⟨by rfl, ?_⟩) ?_ ?_
        rotate_left
        ·intro w'
         go_simp
         with_reducible rfl
        rotate_left
        ·simp only [Act.put, List.setIfInBounds_toArray, List.set_cons_zero, List.set_cons_succ, i64_w, i32_w]
         rfl
        refine take_ (i := 4) (N := some 35) (v := ?_) (a' := ?_) #[true, true, true, true, true, false, false] rfl rfl (by kernel_rfl) (fun _ _ _ h => h) (Or.inl ⟨by rfl, ?_⟩) hHeld ?_ ?_
        rotate_left
        ·rintro w' ⟨s0, s1, s2⟩
         go_simp
         with_reducible rfl
        rotate_left
        ·simp only [Act.put, List.setIfInBounds_toArray, List.set_cons_zero, List.set_cons_succ, i64_w, i32_w]
         rfl
        refine pure_ (i := 5) (N := some 36) (v := ?_) (a' := ?_) #[true, true, true, true, true, true, false] rfl rfl (by kernel_rfl) (fun _ _ _ h => h) (Or.inl ⟨by rfl, ?_⟩) ?_ ?_
        rotate_left
        ·intro w'
         go_simp
         with_reducible rfl
        rotate_left
        ·simp only [Act.put, List.setIfInBounds_toArray, List.set_cons_zero, List.set_cons_succ, i64_w, i32_w]
         rfl
        refine pure_ (i := 6) (N := some 37) (v := ?_) (a' := ?_) #[true, true, true, true, true, true, true] rfl rfl (by kernel_rfl) (fun _ _ _ h => h) (Or.inl ⟨by rfl, ?_⟩) ?_ ?_
        rotate_left
        ·intro w'
         go_simp
         with_reducible rfl
        rotate_left
        ·simp only [Act.put, List.setIfInBounds_toArray, List.set_cons_zero, List.set_cons_succ, i64_w, i32_w]
         rfl
        refine done_ (by kernel_rfl) ?_
        obtain ⟨hcz84_0, hcz84_1, hcz84_2, hfz84_0, hfz84_1, hfz84_2⟩ := bK3 (w := w83) BK805
        try go_wp2_with (first | ((with_reducible refine gate_callee (f := 112) rfl ?_); refine gL (some 39) Tryd.func112 #[.agg #[.int .i64 (wrap64 ((wrap64 ((wrap64 ((wrap64 (bt a0 0)) * 256)) + (wrap64 (bt a0 1)))) - 1)), .int .i64 t808, .bool false]] ?_; (with_reducible refine (impl_PointNeg.calls (wrap64 ((wrap64 ((wrap64 ((wrap64 (bt a0 0)) * 256)) + (wrap64 (bt a0 1)))) - 1)) t808 false t811 t812 t813 _ A69.out).mono ?_); rintro e w85 ⟨rfl, hb⟩; refine ⟨_, rfl, ?_⟩; replace BK804 := bB BK804 hb; replace BK805 := bB BK805 hb; replace HB := bS HB hb; (try clear hb); obtain ⟨hcz86_0, hcz86_1, hcz86_2, hfz86_0, hfz86_1, hfz86_2⟩ := bK3 (w := w85) BK805) | ((with_reducible refine gate_callee (f := 73) rfl ?_); refine gL (some 41) Tryd.func73 #[.agg #[.int .i64 t811, .int .i64 t812, .bool t813]] ?_; (with_reducible refine (impl_PointText.calls t811 t812 t813 t814 _ A70.out).mono ?_); rintro e w87 ⟨rfl, hb⟩; refine ⟨_, rfl, ?_⟩; replace BK804 := bB BK804 hb; replace BK805 := bV 23 #[.int .i64 t811, .int .i64 t812, .bool t813] BK805 hb; replace HB := bS HB hb; (try clear hb); obtain ⟨hcz88_0, hcz88_1, hcz88_2, hfz88_0, hfz88_1, hfz88_2⟩ := bK3 (w := w87) BK805; obtain ⟨hcz89_0, hcz89_1, hcz89_2, hfz89_0, hfz89_1, hfz89_2⟩ := bK3 (w := w87) BK804))
        refine bodyPost_ret (results_ct rfl _ _ gb804 23 #[.int .i64 t811, .int .i64 t812, .bool t813] (0, 0) _ rfl (bU BK804) Tryd.underlying23 rfl (by kernel_rfl)) rfl ?_
        exact ⟨rR, bZ HB⟩
       ·rw [if_neg c71] at H
        have c71b0 : (t814.toList == a0.toList) = false := beq_eq_false_iff_ne.mpr c71
        have c71b1 : (t814.toList != a0.toList) = true := bne_iff_ne.mpr c71
        simp only [Option.some.injEq, Prod.mk.injEq] at H
        obtain ⟨rfl, rfl, rfl, rfl⟩ := H
        go_enter Tryd.func75, Tryd.ntmps75
        try go_wp2_with (first | ((with_reducible refine gate_dst (N := 2) rfl ?_); refine bE 2 #[.int .i64 0, .int .i64 0, .bool false] 23 ?_; intro gb804 hg w90 hbox hb; have BK804 := Aside0.mk (hbox); have GW804 := bG HB hg; have GE804 := bG HB hg; replace HB := bS HB hb; clear hb hbox hg))
        replace BK804 := Aside0.mk (blk_drew BK804.out)
        replace HB := Aside0.mk (below_drew1 HB.out)
        have p4 : 0 ≤ (0 : Int) := (by omega)
        have q4 : 0 < a0.size := (by have : (0 : Int) < (a0.size : Int) := of_decide_eq_true (by first | (with_reducible assumption) | assumption); omega)
        have hx4 : ∀ h : 0 < a0.size, ((a0[0]'h).toNat : Int) = bt a0 0 := bt_at a0 0
        clear p4
        have qi4 : (0 < (a0.size : Int)) = True := eq_true (of_decide_eq_true (by first | (with_reducible assumption) | assumption))
        replace q4 := eq_true q4
        have p6 : 0 ≤ (1 : Int) := (by omega)
        have q6 : 1 < a0.size := (by have : (1 : Int) < (a0.size : Int) := of_decide_eq_true (by first | (with_reducible assumption) | assumption); omega)
        have hx6 : ∀ h : 1 < a0.size, ((a0[1]'h).toNat : Int) = bt a0 1 := bt_at a0 1
        clear p6
        have qi6 : (1 < (a0.size : Int)) = True := eq_true (of_decide_eq_true (by first | (with_reducible assumption) | assumption))
        replace q6 := eq_true q6
        refine start_ (n := 12) (S := fun w' => True) (ds := []) #[false, false, false, false, false, false, false, false, false, false, false, false] (by kernel_rfl) rfl rfl trivial (fun hHeld => ?_); refine with_tabW impl_ReadPoint.tab3 impl_ReadPoint.bits3 (fun HT_ HW_ => ?_)
        generalize w90.drew = w91 at BK804 HB hHeld ⊢
        refine pI 0 (some 9) HT_.out ?_
        refine pI 4 (some 13) HT_.out ?_
        refine take_ (i := 1) (N := some 10) (v := ?_) (a' := ?_) #[true, true, false, false, true, false, false, false, false, false, false, false] rfl rfl (take_ofW HT_.out HW_.out (by kernel_rfl)) (fun _ _ _ h => h) (Or.inl ⟨by rfl, ?_⟩) hHeld ?_ ?_
        rotate_left
        ·intro w' _
         go_simp
         with_reducible rfl
        rotate_left
        ·simp only [Act.put, List.setIfInBounds_toArray, List.set_cons_zero, List.set_cons_succ, i64_w, i32_w]
         rfl
        refine pI 2 (some 11) HT_.out ?_
        refine pI 3 (some 12) HT_.out ?_
        refine take_ (i := 5) (N := some 14) (v := ?_) (a' := ?_) #[true, true, true, true, true, true, false, false, false, false, false, false] rfl rfl (take_ofW HT_.out HW_.out (by kernel_rfl)) (fun _ _ _ h => h) (Or.inl ⟨by rfl, ?_⟩) hHeld ?_ ?_
        rotate_left
        ·intro w' _
         go_simp
         with_reducible rfl
        rotate_left
        ·simp only [Act.put, List.setIfInBounds_toArray, List.set_cons_zero, List.set_cons_succ, i64_w, i32_w]
         rfl
        refine pI 6 (some 15) HT_.out ?_
        refine pI 7 (some 16) HT_.out ?_
        refine pI 8 (some 17) HT_.out ?_
        refine pI 9 (some 18) HT_.out ?_
        refine oI 10 (some 4) HT_.out (fun K hK => ?_)
        refine box_step ?hg (N := 4) ?hd (cs := #[.int .i64 0, .int .i64 0, .bool false]) (t := 23) ?hr ?_; (case hd => rfl); (case hg => rfl); (case hr => first | (go_simp; done) | (go_simp; rfl))
        intro gb805 hg w92 hbox hb
        have BK805 := Aside0.mk (hbox)
        have GW805 := bG HB hg
        have GE805 := bG HB hg
        replace HB := bS HB hb
        have NB804_805 := bL BK804 hg
        have NB805_804 := bR BK804 hg
        replace BK804 := bB BK804 hb
        clear hb hbox hg
        refine hK.out _ _ trivial (fun hHeld => ?_)
        clear hK K
        refine nO (some 4) ?_
        refine oI 11 (none) HT_.out (fun K hK => ?_)
        have hs93 : w92.cell? ⟨gb805, 0, none⟩ = some (.int .i64 0) := bc BK805 0
        have hfs93 := blk_frozen BK805.out 0
        have hns93_0 := NB804_805.out
        have hms93_0 := NB805_804.out
        have hs94 : w92.cell? ⟨gb805, 1, none⟩ = some (.int .i64 0) := bc BK805 1
        have hfs94 := blk_frozen BK805.out 1
        have hns94_0 := NB804_805.out
        have hms94_0 := NB805_804.out
        have hs95 : w92.cell? ⟨gb805, 2, none⟩ = some (.bool false) := bc BK805 2
        have hfs95 := blk_frozen BK805.out 2
        have hns95_0 := NB804_805.out
        have hms95_0 := NB805_804.out
        refine skip_ (w1 := ?_) (by rfl) rfl ?_ ?_
        rotate_left
        ·go_simp
         rfl
        refine hK.out _ _ trivial (fun hHeld => ?_)
        clear hK K
        refine done_ (done_of HT_.out (by kernel_rfl)) ?_
        have hnb96 := NB805_804.out
        have hnc96 := NB804_805.out
        obtain ⟨hcz97_0, hcz97_1, hcz97_2, hfz97_0, hfz97_1, hfz97_2⟩ := bK3 (w := w92) BK805
        have q1_ : Aside0 ((((w92.setCell ⟨gb805, 0, none⟩ (.int .i64 (wrap64 ((wrap64 ((wrap64 ((wrap64 (bt a0 0)) * 256)) + (wrap64 (bt a0 1)))) - 1)))).setCell ⟨gb805, 1, none⟩ (.int .i64 0)).setCell ⟨gb805, 2, none⟩ (.bool false)).heap[gb805]? = some (.cells #[.int .i64 (wrap64 ((wrap64 ((wrap64 ((wrap64 (bt a0 0)) * 256)) + (wrap64 (bt a0 1)))) - 1)), .int .i64 0, .bool false] 23 (0, 0))) := ⟨by refine blk_put (cs := #[.int .i64 (wrap64 ((wrap64 ((wrap64 ((wrap64 (bt a0 0)) * 256)) + (wrap64 (bt a0 1)))) - 1)), .int .i64 0, .bool false]) ?_ 2 _ rfl; refine blk_put (cs := #[.int .i64 (wrap64 ((wrap64 ((wrap64 ((wrap64 (bt a0 0)) * 256)) + (wrap64 (bt a0 1)))) - 1)), .int .i64 0, .bool false]) ?_ 1 _ rfl; refine blk_put (cs := #[.int .i64 0, .int .i64 0, .bool false]) ?_ 0 _ rfl; exact BK805.out⟩
        have q2_ : Aside0 ((((w92.setCell ⟨gb805, 0, none⟩ (.int .i64 (wrap64 ((wrap64 ((wrap64 ((wrap64 (bt a0 0)) * 256)) + (wrap64 (bt a0 1)))) - 1)))).setCell ⟨gb805, 1, none⟩ (.int .i64 0)).setCell ⟨gb805, 2, none⟩ (.bool false)).heap[gb804]? = some (.cells #[.int .i64 0, .int .i64 0, .bool false] 23 (0, 0))) := ⟨by refine blk_far ?_ NB804_805.out _; refine blk_far ?_ NB804_805.out _; refine blk_far ?_ NB804_805.out _; exact BK804.out⟩
        have q3_ : Aside0 (Below w.heap.size w (((w92.setCell ⟨gb805, 0, none⟩ (.int .i64 (wrap64 ((wrap64 ((wrap64 ((wrap64 (bt a0 0)) * 256)) + (wrap64 (bt a0 1)))) - 1)))).setCell ⟨gb805, 1, none⟩ (.int .i64 0)).setCell ⟨gb805, 2, none⟩ (.bool false))) := ⟨bZ HB⟩
        generalize (((w92.setCell ⟨gb805, 0, none⟩ (.int .i64 (wrap64 ((wrap64 ((wrap64 ((wrap64 (bt a0 0)) * 256)) + (wrap64 (bt a0 1)))) - 1)))).setCell ⟨gb805, 1, none⟩ (.int .i64 0)).setCell ⟨gb805, 2, none⟩ (.bool false)) = wq_ at q1_ q2_ q3_ ⊢
        clear BK805 BK804 HB
        have BK805 := q1_
        have BK804 := q2_
        have HB := q3_
        clear q1_ q2_ q3_
        have hq805_0 : wq_.cell? ⟨gb805, 0, none⟩ = some (.int .i64 (wrap64 ((wrap64 ((wrap64 ((wrap64 (bt a0 0)) * 256)) + (wrap64 (bt a0 1)))) - 1))) := bc BK805 0
        have hr805_0 := blk_frozen BK805.out 0
        have hq805_1 : wq_.cell? ⟨gb805, 1, none⟩ = some (.int .i64 0) := bc BK805 1
        have hr805_1 := blk_frozen BK805.out 1
        have hq805_2 : wq_.cell? ⟨gb805, 2, none⟩ = some (.bool false) := bc BK805 2
        have hr805_2 := blk_frozen BK805.out 2
        have hq804_0 : wq_.cell? ⟨gb804, 0, none⟩ = some (.int .i64 0) := bc BK804 0
        have hr804_0 := blk_frozen BK804.out 0
        have hq804_1 : wq_.cell? ⟨gb804, 1, none⟩ = some (.int .i64 0) := bc BK804 1
        have hr804_1 := blk_frozen BK804.out 1
        have hq804_2 : wq_.cell? ⟨gb804, 2, none⟩ = some (.bool false) := bc BK804 2
        have hr804_2 := blk_frozen BK804.out 2
        try go_wp2_with (first | ((with_reducible refine gate_callee (f := 50) rfl ?_); refine gL (some 26) Tryd.func50 #[.int .i64 (wrap64 ((wrap64 ((wrap64 ((wrap64 (bt a0 0)) * 256)) + (wrap64 (bt a0 1)))) - 1))] ?_; (with_reducible refine (impl_curveAt.calls (wrap64 ((wrap64 ((wrap64 ((wrap64 (bt a0 0)) * 256)) + (wrap64 (bt a0 1)))) - 1)) t807 _ A31.out).mono ?_); rintro e w' ⟨rfl, ⟨nd, rfl⟩⟩; refine ⟨_, rfl, ?_⟩) | ((with_reducible refine gate_callee (f := 49) rfl ?_); refine gL (some 27) Tryd.func49 #[.int .i64 t807] ?_; (with_reducible refine (impl_FpRoot.calls k t807 t808 t809 _ A32.out).mono ?_); rintro e w98 ⟨rfl, hb⟩; refine ⟨_, rfl, ?_⟩; replace BK804 := bB BK804 hb; replace BK805 := bB BK805 hb; replace HB := bS HB hb; (try clear hb); obtain ⟨hcz99_0, hcz99_1, hcz99_2, hfz99_0, hfz99_1, hfz99_2⟩ := bK3 (w := w98) BK805))
        have n0_ : Aside0 ((w98.setCell ⟨gb805, 1, none⟩ (.int .i64 t808)).heap[gb804]? = some (.cells #[.int .i64 0, .int .i64 0, .bool false] 23 (0, 0))) := ⟨bP BK804⟩
        have n1_ : Aside0 ((w98.setCell ⟨gb805, 1, none⟩ (.int .i64 t808)).heap[gb805]? = some (.cells #[.int .i64 (wrap64 ((wrap64 ((wrap64 ((wrap64 (bt a0 0)) * 256)) + (wrap64 (bt a0 1)))) - 1)), .int .i64 t808, .bool false] 23 (0, 0))) := ⟨bU BK805⟩
        have n2_ : Aside0 (Below w.heap.size w (w98.setCell ⟨gb805, 1, none⟩ (.int .i64 t808))) := ⟨bZ HB⟩
        (try clear BK804)
        (try clear BK805)
        (try clear HB)
        generalize (w98.setCell ⟨gb805, 1, none⟩ (.int .i64 t808)) = w100 at n0_ n1_ n2_ ⊢
        have BK804 := n0_
        have BK805 := n1_
        have HB := n2_
        clear n0_ n1_ n2_
        replace BK804 := Aside0.mk (blk_drew BK804.out)
        replace BK805 := Aside0.mk (blk_drew BK805.out)
        replace HB := Aside0.mk (below_drew1 HB.out)
        have p34 : 0 ≤ (2 : Int) := (by omega)
        have q34 : 2 < a0.size := (by have : (2 : Int) < (a0.size : Int) := of_decide_eq_true (by first | (with_reducible assumption) | assumption); omega)
        have hx34 : ∀ h : 2 < a0.size, ((a0[2]'h).toNat : Int) = bt a0 2 := bt_at a0 2
        clear p34
        have qi34 : (2 < (a0.size : Int)) = True := eq_true (of_decide_eq_true (by first | (with_reducible assumption) | assumption))
        replace q34 := eq_true q34
        refine start_ (n := 7) (S := fun w' => w'.cell? ⟨gb805, 0, none⟩ = some (.int .i64 (wrap64 ((wrap64 ((wrap64 ((wrap64 (bt a0 0)) * 256)) + (wrap64 (bt a0 1)))) - 1))) ∧ w'.cell? ⟨gb805, 1, none⟩ = some (.int .i64 t808) ∧ w'.cell? ⟨gb805, 2, none⟩ = some (.bool false)) (ds := []) #[false, false, false, false, false, false, false] (by kernel_rfl) rfl rfl ⟨bc BK805 0, bc BK805 1, bc BK805 2⟩ (fun hHeld => ?_)
        generalize w100.drew = w101 at BK804 BK805 HB hHeld ⊢
        refine pure_ (i := 0) (N := some 31) (v := ?_) (a' := ?_) #[true, false, false, false, false, false, false] rfl rfl (by kernel_rfl) (fun _ _ _ h => h) (Or.inl ⟨by rfl, ?_⟩) ?_ ?_
        rotate_left
        ·intro w'
         go_simp
         with_reducible rfl
        rotate_left
        ·simp only [Act.put, List.setIfInBounds_toArray, List.set_cons_zero, List.set_cons_succ, i64_w, i32_w]
         rfl
        refine pure_ (i := 3) (N := some 34) (v := ?_) (a' := ?_) #[true, false, false, true, false, false, false] rfl rfl (by kernel_rfl) (fun _ _ _ h => h) (Or.inl ⟨by rfl, ?_⟩) ?_ ?_
        rotate_left
        ·intro w'
         go_simp
         with_reducible rfl
        rotate_left
        ·simp only [Act.put, List.setIfInBounds_toArray, List.set_cons_zero, List.set_cons_succ, i64_w, i32_w]
         rfl
        refine take_ (i := 1) (N := some 32) (v := ?_) (a' := ?_) #[true, true, false, true, false, false, false] rfl rfl (by kernel_rfl) (fun _ _ _ h => h) (Or.inl ⟨by rfl, ?_⟩) hHeld ?_ ?_
        rotate_left
        ·rintro w' ⟨s0, s1, s2⟩
         go_simp
         with_reducible rfl
        rotate_left
        ·simp only [Act.put, List.setIfInBounds_toArray, List.set_cons_zero, List.set_cons_succ, i64_w, i32_w]
         rfl
        refine pure_ (i := 2) (N := some 33) (v := ?_) (a' := ?_) #[true, true, true, true, false, false, false] rfl rfl (by kernel_rfl) (fun _ _ _ h => h) (Or.inl ⟨by rfl, ?_⟩) ?_ ?_
        rotate_left
        ·intro w'
         go_simp
         with_reducible rfl
        rotate_left
        ·simp only [Act.put, List.setIfInBounds_toArray, List.set_cons_zero, List.set_cons_succ, i64_w, i32_w]
         rfl
        refine take_ (i := 4) (N := some 35) (v := ?_) (a' := ?_) #[true, true, true, true, true, false, false] rfl rfl (by kernel_rfl) (fun _ _ _ h => h) (Or.inl ⟨by rfl, ?_⟩) hHeld ?_ ?_
        rotate_left
        ·rintro w' ⟨s0, s1, s2⟩
         go_simp
         with_reducible rfl
        rotate_left
        ·simp only [Act.put, List.setIfInBounds_toArray, List.set_cons_zero, List.set_cons_succ, i64_w, i32_w]
         rfl
        refine pure_ (i := 5) (N := some 36) (v := ?_) (a' := ?_) #[true, true, true, true, true, true, false] rfl rfl (by kernel_rfl) (fun _ _ _ h => h) (Or.inl ⟨by rfl, ?_⟩) ?_ ?_
        rotate_left
        ·intro w'
         go_simp
         with_reducible rfl
        rotate_left
        ·simp only [Act.put, List.setIfInBounds_toArray, List.set_cons_zero, List.set_cons_succ, i64_w, i32_w]
         rfl
        refine pure_ (i := 6) (N := some 37) (v := ?_) (a' := ?_) #[true, true, true, true, true, true, true] rfl rfl (by kernel_rfl) (fun _ _ _ h => h) (Or.inl ⟨by rfl, ?_⟩) ?_ ?_
        rotate_left
        ·intro w'
         go_simp
         with_reducible rfl
        rotate_left
        ·simp only [Act.put, List.setIfInBounds_toArray, List.set_cons_zero, List.set_cons_succ, i64_w, i32_w]
         rfl
        refine done_ (by kernel_rfl) ?_
        obtain ⟨hcz102_0, hcz102_1, hcz102_2, hfz102_0, hfz102_1, hfz102_2⟩ := bK3 (w := w101) BK805
        try go_wp2_with (first | ((with_reducible refine gate_callee (f := 112) rfl ?_); refine gL (some 39) Tryd.func112 #[.agg #[.int .i64 (wrap64 ((wrap64 ((wrap64 ((wrap64 (bt a0 0)) * 256)) + (wrap64 (bt a0 1)))) - 1)), .int .i64 t808, .bool false]] ?_; (with_reducible refine (impl_PointNeg.calls (wrap64 ((wrap64 ((wrap64 ((wrap64 (bt a0 0)) * 256)) + (wrap64 (bt a0 1)))) - 1)) t808 false t811 t812 t813 _ A69.out).mono ?_); rintro e w103 ⟨rfl, hb⟩; refine ⟨_, rfl, ?_⟩; replace BK804 := bB BK804 hb; replace BK805 := bB BK805 hb; replace HB := bS HB hb; (try clear hb); obtain ⟨hcz104_0, hcz104_1, hcz104_2, hfz104_0, hfz104_1, hfz104_2⟩ := bK3 (w := w103) BK805) | ((with_reducible refine gate_callee (f := 73) rfl ?_); refine gL (some 41) Tryd.func73 #[.agg #[.int .i64 t811, .int .i64 t812, .bool t813]] ?_; (with_reducible refine (impl_PointText.calls t811 t812 t813 t814 _ A70.out).mono ?_); rintro e w105 ⟨rfl, hb⟩; refine ⟨_, rfl, ?_⟩; replace BK804 := bB BK804 hb; replace BK805 := bV 23 #[.int .i64 t811, .int .i64 t812, .bool t813] BK805 hb; replace HB := bS HB hb; (try clear hb); obtain ⟨hcz106_0, hcz106_1, hcz106_2, hfz106_0, hfz106_1, hfz106_2⟩ := bK3 (w := w105) BK804))
        refine bodyPost_ret (results_ct rfl _ _ gb804 23 #[.int .i64 0, .int .i64 0, .bool false] (0, 0) _ rfl (bU BK804) Tryd.underlying23 rfl (by kernel_rfl)) rfl ?_
        exact ⟨rR, bZ HB⟩
     ·rw [if_neg c33] at H
      exact absurd H (by simp)
   ·rw [if_neg c5] at H
    exact absurd H (by simp)
  ·rw [if_neg c3] at H
   exact absurd H (by simp)
 ·rw [if_neg c2] at H
  have c2b0 : ((a0.size : Int) == 3) = false := beq_eq_false_iff_ne.mpr c2
  have c2b1 : ((a0.size : Int) != 3) = true := bne_iff_ne.mpr c2
  simp only [Option.some.injEq, Prod.mk.injEq] at H
  obtain ⟨rfl, rfl, rfl, rfl⟩ := H
  go_enter Tryd.func75, Tryd.ntmps75
  go_wp2_with (first | ((with_reducible refine gate_dst (N := 2) rfl ?_); refine bE 2 #[.int .i64 0, .int .i64 0, .bool false] 23 ?_; intro gb804 hg w107 hbox hb; have BK804 := Aside0.mk (hbox); have GW804 := bG HB hg; have GE804 := bG HB hg; replace HB := bS HB hb; clear hb hbox hg; obtain ⟨hcz108_0, hcz108_1, hcz108_2, hfz108_0, hfz108_1, hfz108_2⟩ := bK3 (w := w107) BK804))
  refine bodyPost_ret (results_ct rfl _ _ gb804 23 #[.int .i64 0, .int .i64 0, .bool false] (0, 0) _ rfl (bU BK804) Tryd.underlying23 rfl (by kernel_rfl)) rfl ?_
  exact ⟨rR, bZ HB⟩
def impl_ReadCommittee.l0 : Nat → ByteArray → Int → List (S23) → Option ((List (S23)) × Bool)
 | 0, _, _, _ => none
 | k + 1, x0, x14, x817000 => if x14 < 8 then (if 0 ≤ (wrap64 (3 * x14)) then (if (wrap64 (3 * x14)) ≤ (wrap64 ((wrap64 (3 * x14)) + 3)) then (if (wrap64 ((wrap64 (3 * x14)) + 3)) ≤ (x0.size : Int) then ((impl_ReadPoint.f k (x0.extract ((wrap64 (3 * x14)) : Int).toNat ((wrap64 ((wrap64 (3 * x14)) + 3)) : Int).toNat)).bind fun bt817 => (if bt817.2.2.2 = true then (if x817000.length < 5864062014805 then (impl_ReadCommittee.l0 k x0 (wrap64 (x14 + 1)) (x817000 ++ [(⟨bt817.1, bt817.2.1, bt817.2.2.1⟩ : S23)])) else (none)) else (some (([] : List (S23)), false)))) else (none)) else (none)) else (none)) else ((impl_CommitteeText.f k x817000).bind fun bt825 => (if bt825.2 = true then (if bt825.1.toList = x0.toList then (some (x817000, true)) else (some (([] : List (S23)), false))) else (some (([] : List (S23)), false))))
def impl_ReadCommittee.f (k : Nat) (a0 : ByteArray) : Option ((List (S23)) × Bool) := if (a0.size : Int) = 27 then (impl_ReadCommittee.l0 k a0 0 ([] : List (S23))) else (some (([] : List (S23)), false))
set_option maxHeartbeats 8000000 in
set_option maxRecDepth 100000 in
theorem impl_ReadCommittee.calls (k : Nat) (a0 : ByteArray) (r1 : List (S23)) (r2 : Bool) (w : World) (h : impl_ReadCommittee.f k a0 = some (r1, r2)) :
  Calls Tryd.prog 29 #[.string a0] w fun e w' => ∃ v0_ : Value, e = .returned (.tuple #[.agg #[v0_], .bool r2]) ∧ Kd.R k23 23 w' w.heap.size (fun _ => True) v0_ r1 ∧ Below w.heap.size w w' := by
 have hu38 := Tryd.underlying38
 have hu23 := Tryd.underlying23
 have HB := Aside0.mk (Below.refl w.heap.size w)
 have H : (if (a0.size : Int) = 27 then (impl_ReadCommittee.l0 k a0 0 ([] : List (S23))) else (some (([] : List (S23)), false))) = some (r1, r2) := h
 clear h
 by_cases c2 : (a0.size : Int) = 27
 ·rw [if_pos c2] at H
  have c2b0 : ((a0.size : Int) == 27) = true := beq_iff_eq.mpr c2
  have c2b1 : ((a0.size : Int) != 27) = false := bne_eq_false_iff_eq.mpr c2
  clear c2
  have H' := Aside0.mk H
  clear H
  go_enter Tryd.func29, Tryd.ntmps29
  go_wp2_with (first | ((with_reducible refine gate_dst (N := 2) rfl ?_); refine bE 2 #[.slice none 0 0] 38 ?_; intro gb815 hg w3 hbox hb; have BK815 := Aside0.mk (hbox); have GW815 := bG HB hg; have GE815 := bG HB hg; replace HB := bS HB hb; clear hb hbox hg) | ((with_reducible refine gate_dst (N := 4) rfl ?_); refine bE 4 #[.slice none 0 0] 38 ?_; intro gb816 hg w4 hbox hb; have BK816 := Aside0.mk (hbox); have GW816 := bG HB hg; have GE816 := bG HB hg; replace HB := bS HB hb; have NB815_816 := bL BK815 hg; have NB816_815 := bR BK815 hg; replace BK815 := bB BK815 hb; clear hb hbox hg))
  go_loopg [14] k (fun kq v14 w' => ∃ (x14_1 : Int) (x817000_1 : List (S23)) (u817000 : Value), v14 = .int .i64 x14_1 ∧ Aside0 (impl_ReadCommittee.l0 kq a0 x14_1 x817000_1 = some (r1, r2)) ∧ Aside0 (kq ≤ k) ∧ Aside0 (Kd.R k23 23 w' w.heap.size (fun _ => True) u817000 x817000_1) ∧ Aside0 (w'.heap[gb815]? = some (.cells #[(.slice none 0 0)] 38 (0, 0))) ∧ Aside0 (w'.heap[gb816]? = some (.cells #[u817000] 38 (0, 0))) ∧ Aside0 (Below w.heap.size w w'))
  case atStart => exact ⟨(0), (([] : List (S23))), (.slice none 0 0), rS, H', ⟨Nat.le_refl _⟩, ⟨by first | exact Kd.R_nil _ _ _ _ _ | exact Kd.N_nil _ _ _ _ _ | exact Kd.V_nil _ _ _ _ _ | exact Kd.Q_nil _ _ _ _ _ | exact Kd.S_nil _ _ _ _ _⟩, ⟨bP BK815⟩, ⟨bP BK816⟩, ⟨bZ HB⟩⟩
  case round =>
   clear H'
   try clear c2
   try clear c2b0
   try clear c2b1
   try clear p2
   obtain ⟨x14_1, x817000_1, u817000, rfl, HA, HK1, HO_817000, BK815, BK816, HB⟩ := hrel
   cases gk with
   | zero => exact absurd HA.out (by simp [impl_ReadCommittee.l0])
   | succ k1 =>
    have H := HA.out
    clear HA
    simp only [impl_ReadCommittee.l0] at H
    by_cases c5 : x14_1 < 8
    ·rw [if_pos c5] at H
     have c5b0 : decide (x14_1 < 8) = true := decide_eq_true c5
     clear c5
     obtain ⟨ji6, hji6⟩ : ∃ j_ : Int, (wrap64 (3 * x14_1)) = j_ := ⟨_, rfl⟩
     replace H : (if 0 ≤ (ji6) then (if (ji6) ≤ (wrap64 ((ji6) + 3)) then (if (wrap64 ((ji6) + 3)) ≤ (a0.size : Int) then ((impl_ReadPoint.f k1 (a0.extract ((ji6) : Int).toNat ((wrap64 ((ji6) + 3)) : Int).toNat)).bind fun bt817 => (if bt817.2.2.2 = true then (if x817000_1.length < 5864062014805 then (impl_ReadCommittee.l0 k1 a0 (wrap64 (x14_1 + 1)) (x817000_1 ++ [(⟨bt817.1, bt817.2.1, bt817.2.2.1⟩ : S23)])) else (none)) else (some (([] : List (S23)), false)))) else (none)) else (none)) else (none)) = some (r1, r2) := by first | (rw [hji6] at H; exact H) | (simp only [hji6] at H ⊢; exact H)
     have hji6w : (IntKind.i64.wrap (3 * x14_1)) = ji6 := (i64_w _).trans hji6
     by_cases c7 : 0 ≤ (ji6)
     ·rw [if_pos c7] at H
      have c7b0 := eq_true c7
      have c7b1 : decide (0 ≤ (ji6)) = true := decide_eq_true c7
      clear c7
      by_cases c8 : (ji6) ≤ (wrap64 ((ji6) + 3))
      ·rw [if_pos c8] at H
       have c8b0 := eq_true c8
       have c8b1 : decide ((ji6) ≤ (wrap64 ((ji6) + 3))) = true := decide_eq_true c8
       by_cases c9 : (wrap64 ((ji6) + 3)) ≤ (a0.size : Int)
       ·rw [if_pos c9] at H
        have c9b0 := eq_true c9
        have c9b1 : decide ((wrap64 ((ji6) + 3)) ≤ (a0.size : Int)) = true := decide_eq_true c9
        replace H := Option.bind_eq_some_iff.mp H
        obtain ⟨⟨t817, t818, t819, t820⟩, A100, H⟩ := H
        have A10 := Aside0.mk A100
        clear A100
        by_cases c11 : t820 = true
        ·subst c11
         rw [if_pos rfl] at H
         by_cases c12 : x817000_1.length < 5864062014805
         ·rw [if_pos c12] at H
          have LMc12 := Aside0.mk c12
          clear c12
          obtain ⟨y822, hy822⟩ : ∃ y_ : List (S23), y_ = (x817000_1 ++ [(⟨t817, t818, t819⟩ : S23)]) := ⟨_, rfl⟩
          replace H : (impl_ReadCommittee.l0 k1 a0 (wrap64 (x14_1 + 1)) y822) = some (r1, r2) := by first | (rw [hy822]; with_reducible exact H) | (have H2_ := (Option.bind_some _ _).symm.trans H; rw [hy822]; with_reducible exact H2_) | (have H2_ := (Option.bind_some _ _).symm.trans H; with_reducible exact H2_) | with_reducible exact H | (rw [hy822]; exact H) | exact H
          have Ny822 := Aside0.mk hy822
          clear hy822
          have H' := Aside0.mk H
          clear H
          go_wp2_with (first | ((with_reducible refine gate_callee (f := 75) rfl ?_); refine goesL_ (some 25) rfl rfl Tryd.func75 (by kernel_rfl) rfl #[.string (a0.extract ((ji6) : Int).toNat ((wrap64 ((ji6) + 3)) : Int).toNat)] rfl (by (try simp only [List.map_toArray, List.map_cons, List.map_nil]); first | done | (simp only [hji6]; rfl) | rfl | (simp only [List.length_drop, List.length_take]; rfl)) ?_; (with_reducible refine (impl_ReadPoint.calls k1 (a0.extract ((ji6) : Int).toNat ((wrap64 ((ji6) + 3)) : Int).toNat) t817 t818 t819 true _ A10.out).mono ?_); rintro e w13 ⟨rfl, hb⟩; refine ⟨_, rfl, ?_⟩; replace HO_817000 := Aside0.mk (Kd.R_below (rP HO_817000) hb); replace BK815 := bB BK815 hb; replace BK816 := bB BK816 hb; replace HB := bS HB hb; (try clear hb)) | ((with_reducible refine gate_dst (N := 6) rfl ?_); refine bE 6 #[.int .i64 0, .int .i64 0, .bool false] 23 ?_; intro gb821 hg w14 hbox hb; replace HO_817000 := Aside0.mk (Kd.R_below (Kd.R_elderB (rP HO_817000) gb821 (Nat.le_of_eq hg.symm)) hb); have BK821 := Aside0.mk (hbox); have GW821 := bG HB hg; have GE821 := bG HB hg; replace HB := bS HB hb; have NB815_821 := bL BK815 hg; have NB821_815 := bR BK815 hg; replace BK815 := bB BK815 hb; have NB816_821 := bL BK816 hg; have NB821_816 := bR BK816 hg; replace BK816 := bB BK816 hb; clear hb hbox hg; have hnb15 := NB821_815.out; have hnc15 := NB815_821.out; have hnb16 := NB821_816.out; have hnc16 := NB816_821.out; obtain ⟨hcz17_0, hcz17_1, hcz17_2, hfz17_0, hfz17_1, hfz17_2⟩ := bK3 (w := w14) BK821; have hnb18 := NB816_815.out; have hnc18 := NB815_816.out; obtain ⟨hcz19_0, hfz19_0⟩ := bK1 (w := w14) BK816) | ((with_reducible refine gate_builtin (b := .append) (xs := #[.tmp 32, .tmp 34]) rfl ?_); at_builtin; refine Kd.R_append k23 (w0 := w) w.heap.size rfl (.tmp 32) (.tmp 34) 36 23 (.agg #[(.int .i64 0), (.int .i64 0), (.bool false)]) 24 rfl Tryd.underlying36 info23 rfl (by decide) (by omega) u817000 x817000_1 (⟨t817, t818, t819⟩ : S23) [.int .i64 t817, .int .i64 t818, .bool t819] (fun k_ => k_ ≠ gb821) (fun _ => False) rfl (by first | (go_simp; done) | (go_simp; rfl)) ?aP (fun _ hk => hk.elim) ?aF ?aO ?aB ?aS ?aL ?_; (case aP => exact k23_mkM _ _ _ (⟨t817, t818, t819⟩ : S23)); (case aB => exact (bZ HB)); (case aF => exact (fun k_ hk => Kd.freshB (g := gb821) (o := .cells #[.int .i64 t817, .int .i64 t818, .bool t819] 23 (0, 0)) (bU BK821) k_ hk)); (case aO => exact (by (with_reducible repeat (first | apply Kd.R_alloc | apply Kd.R_drewN | apply Kd.R_drew)); exact Kd.R_mono (Kd.R_far (p := ⟨gb821, 2, none⟩) (Kd.R_far (p := ⟨gb821, 1, none⟩) (Kd.R_far (p := ⟨gb821, 0, none⟩) (Kd.R_mono HO_817000.out (fun k_ hk => (⟨hk, hk.2⟩ : _ ∧ k_ ≠ gb821))) (fun _ hk => hk.2) (.int .i64 t817)) (fun _ hk => hk.2) (.int .i64 t818)) (fun _ hk => hk.2) (.bool t819)) (fun _ hk => hk.1.2))); (case aS => exact (below_size (bZ HB))); (case aL => have := LMc12.out; omega); intro v823 w20 ho hb hg hat; rw [← Ny822.out] at ho; replace BK815 := Aside0.mk (blk_grown (bP BK815) hg (Kd.R_ne HO_817000.out BK815.out (by decide))); replace BK816 := Aside0.mk (blk_grown (bP BK816) hg (Kd.R_ne HO_817000.out BK816.out (by decide))); replace BK821 := Aside0.mk (blk_grown (g := gb821) (o := .cells #[.int .i64 t817, .int .i64 t818, .bool t819] 23 (0, 0)) (bU BK821) hg (Kd.R_away HO_817000.out (fun _ hk => hk.2))); replace HB := Aside0.mk (hb); have HO824 := Aside0.mk (ho); clear HO_817000; clear ho hb hg hat; obtain ⟨Ao21, co21, eo21⟩ := Kd.R_slice HO824.out; subst eo21; obtain ⟨hcz22_0, hfz22_0⟩ := bK1 (w := w20) BK816))
          go_roundg k1
          case measure => have := HK1.out; omega
          case rel => exact ⟨(wrap64 (x14_1 + 1)), (y822), (.slice Ao21 y822.length co21), rS, H', ⟨by have := HK1.out; omega⟩, ⟨by (with_reducible repeat (first | apply Kd.R_alloc | apply Kd.R_drewN | apply Kd.R_drew)); exact Kd.R_mono (Kd.R_far (p := ⟨gb816, 0, none⟩) (Kd.R_types HO824.out BK816.out (by decide)) (fun _ hk => hk.2) (.slice Ao21 y822.length co21)) (fun _ hk => trivial)⟩, ⟨bP BK815⟩, ⟨bU BK816⟩, ⟨bZ HB⟩⟩
         ·rw [if_neg c12] at H
          exact absurd H (by simp)
        ·replace c11 := Bool.eq_false_iff.mpr c11
         subst c11
         rw [if_neg (show ¬ (false = true) by decide)] at H
         simp only [Option.some.injEq, Prod.mk.injEq] at H
         obtain ⟨rfl, rfl⟩ := H
         go_wp2_with (first | ((with_reducible refine gate_callee (f := 75) rfl ?_); refine goesL_ (some 25) rfl rfl Tryd.func75 (by kernel_rfl) rfl #[.string (a0.extract ((ji6) : Int).toNat ((wrap64 ((ji6) + 3)) : Int).toNat)] rfl (by (try simp only [List.map_toArray, List.map_cons, List.map_nil]); first | done | (simp only [hji6]; rfl) | rfl | (simp only [List.length_drop, List.length_take]; rfl)) ?_; (with_reducible refine (impl_ReadPoint.calls k1 (a0.extract ((ji6) : Int).toNat ((wrap64 ((ji6) + 3)) : Int).toNat) t817 t818 t819 false _ A10.out).mono ?_); rintro e w23 ⟨rfl, hb⟩; refine ⟨_, rfl, ?_⟩; replace HO_817000 := Aside0.mk (Kd.R_below (rP HO_817000) hb); replace BK815 := bB BK815 hb; replace BK816 := bB BK816 hb; replace HB := bS HB hb; (try clear hb)) | ((with_reducible refine gate_dst (N := 6) rfl ?_); refine bE 6 #[.int .i64 0, .int .i64 0, .bool false] 23 ?_; intro gb821 hg w24 hbox hb; replace HO_817000 := Aside0.mk (Kd.R_below (Kd.R_elderB (rP HO_817000) gb821 (Nat.le_of_eq hg.symm)) hb); have BK821 := Aside0.mk (hbox); have GW821 := bG HB hg; have GE821 := bG HB hg; replace HB := bS HB hb; have NB815_821 := bL BK815 hg; have NB821_815 := bR BK815 hg; replace BK815 := bB BK815 hb; have NB816_821 := bL BK816 hg; have NB821_816 := bR BK816 hg; replace BK816 := bB BK816 hb; clear hb hbox hg; have hnb25 := NB821_815.out; have hnc25 := NB815_821.out; have hnb26 := NB821_816.out; have hnc26 := NB816_821.out; obtain ⟨hcz27_0, hcz27_1, hcz27_2, hfz27_0, hfz27_1, hfz27_2⟩ := bK3 (w := w24) BK821; have hnb28 := NB815_816.out; have hnc28 := NB816_815.out; obtain ⟨hcz29_0, hfz29_0⟩ := bK1 (w := w24) BK815))
         refine bodyPost_ret (results_ct rfl _ _ gb815 38 #[.slice none 0 0] (0, 0) _ rfl (bU BK815) Tryd.underlying38 rfl (by kernel_rfl)) rfl ?_
         exact ⟨_, by first | rfl | (simp [errW_none, errW_some] <;> rfl) | (simp only [← hji6]; first | rfl | (simp [errW_none, errW_some] <;> rfl)) | (simp [*, errW_none, errW_some] <;> rfl), by first | exact Kd.R_nil _ _ _ _ _ | exact Kd.N_nil _ _ _ _ _ | exact Kd.V_nil _ _ _ _ _ | exact Kd.Q_nil _ _ _ _ _ | exact Kd.S_nil _ _ _ _ _, bZ HB⟩
       ·rw [if_neg c9] at H
        exact absurd H (by simp)
      ·rw [if_neg c8] at H
       exact absurd H (by simp)
     ·rw [if_neg c7] at H
      exact absurd H (by simp)
    ·rw [if_neg c5] at H
     have c5b0 : decide (x14_1 < 8) = false := decide_eq_false c5
     clear c5
     replace H := Option.bind_eq_some_iff.mp H
     obtain ⟨⟨t825, t826⟩, A300, H⟩ := H
     have A30 := Aside0.mk A300
     clear A300
     by_cases c31 : t826 = true
     ·subst c31
      rw [if_pos rfl] at H
      by_cases c32 : t825.toList = a0.toList
      ·rw [if_pos c32] at H
       have c32b0 : (t825.toList == a0.toList) = true := beq_iff_eq.mpr c32
       have c32b1 : (t825.toList != a0.toList) = false := bne_eq_false_iff_eq.mpr c32
       clear c32
       simp only [Option.some.injEq, Prod.mk.injEq] at H
       obtain ⟨rfl, rfl⟩ := H
       have hnb33 := NB816_815.out
       have hnc33 := NB815_816.out
       obtain ⟨hcz34_0, hfz34_0⟩ := bK1 (w := wr) BK816
       obtain ⟨Ao35, co35, eo35⟩ := Kd.R_slice HO_817000.out
       subst eo35
       go_wp2_with (first | ((with_reducible refine gate_callee (f := 28) rfl ?_); refine gL (some 40) Tryd.func28 #[.agg #[.slice Ao35 x817000_1.length co35]] ?_; (with_reducible refine (impl_CommitteeText.calls k1 _ _ x817000_1 t825 true _ ?side1 ?side2 A30.out).mono ?_); (case side1 => exact cP ((Kd.R_reads' HO_817000.out).2.2)); (case side2 => exact (Kd.R_reads' HO_817000.out).2.1); rintro e w36 ⟨rfl, hb⟩; refine ⟨_, rfl, ?_⟩; replace HO_817000 := Aside0.mk (Kd.R_below (rP HO_817000) hb); replace BK815 := bB BK815 hb; replace BK816 := bB BK816 hb; replace HB := bS HB hb; (try clear hb); obtain ⟨hcz37_0, hfz37_0⟩ := bK1 (w := w36) BK816; obtain ⟨hcz38_0, hfz38_0⟩ := bK1 (w := w36) BK815))
       refine bodyPost_ret (results_ct rfl _ _ gb815 38 #[.slice Ao35 x817000_1.length co35] (0, 0) _ rfl (bU BK815) Tryd.underlying38 rfl (by kernel_rfl)) rfl ?_
       exact ⟨_, by first | rfl | (simp [errW_none, errW_some] <;> rfl) | (simp [*, errW_none, errW_some] <;> rfl), by (with_reducible repeat (first | apply Kd.R_alloc | apply Kd.R_drewN | apply Kd.R_drew)); exact Kd.R_mono (Kd.R_far (p := ⟨gb815, 0, none⟩) (Kd.R_types HO_817000.out BK815.out (by decide)) (fun _ hk => hk.2) (.slice Ao35 x817000_1.length co35)) (fun _ hk => trivial), bZ HB⟩
      ·rw [if_neg c32] at H
       have c32b0 : (t825.toList == a0.toList) = false := beq_eq_false_iff_ne.mpr c32
       have c32b1 : (t825.toList != a0.toList) = true := bne_iff_ne.mpr c32
       simp only [Option.some.injEq, Prod.mk.injEq] at H
       obtain ⟨rfl, rfl⟩ := H
       have hnb39 := NB816_815.out
       have hnc39 := NB815_816.out
       obtain ⟨hcz40_0, hfz40_0⟩ := bK1 (w := wr) BK816
       obtain ⟨Ao41, co41, eo41⟩ := Kd.R_slice HO_817000.out
       subst eo41
       go_wp2_with (first | ((with_reducible refine gate_callee (f := 28) rfl ?_); refine gL (some 40) Tryd.func28 #[.agg #[.slice Ao41 x817000_1.length co41]] ?_; (with_reducible refine (impl_CommitteeText.calls k1 _ _ x817000_1 t825 true _ ?side1 ?side2 A30.out).mono ?_); (case side1 => exact cP ((Kd.R_reads' HO_817000.out).2.2)); (case side2 => exact (Kd.R_reads' HO_817000.out).2.1); rintro e w42 ⟨rfl, hb⟩; refine ⟨_, rfl, ?_⟩; replace HO_817000 := Aside0.mk (Kd.R_below (rP HO_817000) hb); replace BK815 := bB BK815 hb; replace BK816 := bB BK816 hb; replace HB := bS HB hb; (try clear hb); obtain ⟨hcz43_0, hfz43_0⟩ := bK1 (w := w42) BK815))
       refine bodyPost_ret (results_ct rfl _ _ gb815 38 #[.slice none 0 0] (0, 0) _ rfl (bU BK815) Tryd.underlying38 rfl (by kernel_rfl)) rfl ?_
       exact ⟨_, by first | rfl | (simp [errW_none, errW_some] <;> rfl) | (simp [*, errW_none, errW_some] <;> rfl), by first | exact Kd.R_nil _ _ _ _ _ | exact Kd.N_nil _ _ _ _ _ | exact Kd.V_nil _ _ _ _ _ | exact Kd.Q_nil _ _ _ _ _ | exact Kd.S_nil _ _ _ _ _, bZ HB⟩
     ·replace c31 := Bool.eq_false_iff.mpr c31
      subst c31
      rw [if_neg (show ¬ (false = true) by decide)] at H
      simp only [Option.some.injEq, Prod.mk.injEq] at H
      obtain ⟨rfl, rfl⟩ := H
      have hnb44 := NB816_815.out
      have hnc44 := NB815_816.out
      obtain ⟨hcz45_0, hfz45_0⟩ := bK1 (w := wr) BK816
      obtain ⟨Ao46, co46, eo46⟩ := Kd.R_slice HO_817000.out
      subst eo46
      go_wp2_with (first | ((with_reducible refine gate_callee (f := 28) rfl ?_); refine gL (some 40) Tryd.func28 #[.agg #[.slice Ao46 x817000_1.length co46]] ?_; (with_reducible refine (impl_CommitteeText.calls k1 _ _ x817000_1 t825 false _ ?side1 ?side2 A30.out).mono ?_); (case side1 => exact cP ((Kd.R_reads' HO_817000.out).2.2)); (case side2 => exact (Kd.R_reads' HO_817000.out).2.1); rintro e w47 ⟨rfl, hb⟩; refine ⟨_, rfl, ?_⟩; replace HO_817000 := Aside0.mk (Kd.R_below (rP HO_817000) hb); replace BK815 := bB BK815 hb; replace BK816 := bB BK816 hb; replace HB := bS HB hb; (try clear hb); obtain ⟨hcz48_0, hfz48_0⟩ := bK1 (w := w47) BK815))
      refine bodyPost_ret (results_ct rfl _ _ gb815 38 #[.slice none 0 0] (0, 0) _ rfl (bU BK815) Tryd.underlying38 rfl (by kernel_rfl)) rfl ?_
      exact ⟨_, by first | rfl | (simp [errW_none, errW_some] <;> rfl) | (simp [*, errW_none, errW_some] <;> rfl), by first | exact Kd.R_nil _ _ _ _ _ | exact Kd.N_nil _ _ _ _ _ | exact Kd.V_nil _ _ _ _ _ | exact Kd.Q_nil _ _ _ _ _ | exact Kd.S_nil _ _ _ _ _, bZ HB⟩
 ·rw [if_neg c2] at H
  have c2b0 : ((a0.size : Int) == 27) = false := beq_eq_false_iff_ne.mpr c2
  have c2b1 : ((a0.size : Int) != 27) = true := bne_iff_ne.mpr c2
  simp only [Option.some.injEq, Prod.mk.injEq] at H
  obtain ⟨rfl, rfl⟩ := H
  go_enter Tryd.func29, Tryd.ntmps29
  go_wp2_with (first | ((with_reducible refine gate_dst (N := 2) rfl ?_); refine bE 2 #[.slice none 0 0] 38 ?_; intro gb815 hg w49 hbox hb; have BK815 := Aside0.mk (hbox); have GW815 := bG HB hg; have GE815 := bG HB hg; replace HB := bS HB hb; clear hb hbox hg; obtain ⟨hcz50_0, hfz50_0⟩ := bK1 (w := w49) BK815))
  refine bodyPost_ret (results_ct rfl _ _ gb815 38 #[.slice none 0 0] (0, 0) _ rfl (bU BK815) Tryd.underlying38 rfl (by kernel_rfl)) rfl ?_
  exact ⟨_, by first | rfl | (simp [errW_none, errW_some] <;> rfl) | (simp [*, errW_none, errW_some] <;> rfl), by first | exact Kd.R_nil _ _ _ _ _ | exact Kd.N_nil _ _ _ _ _ | exact Kd.V_nil _ _ _ _ _ | exact Kd.Q_nil _ _ _ _ _ | exact Kd.S_nil _ _ _ _ _, bZ HB⟩
end Go.Proofs.YtkdmplfldfagnaaDoor.Pf
end
section
namespace Go.Proofs.YtkdmplfldfagnaaDoor.Pf
open Go.RowKit Go.Proofs.YtkdmplfldfagnaaDoorW.PrintWords Go.Proofs.YtkdmplfldfagnaaDoorW.PrintLast Go.Proofs.YtkdmplfldfagnaaDoorW.PrintMore
attribute [local go_sem] max2_int min2_int max_two min_two max_three min_three max_four min_four   -- for this text's walks alone
set_option linter.unusedVariables false
set_option linter.unusedSimpArgs false
mutual
def impl_Joined.j0 : Nat → Int → Bool → List (S23) → Option ((List (S23)))
 | 0, _, _, _ => none
 | k + 1, x1, x15, x828000 => if x15 = true then (some ([] : List (S23))) else (impl_Joined.l0 k x1 ([] : List (S23)) x828000 (x828000.length : Int) 0)
def impl_Joined.l0 : Nat → Int → List (S23) → List (S23) → Int → Int → Option ((List (S23)))
 | 0, _, _, _, _, _ => none
 | k + 1, x1, x5, x17, x18, x19 => if x19 < x18 then (if 0 ≤ x19 then (if x19 < (x17.length : Int) then (if 0 ≤ (IntKind.u64.wrap (x19)) then (if (Go.bits .and .i64 (shr .i64 x1 (IntKind.u64.wrap (x19))) 1) = 1 then (if x5.length < 5864062014805 then (impl_Joined.l0 k x1 (x5 ++ [(⟨(rd_T23 x17 x19).f0, (rd_T23 x17 x19).f1, (rd_T23 x17 x19).f2⟩ : S23)]) x17 x18 (wrap64 (x19 + 1))) else (none)) else (impl_Joined.l0 k x1 x5 x17 x18 (wrap64 (x19 + 1)))) else (none)) else (none)) else (none)) else (some x5)
end
def impl_Joined.f (k : Nat) (l0_0 : List (S23)) (a1 : Int) : Option ((List (S23))) := (impl_isBits.f a1).bind fun t828 => (if t828 = true then ((impl_CommitteeOk.f k l0_0).bind fun t829 => (impl_Joined.j0 k a1 (!t829) l0_0)) else (impl_Joined.j0 k a1 true l0_0))
set_option maxHeartbeats 8000000 in
set_option maxRecDepth 100000 in
theorem impl_Joined.calls (k : Nat) (A0_0 : Option Addr) (c0_0 : Nat) (l0_0 : List (S23)) (a1 : Int) (r : List (S23)) (w : World) (hr0_0 : Kd.C k23 w A0_0 l0_0.length l0_0) (hc0_0 : l0_0.length ≤ c0_0) (h : impl_Joined.f k l0_0 a1 = some r) :
  Calls Tryd.prog 30 #[.agg #[.slice A0_0 l0_0.length c0_0], .int .i64 a1] w fun e w' => ∃ v0_ : Value, e = .returned (v0_) ∧ Kd.R k23 23 w' w.heap.size (fun _ => True) v0_ r ∧ Below w.heap.size w w' := by
 have hu38 := Tryd.underlying38
 have hu23 := Tryd.underlying23
 have HR0_0 := Aside0.mk hr0_0
 have HC0_0 := Aside0.mk hc0_0
 clear hr0_0 hc0_0
 have HB := Aside0.mk (Below.refl w.heap.size w)
 have H : ((impl_isBits.f a1).bind fun t828 => (if t828 = true then ((impl_CommitteeOk.f k l0_0).bind fun t829 => (impl_Joined.j0 k a1 (!t829) l0_0)) else (impl_Joined.j0 k a1 true l0_0))) = some r := h
 clear h
 have HC3 := Aside0.mk H
 clear H
 go_enter Tryd.func30, Tryd.ntmps30
 go_upto_region 1 with (first | ((with_reducible refine gate_dst (N := 2) rfl ?_); refine bE 2 #[.slice A0_0 l0_0.length c0_0] 38 ?_; intro gb827 hg w4 hbox hb; have BK827 := Aside0.mk (hbox); have GW827 := bG HB hg; have GE827 := bG HB hg; replace HB := bS HB hb; clear hb hbox hg))
 (try simp only [Act.put, List.setIfInBounds_toArray, List.set_cons_zero, List.set_cons_succ])
 go_cut [15] (fun v15 wc => ∃ (kq : Nat) (x15_2 : Bool), v15 = .bool x15_2 ∧ Aside0 (impl_Joined.j0 kq a1 x15_2 l0_0 = some r) ∧ Aside0 (kq ≤ k) ∧ Aside0 (wc.heap[gb827]? = some (.cells #[(.slice A0_0 l0_0.length c0_0)] 38 (0, 0))) ∧ Aside0 (Below w.heap.size w wc))
 case first =>
  have H := HC3.out
  clear HC3
  replace H := Option.bind_eq_some_iff.mp H
  obtain ⟨t828, A50, H⟩ := H
  have A5 := Aside0.mk A50
  clear A50
  by_cases c6 : t828 = true
  ·subst c6
   rw [if_pos rfl] at H
   replace H := Option.bind_eq_some_iff.mp H
   obtain ⟨t829, A70, H⟩ := H
   have A7 := Aside0.mk A70
   clear A70
   have H' := Aside0.mk H
   clear H
   go_wp2_with (first | ((with_reducible refine gate_callee (f := 58) rfl ?_); refine gL (some 9) Tryd.func58 #[.int .i64 a1] ?_; (with_reducible refine (impl_isBits.calls a1 true _ A5.out).mono ?_); rintro e w' ⟨rfl, ⟨nd, rfl⟩⟩; refine ⟨_, rfl, ?_⟩; obtain ⟨hcz8_0, hfz8_0⟩ := bK1 (w := w4) BK827) | (go_at_call 33; (with_reducible refine (impl_CommitteeOk.calls k _ _ l0_0 t829 _ ?side1 ?side2 A7.out).mono ?_); (case side1 => exact cP (Kd.C_below HR0_0.out (bZ HB))); (case side2 => exact HC0_0.out); rintro e w9 ⟨rfl, hb⟩; replace BK827 := bB BK827 hb; replace HB := bS HB hb; (try clear hb)))
   go_meet
   case rel => exact ⟨_, (!t829), rS, H', ⟨by first | omega | exact Nat.le_refl _⟩, ⟨bP BK827⟩, ⟨bZ HB⟩⟩
  ·replace c6 := Bool.eq_false_iff.mpr c6
   subst c6
   rw [if_neg (show ¬ (false = true) by decide)] at H
   have H' := Aside0.mk H
   clear H
   go_wp2_with (first | ((with_reducible refine gate_callee (f := 58) rfl ?_); refine gL (some 9) Tryd.func58 #[.int .i64 a1] ?_; (with_reducible refine (impl_isBits.calls a1 false _ A5.out).mono ?_); rintro e w' ⟨rfl, ⟨nd, rfl⟩⟩; refine ⟨_, rfl, ?_⟩))
   go_meet
   case rel => exact ⟨_, (true), rS, H', ⟨by first | omega | exact Nat.le_refl _⟩, ⟨bP BK827⟩, ⟨bZ HB⟩⟩
 case rest =>
  clear HC3
  try clear p2
  try clear c3
  try clear c5
  try clear c6
  try clear hcz8_0
  try clear hfz8_0
  obtain ⟨kq, x15_2, rfl, HA, HJ2, BK827, HB⟩ := hcut
  cases kq with
  | zero => exact absurd HA.out (by simp [impl_Joined.j0])
  | succ kj2 =>
   have H := HA.out
   clear HA
   simp only [impl_Joined.j0] at H
   by_cases c10 : x15_2 = true
   ·subst c10
    rw [if_pos rfl] at H
    obtain rfl := Option.some.inj H
    go_wp2
    go_ret
    exact ⟨_, by first | rfl | (simp [errW_none, errW_some] <;> rfl) | (simp [*, errW_none, errW_some] <;> rfl), by first | exact Kd.R_nil _ _ _ _ _ | exact Kd.N_nil _ _ _ _ _ | exact Kd.V_nil _ _ _ _ _ | exact Kd.Q_nil _ _ _ _ _ | exact Kd.S_nil _ _ _ _ _, bZ HB⟩
   ·replace c10 := Bool.eq_false_iff.mpr c10
    subst c10
    rw [if_neg (show ¬ (false = true) by decide)] at H
    have H' := Aside0.mk H
    clear H
    obtain ⟨hcz11_0, hfz11_0⟩ := bK1 (w := wc) BK827
    go_wp2
    go_loopg [5, 19] kj2 (fun kq v5 v19 w' => ∃ (x5_2 : List (S23)) (x19_2 : Int), v19 = .int .i64 x19_2 ∧ Aside0 (impl_Joined.l0 kq a1 x5_2 l0_0 (l0_0.length : Int) x19_2 = some r) ∧ Aside0 (kq ≤ kj2) ∧ Aside0 (Kd.R k23 23 w' w.heap.size (fun _ => True) v5 x5_2) ∧ Aside0 (w'.heap[gb827]? = some (.cells #[(.slice A0_0 l0_0.length c0_0)] 38 (0, 0))) ∧ Aside0 (Below w.heap.size w w'))
    case atStart => exact ⟨(([] : List (S23))), (0), rS, H', ⟨Nat.le_refl _⟩, ⟨by first | exact Kd.R_nil _ _ _ _ _ | exact Kd.N_nil _ _ _ _ _ | exact Kd.V_nil _ _ _ _ _ | exact Kd.Q_nil _ _ _ _ _ | exact Kd.S_nil _ _ _ _ _⟩, ⟨bP BK827⟩, ⟨bZ HB⟩⟩
    case round =>
     clear H'
     try clear c1
     try clear p2
     try clear c3
     try clear c5
     try clear c6
     try clear c10
     try clear hcz11_0
     try clear hcz8_0
     try clear hfz11_0
     try clear hfz8_0
     try clear p2
     obtain ⟨x5_2, x19_2, rfl, HA, HK2, HO_5, BK827, HB⟩ := hrel
     cases gk with
     | zero => exact absurd HA.out (by simp [impl_Joined.l0])
     | succ k2 =>
      have H := HA.out
      clear HA
      simp only [impl_Joined.l0] at H
      by_cases c12 : x19_2 < (l0_0.length : Int)
      ·rw [if_pos c12] at H
       have c12b0 : decide (x19_2 < (l0_0.length : Int)) = true := decide_eq_true c12
       clear c12
       by_cases c13 : 0 ≤ x19_2
       ·rw [if_pos c13] at H
        have c13b0 : decide (0 ≤ x19_2) = true := decide_eq_true c13
        clear c13
        by_cases c14 : x19_2 < (l0_0.length : Int)
        ·rw [if_pos c14] at H
         have c14b0 : decide (x19_2 < (l0_0.length : Int)) = true := decide_eq_true c14
         clear c14
         obtain ⟨ji15, hji15⟩ : ∃ j_ : Int, (IntKind.u64.wrap (x19_2)) = j_ := ⟨_, rfl⟩
         replace H : (if 0 ≤ (ji15) then (if (Go.bits .and .i64 (shr .i64 a1 (ji15)) 1) = 1 then (if x5_2.length < 5864062014805 then (impl_Joined.l0 k2 a1 (x5_2 ++ [(⟨(rd_T23 l0_0 x19_2).f0, (rd_T23 l0_0 x19_2).f1, (rd_T23 l0_0 x19_2).f2⟩ : S23)]) l0_0 (l0_0.length : Int) (wrap64 (x19_2 + 1))) else (none)) else (impl_Joined.l0 k2 a1 x5_2 l0_0 (l0_0.length : Int) (wrap64 (x19_2 + 1)))) else (none)) = some r := by first | (rw [hji15] at H; exact H) | (simp only [hji15] at H ⊢; exact H)
         by_cases c16 : 0 ≤ (ji15)
         ·rw [if_pos c16] at H
          have c16b0 := eq_true c16
          have c16b1 : decide (0 ≤ (ji15)) = true := decide_eq_true c16
          clear c16
          obtain ⟨ji17, hji17⟩ : ∃ j_ : Int, (shr .i64 a1 (ji15)) = j_ := ⟨_, rfl⟩
          replace H : (if (Go.bits .and .i64 (ji17) 1) = 1 then (if x5_2.length < 5864062014805 then (impl_Joined.l0 k2 a1 (x5_2 ++ [(⟨(rd_T23 l0_0 x19_2).f0, (rd_T23 l0_0 x19_2).f1, (rd_T23 l0_0 x19_2).f2⟩ : S23)]) l0_0 (l0_0.length : Int) (wrap64 (x19_2 + 1))) else (none)) else (impl_Joined.l0 k2 a1 x5_2 l0_0 (l0_0.length : Int) (wrap64 (x19_2 + 1)))) = some r := by first | (rw [hji17] at H; exact H) | (simp only [hji17] at H ⊢; exact H)
          have hji17_ : (a1 / 2 ^ min (ji15).toNat 64) = ji17 := hji17
          have hji17z : (ji15) ≤ 64 → (a1 / 2 ^ (ji15).toNat) = ji17 := shr_small hji17
          by_cases c18 : (Go.bits .and .i64 (ji17) 1) = 1
          ·rw [if_pos c18] at H
           have c18b0 : ((Go.bits .and .i64 (ji17) 1) == 1) = true := beq_iff_eq.mpr c18
           have c18b1 : ((Go.bits .and .i64 (ji17) 1) != 1) = false := bne_eq_false_iff_eq.mpr c18
           clear c18
           by_cases c19 : x5_2.length < 5864062014805
           ·rw [if_pos c19] at H
            have LMc19 := Aside0.mk c19
            clear c19
            obtain ⟨y832, hy832⟩ : ∃ y_ : List (S23), y_ = (x5_2 ++ [(⟨(rd_T23 l0_0 x19_2).f0, (rd_T23 l0_0 x19_2).f1, (rd_T23 l0_0 x19_2).f2⟩ : S23)]) := ⟨_, rfl⟩
            replace H : (impl_Joined.l0 k2 a1 y832 l0_0 (l0_0.length : Int) (wrap64 (x19_2 + 1))) = some r := by first | (rw [hy832]; with_reducible exact H) | (have H2_ := (Option.bind_some _ _).symm.trans H; rw [hy832]; with_reducible exact H2_) | (have H2_ := (Option.bind_some _ _).symm.trans H; with_reducible exact H2_) | with_reducible exact H | (rw [hy832]; exact H) | exact H
            have Ny832 := Aside0.mk hy832
            clear hy832
            have H' := Aside0.mk H
            clear H
            have p830 : 0 ≤ (x19_2 : Int) := of_decide_eq_true (by first | (with_reducible assumption) | assumption)
            have q830 : x19_2 < (l0_0.length : Int) := of_decide_eq_true (by first | (with_reducible assumption) | assumption)
            obtain ⟨ad830, e830, hx830_0, hx830_1, hx830_2⟩ := at_T23 HR0_0.out x19_2 p830 q830
            cases e830
            replace hx830_0 := (HB.out.cell (World.block_lt_of_cell? w _ hx830_0)).trans hx830_0
            replace hx830_1 := (HB.out.cell (World.block_lt_of_cell? w _ hx830_1)).trans hx830_1
            replace hx830_2 := (HB.out.cell (World.block_lt_of_cell? w _ hx830_2)).trans hx830_2
            replace p830 := eq_true p830
            replace q830 := eq_true q830
            go_wp2_with (first | ((with_reducible refine gate_dst (N := 7) rfl ?_); refine bE 7 #[.int .i64 0, .int .i64 0, .bool false] 23 ?_; intro gb831 hg w20 hbox hb; replace HO_5 := Aside0.mk (Kd.R_below (Kd.R_elderB (rP HO_5) gb831 (Nat.le_of_eq hg.symm)) hb); have BK831 := Aside0.mk (hbox); have GW831 := bG HB hg; have GE831 := bG HB hg; replace HB := bS HB hb; have NB827_831 := bL BK827 hg; have NB831_827 := bR BK827 hg; replace BK827 := bB BK827 hb; clear hb hbox hg; have hnb21 := NB831_827.out; have hnc21 := NB827_831.out; obtain ⟨hcz22_0, hcz22_1, hcz22_2, hfz22_0, hfz22_1, hfz22_2⟩ := bK3 (w := w20) BK831) | ((with_reducible refine gate_builtin (b := .append) (xs := #[.tmp 30, .tmp 32]) rfl ?_); at_builtin; refine Kd.R_append k23 (w0 := w) w.heap.size rfl (.tmp 30) (.tmp 32) 36 23 (.agg #[(.int .i64 0), (.int .i64 0), (.bool false)]) 24 rfl Tryd.underlying36 info23 rfl (by decide) (by omega) u5 x5_2 (⟨(rd_T23 l0_0 x19_2).f0, (rd_T23 l0_0 x19_2).f1, (rd_T23 l0_0 x19_2).f2⟩ : S23) [.int .i64 ((rd_T23 l0_0 x19_2).f0), .int .i64 ((rd_T23 l0_0 x19_2).f1), .bool ((rd_T23 l0_0 x19_2).f2)] (fun k_ => k_ ≠ gb831) (fun _ => False) rfl (by first | (go_simp; done) | (go_simp; rfl)) ?aP (fun _ hk => hk.elim) ?aF ?aO ?aB ?aS ?aL ?_; (case aP => exact k23_mkM _ _ _ (⟨(rd_T23 l0_0 x19_2).f0, (rd_T23 l0_0 x19_2).f1, (rd_T23 l0_0 x19_2).f2⟩ : S23)); (case aB => exact (bZ HB)); (case aF => exact (fun k_ hk => Kd.freshB (g := gb831) (o := .cells #[.int .i64 ((rd_T23 l0_0 x19_2).f0), .int .i64 ((rd_T23 l0_0 x19_2).f1), .bool ((rd_T23 l0_0 x19_2).f2)] 23 (0, 0)) (bU BK831) k_ hk)); (case aO => exact (by (with_reducible repeat (first | apply Kd.R_alloc | apply Kd.R_drewN | apply Kd.R_drew)); exact Kd.R_mono (Kd.R_far (p := ⟨gb831, 2, none⟩) (Kd.R_far (p := ⟨gb831, 1, none⟩) (Kd.R_far (p := ⟨gb831, 0, none⟩) (Kd.R_mono HO_5.out (fun k_ hk => (⟨hk, hk.2⟩ : _ ∧ k_ ≠ gb831))) (fun _ hk => hk.2) (.int .i64 ((rd_T23 l0_0 x19_2).f0))) (fun _ hk => hk.2) (.int .i64 ((rd_T23 l0_0 x19_2).f1))) (fun _ hk => hk.2) (.bool ((rd_T23 l0_0 x19_2).f2))) (fun _ hk => hk.1.2))); (case aS => exact (below_size (bZ HB))); (case aL => have := LMc19.out; omega); intro v833 w23 ho hb hg hat; rw [← Ny832.out] at ho; replace BK827 := Aside0.mk (blk_grown (bP BK827) hg (Kd.R_ne HO_5.out BK827.out (by decide))); replace BK831 := Aside0.mk (blk_grown (g := gb831) (o := .cells #[.int .i64 ((rd_T23 l0_0 x19_2).f0), .int .i64 ((rd_T23 l0_0 x19_2).f1), .bool ((rd_T23 l0_0 x19_2).f2)] 23 (0, 0)) (bU BK831) hg (Kd.R_away HO_5.out (fun _ hk => hk.2))); replace HB := Aside0.mk (hb); have HO834 := Aside0.mk (ho); clear HO_5; clear ho hb hg hat))
            go_roundg k2
            case measure => have := HJ2.out; have := HK2.out; omega
            case rel => exact ⟨(y832), (wrap64 (x19_2 + 1)), rS, H', ⟨by have := HJ2.out; have := HK2.out; omega⟩, ⟨by (with_reducible repeat (first | apply Kd.R_alloc | apply Kd.R_drewN | apply Kd.R_drew)); exact Kd.R_mono HO834.out (fun _ hk => trivial)⟩, ⟨bP BK827⟩, ⟨bZ HB⟩⟩
           ·rw [if_neg c19] at H
            exact absurd H (by simp)
          ·rw [if_neg c18] at H
           have c18b0 : ((Go.bits .and .i64 (ji17) 1) == 1) = false := beq_eq_false_iff_ne.mpr c18
           have c18b1 : ((Go.bits .and .i64 (ji17) 1) != 1) = true := bne_iff_ne.mpr c18
           have H' := Aside0.mk H
           clear H
           have p830 : 0 ≤ (x19_2 : Int) := of_decide_eq_true (by first | (with_reducible assumption) | assumption)
           have q830 : x19_2 < (l0_0.length : Int) := of_decide_eq_true (by first | (with_reducible assumption) | assumption)
           obtain ⟨ad830, e830, hx830_0, hx830_1, hx830_2⟩ := at_T23 HR0_0.out x19_2 p830 q830
           cases e830
           replace hx830_0 := (HB.out.cell (World.block_lt_of_cell? w _ hx830_0)).trans hx830_0
           replace hx830_1 := (HB.out.cell (World.block_lt_of_cell? w _ hx830_1)).trans hx830_1
           replace hx830_2 := (HB.out.cell (World.block_lt_of_cell? w _ hx830_2)).trans hx830_2
           replace p830 := eq_true p830
           replace q830 := eq_true q830
           go_wp2_with (first | ((with_reducible refine gate_dst (N := 7) rfl ?_); refine bE 7 #[.int .i64 0, .int .i64 0, .bool false] 23 ?_; intro gb831 hg w24 hbox hb; replace HO_5 := Aside0.mk (Kd.R_below (Kd.R_elderB (rP HO_5) gb831 (Nat.le_of_eq hg.symm)) hb); have BK831 := Aside0.mk (hbox); have GW831 := bG HB hg; have GE831 := bG HB hg; replace HB := bS HB hb; have NB827_831 := bL BK827 hg; have NB831_827 := bR BK827 hg; replace BK827 := bB BK827 hb; clear hb hbox hg; have hnb25 := NB831_827.out; have hnc25 := NB827_831.out; obtain ⟨hcz26_0, hcz26_1, hcz26_2, hfz26_0, hfz26_1, hfz26_2⟩ := bK3 (w := w24) BK831))
           go_roundg k2
           case measure => have := HJ2.out; have := HK2.out; omega
           case rel => exact ⟨(x5_2), (wrap64 (x19_2 + 1)), rS, H', ⟨by have := HJ2.out; have := HK2.out; omega⟩, ⟨by (with_reducible repeat (first | apply Kd.R_alloc | apply Kd.R_drewN | apply Kd.R_drew)); exact Kd.R_mono (Kd.R_far (p := ⟨gb831, 2, none⟩) (Kd.R_far (p := ⟨gb831, 1, none⟩) (Kd.R_far (p := ⟨gb831, 0, none⟩) (Kd.R_mono HO_5.out (fun k_ hk => (⟨hk, hk.2⟩ : _ ∧ k_ ≠ gb831))) (fun _ hk => hk.2) (.int .i64 ((rd_T23 l0_0 x19_2).f0))) (fun _ hk => hk.2) (.int .i64 ((rd_T23 l0_0 x19_2).f1))) (fun _ hk => hk.2) (.bool ((rd_T23 l0_0 x19_2).f2))) (fun _ hk => trivial)⟩, ⟨bP BK827⟩, ⟨bZ HB⟩⟩
         ·rw [if_neg c16] at H
          exact absurd H (by simp)
        ·rw [if_neg c14] at H
         exact absurd H (by simp)
       ·rw [if_neg c13] at H
        exact absurd H (by simp)
      ·rw [if_neg c12] at H
       have c12b0 : decide (x19_2 < (l0_0.length : Int)) = false := decide_eq_false c12
       clear c12
       obtain rfl := Option.some.inj H
       go_wp2
       go_ret
       exact ⟨_, by first | rfl | (simp [errW_none, errW_some] <;> rfl) | (simp [*, errW_none, errW_some] <;> rfl), by (with_reducible repeat (first | apply Kd.R_alloc | apply Kd.R_drewN | apply Kd.R_drew)); exact HO_5.out, bZ HB⟩
end Go.Proofs.YtkdmplfldfagnaaDoor.Pf
end
section
namespace Go.Proofs.YtkdmplfldfagnaaDoor.Pf
open Go.RowKit Go.Proofs.YtkdmplfldfagnaaDoorW.PrintWords Go.Proofs.YtkdmplfldfagnaaDoorW.PrintLast Go.Proofs.YtkdmplfldfagnaaDoorW.PrintMore
attribute [local go_sem] max2_int min2_int max_two min_two max_three min_three max_four min_four   -- for this text's walks alone
set_option linter.unusedVariables false
set_option linter.unusedSimpArgs false
theorem eqA23 (d : Nat) (w : World) (x0 y0 : Int) (x1 y1 : Int) (x2 y2 : Bool) :
    (Op.equalIn (d + 2) 23 (.agg #[.int .i64 x0, .int .i64 x1, .bool x2]) (.agg #[.int .i64 y0, .int .i64 y1, .bool y2])).run Tryd.prog w = .ok (x0 == y0 && (x1 == y1 && (x2 == y2))) w := by
  refine eqA_of Tryd.underlying23 (by kernel_rfl) ?_
  refine eqf_cons (by rfl) (by go_simp; rfl) (by go_simp; rfl) (by go_simp) ?_
  refine eqf_cons (by rfl) (by go_simp; rfl) (by go_simp; rfl) (by go_simp) ?_
  exact eqf_last (by rfl) (by go_simp; rfl) (by go_simp; rfl) (by go_simp)
end Go.Proofs.YtkdmplfldfagnaaDoor.Pf
end
section
namespace Go.Proofs.YtkdmplfldfagnaaDoor.Pf
open Go.RowKit Go.Proofs.YtkdmplfldfagnaaDoorW.PrintWords Go.Proofs.YtkdmplfldfagnaaDoorW.PrintLast Go.Proofs.YtkdmplfldfagnaaDoorW.PrintMore
attribute [local go_sem] max2_int min2_int max_two min_two max_three min_three max_four min_four   -- for this text's walks alone
set_option linter.unusedVariables false
set_option linter.unusedSimpArgs false
attribute [local go_sem high] eqA23
def laws_samePoints.l0 : Nat → List (S23) → List (S23) → Int → Option (Bool)
 | 0, _, _, _ => none
 | k + 1, x0, x1, x5 => if x5 < (x0.length : Int) then (if 0 ≤ x5 then (if x5 < (x1.length : Int) then (if (!(((rd_T23 x0 x5).f0) == ((rd_T23 x1 x5).f0)) || (!(((rd_T23 x0 x5).f1) == ((rd_T23 x1 x5).f1)) || (!(((rd_T23 x0 x5).f2) == ((rd_T23 x1 x5).f2))))) = true then (some false) else (laws_samePoints.l0 k x0 x1 (wrap64 (x5 + 1)))) else (none)) else (none)) else (some true)
def laws_samePoints.f (k : Nat) (l0 : List (S23)) (l1 : List (S23)) : Option (Bool) := if (l0.length : Int) = (l1.length : Int) then (laws_samePoints.l0 k l0 l1 0) else (some false)
set_option maxHeartbeats 8000000 in
set_option maxRecDepth 100000 in
theorem laws_samePoints.calls (k : Nat) (A0 : Option Addr) (c0 : Nat) (l0 : List (S23)) (A1 : Option Addr) (c1 : Nat) (l1 : List (S23)) (r : Bool) (w : World) (hr0 : Kd.C k23 w A0 l0.length l0) (hc0 : l0.length ≤ c0) (hr1 : Kd.C k23 w A1 l1.length l1) (hc1 : l1.length ≤ c1) (h : laws_samePoints.f k l0 l1 = some r) :
  Calls Tryd.prog 34 #[.slice A0 l0.length c0, .slice A1 l1.length c1] w fun e w' => e = .returned (.bool r) ∧ Drawn0 w w' := by
 have hu23 := Tryd.underlying23
 have HR0 := Aside0.mk hr0
 have HC0 := Aside0.mk hc0
 clear hr0 hc0
 have HR1 := Aside0.mk hr1
 have HC1 := Aside0.mk hc1
 clear hr1 hc1
 have H : (if (l0.length : Int) = (l1.length : Int) then (laws_samePoints.l0 k l0 l1 0) else (some false)) = some r := h
 clear h
 by_cases c3 : (l0.length : Int) = (l1.length : Int)
 ·rw [if_pos c3] at H
  have c3b0 : ((l0.length : Int) == (l1.length : Int)) = true := beq_iff_eq.mpr c3
  have c3b1 : ((l0.length : Int) != (l1.length : Int)) = false := bne_eq_false_iff_eq.mpr c3
  have c3b2 : (l0.length == l1.length) = true := by first | simpa using c3 | (simp at c3 ⊢; omega)
  clear c3
  have H' := Aside0.mk H
  clear H
  go_enter Tryd.func34, Tryd.ntmps34
  go_wp2
  repeat (go_quiet (fail); try go_wp2)
  go_loopg [5] k (fun kq v5 w' => ∃ (x5_1 : Int), v5 = .int .i64 x5_1 ∧ Aside0 (laws_samePoints.l0 kq l0 l1 x5_1 = some r) ∧ Aside0 (kq ≤ k) ∧ Drawn0 w w')
  case atStart => exact ⟨(0), rS, H', ⟨Nat.le_refl _⟩, by repeat (first | exact Drawn0.refl _ | apply Drawn0.step)⟩
  case round =>
   clear H'
   try clear c1
   try clear p2
   try clear c3
   try clear c3b0
   try clear c3b1
   try clear c3b2
   obtain ⟨x5_1, rfl, HA, HK1, ⟨m1, rfl⟩⟩ := hrel
   cases gk with
   | zero => exact absurd HA.out (by simp [laws_samePoints.l0])
   | succ k1 =>
    have H := HA.out
    clear HA
    simp only [laws_samePoints.l0] at H
    by_cases c4 : x5_1 < (l0.length : Int)
    ·rw [if_pos c4] at H
     have c4b0 : decide (x5_1 < (l0.length : Int)) = true := decide_eq_true c4
     clear c4
     by_cases c5 : 0 ≤ x5_1
     ·rw [if_pos c5] at H
      have c5b0 : decide (0 ≤ x5_1) = true := decide_eq_true c5
      clear c5
      by_cases c6 : x5_1 < (l1.length : Int)
      ·rw [if_pos c6] at H
       have c6b0 : decide (x5_1 < (l1.length : Int)) = true := decide_eq_true c6
       clear c6
       by_cases c7 : (!(((rd_T23 l0 x5_1).f0) == ((rd_T23 l1 x5_1).f0)) || (!(((rd_T23 l0 x5_1).f1) == ((rd_T23 l1 x5_1).f1)) || (!(((rd_T23 l0 x5_1).f2) == ((rd_T23 l1 x5_1).f2))))) = true
       ·rw [if_pos c7] at H
        have c7b0 : (!(((rd_T23 l0 x5_1).f0) == ((rd_T23 l1 x5_1).f0)) || (!(((rd_T23 l0 x5_1).f1) == ((rd_T23 l1 x5_1).f1)) || (!(((rd_T23 l0 x5_1).f2) == ((rd_T23 l1 x5_1).f2))))) = true := c7
        clear c7
        obtain rfl := Option.some.inj H
        have p835 : 0 ≤ (x5_1 : Int) := of_decide_eq_true (by first | (with_reducible assumption) | assumption)
        have q835 : x5_1 < (l0.length : Int) := of_decide_eq_true (by first | (with_reducible assumption) | assumption)
        obtain ⟨ad835, e835, hx835_0, hx835_1, hx835_2⟩ := at_T23 HR0.out x5_1 p835 q835
        cases e835
        replace p835 := eq_true p835
        replace q835 := eq_true q835
        have p836 : 0 ≤ (x5_1 : Int) := of_decide_eq_true (by first | (with_reducible assumption) | assumption)
        have q836 : x5_1 < (l1.length : Int) := of_decide_eq_true (by first | (with_reducible assumption) | assumption)
        obtain ⟨ad836, e836, hx836_0, hx836_1, hx836_2⟩ := at_T23 HR1.out x5_1 p836 q836
        cases e836
        replace p836 := eq_true p836
        replace q836 := eq_true q836
        go_wp2
        repeat (go_quiet (fail); try go_wp2)
        go_ret
        exact ⟨rS, rD⟩
       ·rw [if_neg c7] at H
        have c7b0 : (!(((rd_T23 l0 x5_1).f0) == ((rd_T23 l1 x5_1).f0)) || (!(((rd_T23 l0 x5_1).f1) == ((rd_T23 l1 x5_1).f1)) || (!(((rd_T23 l0 x5_1).f2) == ((rd_T23 l1 x5_1).f2))))) = false := by simpa using c7
        clear c7
        have H' := Aside0.mk H
        clear H
        have p835 : 0 ≤ (x5_1 : Int) := of_decide_eq_true (by first | (with_reducible assumption) | assumption)
        have q835 : x5_1 < (l0.length : Int) := of_decide_eq_true (by first | (with_reducible assumption) | assumption)
        obtain ⟨ad835, e835, hx835_0, hx835_1, hx835_2⟩ := at_T23 HR0.out x5_1 p835 q835
        cases e835
        replace p835 := eq_true p835
        replace q835 := eq_true q835
        have p836 : 0 ≤ (x5_1 : Int) := of_decide_eq_true (by first | (with_reducible assumption) | assumption)
        have q836 : x5_1 < (l1.length : Int) := of_decide_eq_true (by first | (with_reducible assumption) | assumption)
        obtain ⟨ad836, e836, hx836_0, hx836_1, hx836_2⟩ := at_T23 HR1.out x5_1 p836 q836
        cases e836
        replace p836 := eq_true p836
        replace q836 := eq_true q836
        go_wp2
        repeat (go_quiet (fail); try go_wp2)
        go_roundg k1
        case measure => have := HK1.out; omega
        case rel => exact ⟨(wrap64 (x5_1 + 1)), rS, H', ⟨by have := HK1.out; omega⟩, by repeat (first | exact Drawn0.refl _ | apply Drawn0.step)⟩
      ·rw [if_neg c6] at H
       exact absurd H (by simp)
     ·rw [if_neg c5] at H
      exact absurd H (by simp)
    ·rw [if_neg c4] at H
     have c4b0 : decide (x5_1 < (l0.length : Int)) = false := decide_eq_false c4
     clear c4
     obtain rfl := Option.some.inj H
     go_wp2
     repeat (go_quiet (fail); try go_wp2)
     go_ret
     exact ⟨rS, rD⟩
 ·rw [if_neg c3] at H
  have c3b0 : ((l0.length : Int) == (l1.length : Int)) = false := beq_eq_false_iff_ne.mpr c3
  have c3b1 : ((l0.length : Int) != (l1.length : Int)) = true := bne_iff_ne.mpr c3
  have c3b2 : (l0.length == l1.length) = false := by first | simpa using c3 | (simp at c3 ⊢; omega)
  obtain rfl := Option.some.inj H
  go_enter Tryd.func34, Tryd.ntmps34
  go_wp2
  repeat (go_quiet (fail); try go_wp2)
  go_ret
  exact ⟨rS, rD⟩
end Go.Proofs.YtkdmplfldfagnaaDoor.Pf
end
section
namespace Go.Proofs.YtkdmplfldfagnaaDoor.Pf
open Go.RowKit Go.Proofs.YtkdmplfldfagnaaDoorW.PrintWords Go.Proofs.YtkdmplfldfagnaaDoorW.PrintLast Go.Proofs.YtkdmplfldfagnaaDoorW.PrintMore
attribute [local go_sem] max2_int min2_int max_two min_two max_three min_three max_four min_four   -- for this text's walks alone
set_option linter.unusedVariables false
set_option linter.unusedSimpArgs false
def bits_OnesCount64.f (a0 : Int) : Option (Int) := some (Go.bits .and .i64 (wrap64 (IntKind.u64.wrap ((IntKind.u64.wrap ((IntKind.u64.wrap ((Go.bits .and .u64 (IntKind.u64.wrap (((IntKind.u64.wrap ((Go.bits .and .u64 ((IntKind.u64.wrap ((Go.bits .and .u64 (a0 / 2) 6148914691236517205) + (Go.bits .and .u64 a0 6148914691236517205))) / 4) 3689348814741910323) + (Go.bits .and .u64 (IntKind.u64.wrap ((Go.bits .and .u64 (a0 / 2) 6148914691236517205) + (Go.bits .and .u64 a0 6148914691236517205))) 3689348814741910323))) / 16) + (IntKind.u64.wrap ((Go.bits .and .u64 ((IntKind.u64.wrap ((Go.bits .and .u64 (a0 / 2) 6148914691236517205) + (Go.bits .and .u64 a0 6148914691236517205))) / 4) 3689348814741910323) + (Go.bits .and .u64 (IntKind.u64.wrap ((Go.bits .and .u64 (a0 / 2) 6148914691236517205) + (Go.bits .and .u64 a0 6148914691236517205))) 3689348814741910323))))) 1085102592571150095) + ((Go.bits .and .u64 (IntKind.u64.wrap (((IntKind.u64.wrap ((Go.bits .and .u64 ((IntKind.u64.wrap ((Go.bits .and .u64 (a0 / 2) 6148914691236517205) + (Go.bits .and .u64 a0 6148914691236517205))) / 4) 3689348814741910323) + (Go.bits .and .u64 (IntKind.u64.wrap ((Go.bits .and .u64 (a0 / 2) 6148914691236517205) + (Go.bits .and .u64 a0 6148914691236517205))) 3689348814741910323))) / 16) + (IntKind.u64.wrap ((Go.bits .and .u64 ((IntKind.u64.wrap ((Go.bits .and .u64 (a0 / 2) 6148914691236517205) + (Go.bits .and .u64 a0 6148914691236517205))) / 4) 3689348814741910323) + (Go.bits .and .u64 (IntKind.u64.wrap ((Go.bits .and .u64 (a0 / 2) 6148914691236517205) + (Go.bits .and .u64 a0 6148914691236517205))) 3689348814741910323))))) 1085102592571150095) / 256))) + ((IntKind.u64.wrap ((Go.bits .and .u64 (IntKind.u64.wrap (((IntKind.u64.wrap ((Go.bits .and .u64 ((IntKind.u64.wrap ((Go.bits .and .u64 (a0 / 2) 6148914691236517205) + (Go.bits .and .u64 a0 6148914691236517205))) / 4) 3689348814741910323) + (Go.bits .and .u64 (IntKind.u64.wrap ((Go.bits .and .u64 (a0 / 2) 6148914691236517205) + (Go.bits .and .u64 a0 6148914691236517205))) 3689348814741910323))) / 16) + (IntKind.u64.wrap ((Go.bits .and .u64 ((IntKind.u64.wrap ((Go.bits .and .u64 (a0 / 2) 6148914691236517205) + (Go.bits .and .u64 a0 6148914691236517205))) / 4) 3689348814741910323) + (Go.bits .and .u64 (IntKind.u64.wrap ((Go.bits .and .u64 (a0 / 2) 6148914691236517205) + (Go.bits .and .u64 a0 6148914691236517205))) 3689348814741910323))))) 1085102592571150095) + ((Go.bits .and .u64 (IntKind.u64.wrap (((IntKind.u64.wrap ((Go.bits .and .u64 ((IntKind.u64.wrap ((Go.bits .and .u64 (a0 / 2) 6148914691236517205) + (Go.bits .and .u64 a0 6148914691236517205))) / 4) 3689348814741910323) + (Go.bits .and .u64 (IntKind.u64.wrap ((Go.bits .and .u64 (a0 / 2) 6148914691236517205) + (Go.bits .and .u64 a0 6148914691236517205))) 3689348814741910323))) / 16) + (IntKind.u64.wrap ((Go.bits .and .u64 ((IntKind.u64.wrap ((Go.bits .and .u64 (a0 / 2) 6148914691236517205) + (Go.bits .and .u64 a0 6148914691236517205))) / 4) 3689348814741910323) + (Go.bits .and .u64 (IntKind.u64.wrap ((Go.bits .and .u64 (a0 / 2) 6148914691236517205) + (Go.bits .and .u64 a0 6148914691236517205))) 3689348814741910323))))) 1085102592571150095) / 256))) / 65536))) + ((IntKind.u64.wrap ((IntKind.u64.wrap ((Go.bits .and .u64 (IntKind.u64.wrap (((IntKind.u64.wrap ((Go.bits .and .u64 ((IntKind.u64.wrap ((Go.bits .and .u64 (a0 / 2) 6148914691236517205) + (Go.bits .and .u64 a0 6148914691236517205))) / 4) 3689348814741910323) + (Go.bits .and .u64 (IntKind.u64.wrap ((Go.bits .and .u64 (a0 / 2) 6148914691236517205) + (Go.bits .and .u64 a0 6148914691236517205))) 3689348814741910323))) / 16) + (IntKind.u64.wrap ((Go.bits .and .u64 ((IntKind.u64.wrap ((Go.bits .and .u64 (a0 / 2) 6148914691236517205) + (Go.bits .and .u64 a0 6148914691236517205))) / 4) 3689348814741910323) + (Go.bits .and .u64 (IntKind.u64.wrap ((Go.bits .and .u64 (a0 / 2) 6148914691236517205) + (Go.bits .and .u64 a0 6148914691236517205))) 3689348814741910323))))) 1085102592571150095) + ((Go.bits .and .u64 (IntKind.u64.wrap (((IntKind.u64.wrap ((Go.bits .and .u64 ((IntKind.u64.wrap ((Go.bits .and .u64 (a0 / 2) 6148914691236517205) + (Go.bits .and .u64 a0 6148914691236517205))) / 4) 3689348814741910323) + (Go.bits .and .u64 (IntKind.u64.wrap ((Go.bits .and .u64 (a0 / 2) 6148914691236517205) + (Go.bits .and .u64 a0 6148914691236517205))) 3689348814741910323))) / 16) + (IntKind.u64.wrap ((Go.bits .and .u64 ((IntKind.u64.wrap ((Go.bits .and .u64 (a0 / 2) 6148914691236517205) + (Go.bits .and .u64 a0 6148914691236517205))) / 4) 3689348814741910323) + (Go.bits .and .u64 (IntKind.u64.wrap ((Go.bits .and .u64 (a0 / 2) 6148914691236517205) + (Go.bits .and .u64 a0 6148914691236517205))) 3689348814741910323))))) 1085102592571150095) / 256))) + ((IntKind.u64.wrap ((Go.bits .and .u64 (IntKind.u64.wrap (((IntKind.u64.wrap ((Go.bits .and .u64 ((IntKind.u64.wrap ((Go.bits .and .u64 (a0 / 2) 6148914691236517205) + (Go.bits .and .u64 a0 6148914691236517205))) / 4) 3689348814741910323) + (Go.bits .and .u64 (IntKind.u64.wrap ((Go.bits .and .u64 (a0 / 2) 6148914691236517205) + (Go.bits .and .u64 a0 6148914691236517205))) 3689348814741910323))) / 16) + (IntKind.u64.wrap ((Go.bits .and .u64 ((IntKind.u64.wrap ((Go.bits .and .u64 (a0 / 2) 6148914691236517205) + (Go.bits .and .u64 a0 6148914691236517205))) / 4) 3689348814741910323) + (Go.bits .and .u64 (IntKind.u64.wrap ((Go.bits .and .u64 (a0 / 2) 6148914691236517205) + (Go.bits .and .u64 a0 6148914691236517205))) 3689348814741910323))))) 1085102592571150095) + ((Go.bits .and .u64 (IntKind.u64.wrap (((IntKind.u64.wrap ((Go.bits .and .u64 ((IntKind.u64.wrap ((Go.bits .and .u64 (a0 / 2) 6148914691236517205) + (Go.bits .and .u64 a0 6148914691236517205))) / 4) 3689348814741910323) + (Go.bits .and .u64 (IntKind.u64.wrap ((Go.bits .and .u64 (a0 / 2) 6148914691236517205) + (Go.bits .and .u64 a0 6148914691236517205))) 3689348814741910323))) / 16) + (IntKind.u64.wrap ((Go.bits .and .u64 ((IntKind.u64.wrap ((Go.bits .and .u64 (a0 / 2) 6148914691236517205) + (Go.bits .and .u64 a0 6148914691236517205))) / 4) 3689348814741910323) + (Go.bits .and .u64 (IntKind.u64.wrap ((Go.bits .and .u64 (a0 / 2) 6148914691236517205) + (Go.bits .and .u64 a0 6148914691236517205))) 3689348814741910323))))) 1085102592571150095) / 256))) / 65536))) / 4294967296)))) 127)
set_option maxHeartbeats 8000000 in
set_option maxRecDepth 100000 in
theorem bits_OnesCount64.calls (a0 : Int) (r : Int) (w : World) (h : bits_OnesCount64.f a0 = some r) :
  Calls Tryd.prog 114 #[.int .u64 a0] w fun e w' => e = .returned (.int .i64 r) ∧ Drawn0 w w' := by
 have H : (some (Go.bits .and .i64 (wrap64 (IntKind.u64.wrap ((IntKind.u64.wrap ((IntKind.u64.wrap ((Go.bits .and .u64 (IntKind.u64.wrap (((IntKind.u64.wrap ((Go.bits .and .u64 ((IntKind.u64.wrap ((Go.bits .and .u64 (a0 / 2) 6148914691236517205) + (Go.bits .and .u64 a0 6148914691236517205))) / 4) 3689348814741910323) + (Go.bits .and .u64 (IntKind.u64.wrap ((Go.bits .and .u64 (a0 / 2) 6148914691236517205) + (Go.bits .and .u64 a0 6148914691236517205))) 3689348814741910323))) / 16) + (IntKind.u64.wrap ((Go.bits .and .u64 ((IntKind.u64.wrap ((Go.bits .and .u64 (a0 / 2) 6148914691236517205) + (Go.bits .and .u64 a0 6148914691236517205))) / 4) 3689348814741910323) + (Go.bits .and .u64 (IntKind.u64.wrap ((Go.bits .and .u64 (a0 / 2) 6148914691236517205) + (Go.bits .and .u64 a0 6148914691236517205))) 3689348814741910323))))) 1085102592571150095) + ((Go.bits .and .u64 (IntKind.u64.wrap (((IntKind.u64.wrap ((Go.bits .and .u64 ((IntKind.u64.wrap ((Go.bits .and .u64 (a0 / 2) 6148914691236517205) + (Go.bits .and .u64 a0 6148914691236517205))) / 4) 3689348814741910323) + (Go.bits .and .u64 (IntKind.u64.wrap ((Go.bits .and .u64 (a0 / 2) 6148914691236517205) + (Go.bits .and .u64 a0 6148914691236517205))) 3689348814741910323))) / 16) + (IntKind.u64.wrap ((Go.bits .and .u64 ((IntKind.u64.wrap ((Go.bits .and .u64 (a0 / 2) 6148914691236517205) + (Go.bits .and .u64 a0 6148914691236517205))) / 4) 3689348814741910323) + (Go.bits .and .u64 (IntKind.u64.wrap ((Go.bits .and .u64 (a0 / 2) 6148914691236517205) + (Go.bits .and .u64 a0 6148914691236517205))) 3689348814741910323))))) 1085102592571150095) / 256))) + ((IntKind.u64.wrap ((Go.bits .and .u64 (IntKind.u64.wrap (((IntKind.u64.wrap ((Go.bits .and .u64 ((IntKind.u64.wrap ((Go.bits .and .u64 (a0 / 2) 6148914691236517205) + (Go.bits .and .u64 a0 6148914691236517205))) / 4) 3689348814741910323) + (Go.bits .and .u64 (IntKind.u64.wrap ((Go.bits .and .u64 (a0 / 2) 6148914691236517205) + (Go.bits .and .u64 a0 6148914691236517205))) 3689348814741910323))) / 16) + (IntKind.u64.wrap ((Go.bits .and .u64 ((IntKind.u64.wrap ((Go.bits .and .u64 (a0 / 2) 6148914691236517205) + (Go.bits .and .u64 a0 6148914691236517205))) / 4) 3689348814741910323) + (Go.bits .and .u64 (IntKind.u64.wrap ((Go.bits .and .u64 (a0 / 2) 6148914691236517205) + (Go.bits .and .u64 a0 6148914691236517205))) 3689348814741910323))))) 1085102592571150095) + ((Go.bits .and .u64 (IntKind.u64.wrap (((IntKind.u64.wrap ((Go.bits .and .u64 ((IntKind.u64.wrap ((Go.bits .and .u64 (a0 / 2) 6148914691236517205) + (Go.bits .and .u64 a0 6148914691236517205))) / 4) 3689348814741910323) + (Go.bits .and .u64 (IntKind.u64.wrap ((Go.bits .and .u64 (a0 / 2) 6148914691236517205) + (Go.bits .and .u64 a0 6148914691236517205))) 3689348814741910323))) / 16) + (IntKind.u64.wrap ((Go.bits .and .u64 ((IntKind.u64.wrap ((Go.bits .and .u64 (a0 / 2) 6148914691236517205) + (Go.bits .and .u64 a0 6148914691236517205))) / 4) 3689348814741910323) + (Go.bits .and .u64 (IntKind.u64.wrap ((Go.bits .and .u64 (a0 / 2) 6148914691236517205) + (Go.bits .and .u64 a0 6148914691236517205))) 3689348814741910323))))) 1085102592571150095) / 256))) / 65536))) + ((IntKind.u64.wrap ((IntKind.u64.wrap ((Go.bits .and .u64 (IntKind.u64.wrap (((IntKind.u64.wrap ((Go.bits .and .u64 ((IntKind.u64.wrap ((Go.bits .and .u64 (a0 / 2) 6148914691236517205) + (Go.bits .and .u64 a0 6148914691236517205))) / 4) 3689348814741910323) + (Go.bits .and .u64 (IntKind.u64.wrap ((Go.bits .and .u64 (a0 / 2) 6148914691236517205) + (Go.bits .and .u64 a0 6148914691236517205))) 3689348814741910323))) / 16) + (IntKind.u64.wrap ((Go.bits .and .u64 ((IntKind.u64.wrap ((Go.bits .and .u64 (a0 / 2) 6148914691236517205) + (Go.bits .and .u64 a0 6148914691236517205))) / 4) 3689348814741910323) + (Go.bits .and .u64 (IntKind.u64.wrap ((Go.bits .and .u64 (a0 / 2) 6148914691236517205) + (Go.bits .and .u64 a0 6148914691236517205))) 3689348814741910323))))) 1085102592571150095) + ((Go.bits .and .u64 (IntKind.u64.wrap (((IntKind.u64.wrap ((Go.bits .and .u64 ((IntKind.u64.wrap ((Go.bits .and .u64 (a0 / 2) 6148914691236517205) + (Go.bits .and .u64 a0 6148914691236517205))) / 4) 3689348814741910323) + (Go.bits .and .u64 (IntKind.u64.wrap ((Go.bits .and .u64 (a0 / 2) 6148914691236517205) + (Go.bits .and .u64 a0 6148914691236517205))) 3689348814741910323))) / 16) + (IntKind.u64.wrap ((Go.bits .and .u64 ((IntKind.u64.wrap ((Go.bits .and .u64 (a0 / 2) 6148914691236517205) + (Go.bits .and .u64 a0 6148914691236517205))) / 4) 3689348814741910323) + (Go.bits .and .u64 (IntKind.u64.wrap ((Go.bits .and .u64 (a0 / 2) 6148914691236517205) + (Go.bits .and .u64 a0 6148914691236517205))) 3689348814741910323))))) 1085102592571150095) / 256))) + ((IntKind.u64.wrap ((Go.bits .and .u64 (IntKind.u64.wrap (((IntKind.u64.wrap ((Go.bits .and .u64 ((IntKind.u64.wrap ((Go.bits .and .u64 (a0 / 2) 6148914691236517205) + (Go.bits .and .u64 a0 6148914691236517205))) / 4) 3689348814741910323) + (Go.bits .and .u64 (IntKind.u64.wrap ((Go.bits .and .u64 (a0 / 2) 6148914691236517205) + (Go.bits .and .u64 a0 6148914691236517205))) 3689348814741910323))) / 16) + (IntKind.u64.wrap ((Go.bits .and .u64 ((IntKind.u64.wrap ((Go.bits .and .u64 (a0 / 2) 6148914691236517205) + (Go.bits .and .u64 a0 6148914691236517205))) / 4) 3689348814741910323) + (Go.bits .and .u64 (IntKind.u64.wrap ((Go.bits .and .u64 (a0 / 2) 6148914691236517205) + (Go.bits .and .u64 a0 6148914691236517205))) 3689348814741910323))))) 1085102592571150095) + ((Go.bits .and .u64 (IntKind.u64.wrap (((IntKind.u64.wrap ((Go.bits .and .u64 ((IntKind.u64.wrap ((Go.bits .and .u64 (a0 / 2) 6148914691236517205) + (Go.bits .and .u64 a0 6148914691236517205))) / 4) 3689348814741910323) + (Go.bits .and .u64 (IntKind.u64.wrap ((Go.bits .and .u64 (a0 / 2) 6148914691236517205) + (Go.bits .and .u64 a0 6148914691236517205))) 3689348814741910323))) / 16) + (IntKind.u64.wrap ((Go.bits .and .u64 ((IntKind.u64.wrap ((Go.bits .and .u64 (a0 / 2) 6148914691236517205) + (Go.bits .and .u64 a0 6148914691236517205))) / 4) 3689348814741910323) + (Go.bits .and .u64 (IntKind.u64.wrap ((Go.bits .and .u64 (a0 / 2) 6148914691236517205) + (Go.bits .and .u64 a0 6148914691236517205))) 3689348814741910323))))) 1085102592571150095) / 256))) / 65536))) / 4294967296)))) 127)) = some r := h
 clear h
 obtain rfl := Option.some.inj H
 go_enter Tryd.func114, Tryd.ntmps114
 go_wp2
 go_ret
 exact ⟨rS, rD⟩
def bits_OnesCount.f (a0 : Int) : Option (Int) := (bits_OnesCount64.f a0).bind fun t837 => (some t837)
set_option maxHeartbeats 8000000 in
set_option maxRecDepth 100000 in
theorem bits_OnesCount.calls (a0 : Int) (r : Int) (w : World) (h : bits_OnesCount.f a0 = some r) :
  Calls Tryd.prog 77 #[.int .u64 a0] w fun e w' => e = .returned (.int .i64 r) ∧ Drawn0 w w' := by
 have H : ((bits_OnesCount64.f a0).bind fun t837 => (some t837)) = some r := h
 clear h
 replace H := Option.bind_eq_some_iff.mp H
 obtain ⟨t837, A20, H⟩ := H
 have A2 := Aside0.mk A20
 clear A20
 obtain rfl := Option.some.inj H
 go_enter Tryd.func77, Tryd.ntmps77
 go_wp2_with (first | ((with_reducible refine gate_callee (f := 114) rfl ?_); refine gL (some 7) Tryd.func114 #[.int .u64 a0] ?_; (with_reducible refine (bits_OnesCount64.calls a0 t837 _ A2.out).mono ?_); rintro e w' ⟨rfl, ⟨nd, rfl⟩⟩; refine ⟨_, rfl, ?_⟩))
 go_ret
 exact ⟨rS, rD⟩
def impl_CountBits.f (a0 : Int) : Option (Int) := (impl_isBits.f a0).bind fun t838 => (if t838 = true then ((bits_OnesCount.f (IntKind.u64.wrap (a0))).bind fun t839 => (some t839)) else (some 0))
set_option maxHeartbeats 8000000 in
set_option maxRecDepth 100000 in
theorem impl_CountBits.calls (a0 : Int) (r : Int) (w : World) (h : impl_CountBits.f a0 = some r) :
  Calls Tryd.prog 35 #[.int .i64 a0] w fun e w' => e = .returned (.int .i64 r) ∧ Drawn0 w w' := by
 have H : ((impl_isBits.f a0).bind fun t838 => (if t838 = true then ((bits_OnesCount.f (IntKind.u64.wrap (a0))).bind fun t839 => (some t839)) else (some 0))) = some r := h
 clear h
 replace H := Option.bind_eq_some_iff.mp H
 obtain ⟨t838, A20, H⟩ := H
 have A2 := Aside0.mk A20
 clear A20
 by_cases c3 : t838 = true
 ·subst c3
  rw [if_pos rfl] at H
  replace H := Option.bind_eq_some_iff.mp H
  obtain ⟨t839, A40, H⟩ := H
  have A4 := Aside0.mk A40
  clear A40
  obtain rfl := Option.some.inj H
  go_enter Tryd.func35, Tryd.ntmps35
  go_wp2_with (first | ((with_reducible refine gate_callee (f := 58) rfl ?_); refine gL (some 4) Tryd.func58 #[.int .i64 a0] ?_; (with_reducible refine (impl_isBits.calls a0 true _ A2.out).mono ?_); rintro e w' ⟨rfl, ⟨nd, rfl⟩⟩; refine ⟨_, rfl, ?_⟩) | ((with_reducible refine gate_callee (f := 77) rfl ?_); refine gL (some 8) Tryd.func77 #[.int .u64 (IntKind.u64.wrap (a0))] ?_; (with_reducible refine (bits_OnesCount.calls (IntKind.u64.wrap (a0)) t839 _ A4.out).mono ?_); rintro e w' ⟨rfl, ⟨nd, rfl⟩⟩; refine ⟨_, rfl, ?_⟩))
  go_ret
  exact ⟨rS, rD⟩
 ·replace c3 := Bool.eq_false_iff.mpr c3
  subst c3
  rw [if_neg (show ¬ (false = true) by decide)] at H
  obtain rfl := Option.some.inj H
  go_enter Tryd.func35, Tryd.ntmps35
  go_wp2_with (first | ((with_reducible refine gate_callee (f := 58) rfl ?_); refine gL (some 4) Tryd.func58 #[.int .i64 a0] ?_; (with_reducible refine (impl_isBits.calls a0 false _ A2.out).mono ?_); rintro e w' ⟨rfl, ⟨nd, rfl⟩⟩; refine ⟨_, rfl, ?_⟩))
  go_ret
  exact ⟨rS, rD⟩
theorem eqA80 (d : Nat) (w : World) (x0 y0 : Int) (x1 y1 : Int) :
    (Op.equalIn (d + 2) 80 (.agg #[.int .i64 x0, .int .i64 x1]) (.agg #[.int .i64 y0, .int .i64 y1])).run Tryd.prog w = .ok (x0 == y0 && (x1 == y1)) w := by
  refine eqA_of Tryd.underlying80 (by kernel_rfl) ?_
  refine eqf_cons (by rfl) (by go_simp; rfl) (by go_simp; rfl) (by go_simp) ?_
  exact eqf_last (by rfl) (by go_simp; rfl) (by go_simp; rfl) (by go_simp)
def impl_TwoMul.f (a0_0 : Int) (a0_1 : Int) (a1_0 : Int) (a1_1 : Int) : Option (Int × Int) := (impl_FpMul.f a0_0 a1_0).bind fun t617 => ((impl_FpMul.f a0_1 a1_1).bind fun t618 => ((impl_FpSub.f t617 t618).bind fun t619 => ((impl_FpMul.f a0_0 a1_1).bind fun t620 => ((impl_FpMul.f a0_1 a1_0).bind fun t621 => ((impl_FpAdd.f t620 t621).bind fun t622 => (some (t619, t622)))))))
def impl_TwoMul.T1 : Bool × List (List Nat × List Nat) := (true, [([], []), ([0], [0]), ([], []), ([2], [2]), ([1, 3], [1, 3]), ([], []), ([5], [5]), ([], []), ([7], [7]), ([6, 8, 4], [6, 8]), ([4, 9, 9], [4, 9]), ([], []), ([11], [11]), ([], []), ([13], [13]), ([12, 14, 10], [12, 14]), ([], []), ([16], [16]), ([], []), ([18], [18]), ([17, 19, 15], [17, 19]), ([15, 20, 20], [15, 20]), ([10, 21], [10, 21]), ([22, 21, 0, 1, 2, 3, 4, 5, 6, 7, 8, 9, 10, 11, 12, 13, 14, 15, 16, 17, 18, 19, 20, 21, 22], [22])])
def impl_TwoMul.B1 : List Nat := [0, 1, 0, 4, 15, 0, 32, 0, 128, 511, 1023, 0, 2048, 0, 8192, 32767, 0, 65536, 0, 262144, 1048575, 2097151, 4194303, 8388607]
theorem impl_TwoMul.tab1 : rtab .any (opsOf Tryd.f109 1) = impl_TwoMul.T1 := by kernel_rfl
theorem impl_TwoMul.bits1 : waitsOk impl_TwoMul.T1.2 impl_TwoMul.B1 = true := by kernel_rfl
set_option maxHeartbeats 8000000 in
set_option maxRecDepth 100000 in
theorem impl_TwoMul.calls (a0_0 : Int) (a0_1 : Int) (a1_0 : Int) (a1_1 : Int) (r1 : Int) (r2 : Int) (w : World) (h : impl_TwoMul.f a0_0 a0_1 a1_0 a1_1 = some (r1, r2)) :
  Calls Tryd.prog 109 #[.agg #[.int .i64 a0_0, .int .i64 a0_1], .agg #[.int .i64 a1_0, .int .i64 a1_1]] w fun e w' => e = .returned (.agg #[.int .i64 r1, .int .i64 r2]) ∧ Below w.heap.size w w' := by
 have hu80 := Tryd.underlying80
 have HB := Aside0.mk (Below.refl w.heap.size w)
 have H : ((impl_FpMul.f a0_0 a1_0).bind fun t617 => ((impl_FpMul.f a0_1 a1_1).bind fun t618 => ((impl_FpSub.f t617 t618).bind fun t619 => ((impl_FpMul.f a0_0 a1_1).bind fun t620 => ((impl_FpMul.f a0_1 a1_0).bind fun t621 => ((impl_FpAdd.f t620 t621).bind fun t622 => (some (t619, t622)))))))) = some (r1, r2) := h
 clear h
 replace H := Option.bind_eq_some_iff.mp H
 obtain ⟨t617, A30, H⟩ := H
 have A3 := Aside0.mk A30
 clear A30
 replace H := Option.bind_eq_some_iff.mp H
 obtain ⟨t618, A40, H⟩ := H
 have A4 := Aside0.mk A40
 clear A40
 replace H := Option.bind_eq_some_iff.mp H
 obtain ⟨t619, A50, H⟩ := H
 have A5 := Aside0.mk A50
 clear A50
 replace H := Option.bind_eq_some_iff.mp H
 obtain ⟨t620, A60, H⟩ := H
 have A6 := Aside0.mk A60
 clear A60
 replace H := Option.bind_eq_some_iff.mp H
 obtain ⟨t621, A70, H⟩ := H
 have A7 := Aside0.mk A70
 clear A70
 replace H := Option.bind_eq_some_iff.mp H
 obtain ⟨t622, A80, H⟩ := H
 have A8 := Aside0.mk A80
 clear A80
 simp only [Option.some.injEq, Prod.mk.injEq] at H
 obtain ⟨rfl, rfl⟩ := H
 go_enter Tryd.func109, Tryd.ntmps109
 try go_wp2_with (first | ((with_reducible refine gate_dst (N := 2) rfl ?_); refine bE 2 #[.int .i64 a0_0, .int .i64 a0_1] 80 ?_; intro gb614 hg w9 hbox hb; have BK614 := Aside0.mk (hbox); have GW614 := bG HB hg; have GE614 := bG HB hg; replace HB := bS HB hb; clear hb hbox hg) | ((with_reducible refine gate_dst (N := 3) rfl ?_); refine bE 3 #[.int .i64 a1_0, .int .i64 a1_1] 80 ?_; intro gb615 hg w10 hbox hb; have BK615 := Aside0.mk (hbox); have GW615 := bG HB hg; have GE615 := bG HB hg; replace HB := bS HB hb; have NB614_615 := bL BK614 hg; have NB615_614 := bR BK614 hg; replace BK614 := bB BK614 hb; clear hb hbox hg) | ((with_reducible refine gate_dst (N := 4) rfl ?_); refine bE 4 #[.int .i64 0, .int .i64 0] 80 ?_; intro gb616 hg w11 hbox hb; have BK616 := Aside0.mk (hbox); have GW616 := bG HB hg; have GE616 := bG HB hg; replace HB := bS HB hb; have NB614_616 := bL BK614 hg; have NB616_614 := bR BK614 hg; replace BK614 := bB BK614 hb; have NB615_616 := bL BK615 hg; have NB616_615 := bR BK615 hg; replace BK615 := bB BK615 hb; clear hb hbox hg))
 replace BK614 := Aside0.mk (blk_drew BK614.out)
 replace BK615 := Aside0.mk (blk_drew BK615.out)
 replace BK616 := Aside0.mk (blk_drew BK616.out)
 replace HB := Aside0.mk (below_drew1 HB.out)
 refine start_ (n := 24) (S := fun w' => w'.cell? ⟨gb614, 0, none⟩ = some (.int .i64 a0_0) ∧ w'.cell? ⟨gb614, 1, none⟩ = some (.int .i64 a0_1) ∧ w'.cell? ⟨gb615, 0, none⟩ = some (.int .i64 a1_0) ∧ w'.cell? ⟨gb615, 1, none⟩ = some (.int .i64 a1_1)) (ds := []) #[false, false, false, false, false, false, false, false, false, false, false, false, false, false, false, false, false, false, false, false, false, false, false, false] (by kernel_rfl) rfl rfl ⟨bc BK614 0, bc BK614 1, bc BK615 0, bc BK615 1⟩ (fun hHeld => ?_); refine with_tabW impl_TwoMul.tab1 impl_TwoMul.bits1 (fun HT_ HW_ => ?_)
 generalize w11.drew = w12 at BK614 BK615 BK616 HB hHeld ⊢
 refine pI 0 (some 5) HT_.out ?_
 refine pI 2 (some 7) HT_.out ?_
 refine pI 5 (some 10) HT_.out ?_
 refine pI 7 (some 12) HT_.out ?_
 refine pI 11 (some 16) HT_.out ?_
 refine pI 13 (some 18) HT_.out ?_
 refine pI 16 (some 21) HT_.out ?_
 refine pI 18 (some 23) HT_.out ?_
 refine tI4 1 (some 6) HT_.out HW_.out hHeld ?_
 refine tI4 3 (some 8) HT_.out HW_.out hHeld ?_
 refine tI4 6 (some 11) HT_.out HW_.out hHeld ?_
 refine tI4 8 (some 13) HT_.out HW_.out hHeld ?_
 refine tI4 12 (some 17) HT_.out HW_.out hHeld ?_
 refine tI4 14 (some 19) HT_.out HW_.out hHeld ?_
 refine tI4 17 (some 22) HT_.out HW_.out hHeld ?_
 refine tI4 19 (some 24) HT_.out HW_.out hHeld ?_
 refine oI 4 (some 9) HT_.out (fun K hK => ?_)
 refine gO Tryd.func95 #[.int .i64 a0_0, .int .i64 a1_0] ?_
 with_reducible refine (impl_FpMul.calls a0_0 a1_0 t617 _ A3.out).mono ?_
 rintro e w' ⟨rfl, ⟨nd, rfl⟩⟩
 refine ⟨_, rfl, ?_⟩
 refine hK.out _ _ ⟨bc BK614 0, bc BK614 1, bc BK615 0, bc BK615 1⟩ (fun hHeld => ?_)
 clear hK K
 refine nO (some 9) ?_
 refine oI 9 (some 14) HT_.out (fun K hK => ?_)
 refine gO Tryd.func95 #[.int .i64 a0_1, .int .i64 a1_1] ?_
 with_reducible refine (impl_FpMul.calls a0_1 a1_1 t618 _ A4.out).mono ?_
 rintro e w' ⟨rfl, ⟨nd, rfl⟩⟩
 refine ⟨_, rfl, ?_⟩
 refine hK.out _ _ ⟨bc BK614 0, bc BK614 1, bc BK615 0, bc BK615 1⟩ (fun hHeld => ?_)
 clear hK K
 refine nO (some 14) ?_
 refine oI 10 (some 15) HT_.out (fun K hK => ?_)
 refine gO Tryd.func126 #[.int .i64 t617, .int .i64 t618] ?_
 with_reducible refine (impl_FpSub.calls t617 t618 t619 _ A5.out).mono ?_
 rintro e w' ⟨rfl, ⟨nd, rfl⟩⟩
 refine ⟨_, rfl, ?_⟩
 refine hK.out _ _ ⟨bc BK614 0, bc BK614 1, bc BK615 0, bc BK615 1⟩ (fun hHeld => ?_)
 clear hK K
 refine nO (some 15) ?_
 refine oI 15 (some 20) HT_.out (fun K hK => ?_)
 refine gO Tryd.func95 #[.int .i64 a0_0, .int .i64 a1_1] ?_
 with_reducible refine (impl_FpMul.calls a0_0 a1_1 t620 _ A6.out).mono ?_
 rintro e w' ⟨rfl, ⟨nd, rfl⟩⟩
 refine ⟨_, rfl, ?_⟩
 refine hK.out _ _ ⟨bc BK614 0, bc BK614 1, bc BK615 0, bc BK615 1⟩ (fun hHeld => ?_)
 clear hK K
 refine nO (some 20) ?_
 refine oI 20 (some 25) HT_.out (fun K hK => ?_)
 refine gO Tryd.func95 #[.int .i64 a0_1, .int .i64 a1_0] ?_
 with_reducible refine (impl_FpMul.calls a0_1 a1_0 t621 _ A7.out).mono ?_
 rintro e w' ⟨rfl, ⟨nd, rfl⟩⟩
 refine ⟨_, rfl, ?_⟩
 refine hK.out _ _ ⟨bc BK614 0, bc BK614 1, bc BK615 0, bc BK615 1⟩ (fun hHeld => ?_)
 clear hK K
 refine nO (some 25) ?_
 refine oI 21 (some 26) HT_.out (fun K hK => ?_)
 refine gO Tryd.func96 #[.int .i64 t620, .int .i64 t621] ?_
 with_reducible refine (impl_FpAdd.calls t620 t621 t622 _ A8.out).mono ?_
 rintro e w' ⟨rfl, ⟨nd, rfl⟩⟩
 refine ⟨_, rfl, ?_⟩
 refine hK.out _ _ ⟨bc BK614 0, bc BK614 1, bc BK615 0, bc BK615 1⟩ (fun hHeld => ?_)
 clear hK K
 refine nO (some 26) ?_
 refine pI 22 (some 27) HT_.out ?_
 refine oI 23 (none) HT_.out (fun K hK => ?_)
 have hs13 : w12.cell? ⟨gb616, 0, none⟩ = some (.int .i64 0) := bc BK616 0
 have hfs13 := blk_frozen BK616.out 0
 have hns13_0 := NB614_616.out
 have hns13_1 := NB615_616.out
 have hms13_0 := NB616_614.out
 have hms13_1 := NB616_615.out
 have hs14 : w12.cell? ⟨gb616, 1, none⟩ = some (.int .i64 0) := bc BK616 1
 have hfs14 := blk_frozen BK616.out 1
 have hns14_0 := NB614_616.out
 have hns14_1 := NB615_616.out
 have hms14_0 := NB616_614.out
 have hms14_1 := NB616_615.out
 refine skip_ (w1 := ?_) (by rfl) rfl ?_ ?_
 rotate_left
 ·go_simp
  rfl
 refine hK.out _ _ ⟨((cell_far (p := ⟨gb616, _, none⟩) NB614_616.out _).trans (((cell_far (p := ⟨gb616, _, none⟩) NB614_616.out _).trans (hHeld.1)))), ((cell_far (p := ⟨gb616, _, none⟩) NB614_616.out _).trans (((cell_far (p := ⟨gb616, _, none⟩) NB614_616.out _).trans (hHeld.2.1)))), ((cell_far (p := ⟨gb616, _, none⟩) NB615_616.out _).trans (((cell_far (p := ⟨gb616, _, none⟩) NB615_616.out _).trans (hHeld.2.2.1)))), ((cell_far (p := ⟨gb616, _, none⟩) NB615_616.out _).trans (((cell_far (p := ⟨gb616, _, none⟩) NB615_616.out _).trans (hHeld.2.2.2))))⟩ (fun hHeld => ?_)
 clear hK K
 refine done_ (done_of HT_.out (by kernel_rfl)) ?_
 try go_wp2
 refine rC gb616 80 #[.int .i64 t619, .int .i64 t622] (bU BK616) Tryd.underlying80 ?_
 exact ⟨rR, bZ HB⟩
def bits_Len64.j0 : Nat → Int → Int → Option (Int)
 | 0, _, _ => none
 | k + 1, x0, x2 => if x0 ≥ 65536 then (if (x0 / 65536) ≥ 256 then (if 0 ≤ (((x0 / 65536) / 256) % 256) then (if (((x0 / 65536) / 256) % 256) < 256 then (some (wrap64 ((wrap64 ((wrap64 (x2 + 16)) + 8)) + (wrap64 (bt (⟨#[0, 1, 2, 2, 3, 3, 3, 3, 4, 4, 4, 4, 4, 4, 4, 4, 5, 5, 5, 5, 5, 5, 5, 5, 5, 5, 5, 5, 5, 5, 5, 5, 6, 6, 6, 6, 6, 6, 6, 6, 6, 6, 6, 6, 6, 6, 6, 6, 6, 6, 6, 6, 6, 6, 6, 6, 6, 6, 6, 6, 6, 6, 6, 6, 7, 7, 7, 7, 7, 7, 7, 7, 7, 7, 7, 7, 7, 7, 7, 7, 7, 7, 7, 7, 7, 7, 7, 7, 7, 7, 7, 7, 7, 7, 7, 7, 7, 7, 7, 7, 7, 7, 7, 7, 7, 7, 7, 7, 7, 7, 7, 7, 7, 7, 7, 7, 7, 7, 7, 7, 7, 7, 7, 7, 7, 7, 7, 7, 8, 8, 8, 8, 8, 8, 8, 8, 8, 8, 8, 8, 8, 8, 8, 8, 8, 8, 8, 8, 8, 8, 8, 8, 8, 8, 8, 8, 8, 8, 8, 8, 8, 8, 8, 8, 8, 8, 8, 8, 8, 8, 8, 8, 8, 8, 8, 8, 8, 8, 8, 8, 8, 8, 8, 8, 8, 8, 8, 8, 8, 8, 8, 8, 8, 8, 8, 8, 8, 8, 8, 8, 8, 8, 8, 8, 8, 8, 8, 8, 8, 8, 8, 8, 8, 8, 8, 8, 8, 8, 8, 8, 8, 8, 8, 8, 8, 8, 8, 8, 8, 8, 8, 8, 8, 8, 8, 8, 8, 8, 8, 8, 8, 8, 8, 8, 8, 8, 8, 8, 8, 8, 8, 8, 8, 8, 8, 8]⟩ : ByteArray) (((x0 / 65536) / 256) % 256)))))) else (none)) else (none)) else (if 0 ≤ ((x0 / 65536) % 256) then (if ((x0 / 65536) % 256) < 256 then (some (wrap64 ((wrap64 (x2 + 16)) + (wrap64 (bt (⟨#[0, 1, 2, 2, 3, 3, 3, 3, 4, 4, 4, 4, 4, 4, 4, 4, 5, 5, 5, 5, 5, 5, 5, 5, 5, 5, 5, 5, 5, 5, 5, 5, 6, 6, 6, 6, 6, 6, 6, 6, 6, 6, 6, 6, 6, 6, 6, 6, 6, 6, 6, 6, 6, 6, 6, 6, 6, 6, 6, 6, 6, 6, 6, 6, 7, 7, 7, 7, 7, 7, 7, 7, 7, 7, 7, 7, 7, 7, 7, 7, 7, 7, 7, 7, 7, 7, 7, 7, 7, 7, 7, 7, 7, 7, 7, 7, 7, 7, 7, 7, 7, 7, 7, 7, 7, 7, 7, 7, 7, 7, 7, 7, 7, 7, 7, 7, 7, 7, 7, 7, 7, 7, 7, 7, 7, 7, 7, 7, 8, 8, 8, 8, 8, 8, 8, 8, 8, 8, 8, 8, 8, 8, 8, 8, 8, 8, 8, 8, 8, 8, 8, 8, 8, 8, 8, 8, 8, 8, 8, 8, 8, 8, 8, 8, 8, 8, 8, 8, 8, 8, 8, 8, 8, 8, 8, 8, 8, 8, 8, 8, 8, 8, 8, 8, 8, 8, 8, 8, 8, 8, 8, 8, 8, 8, 8, 8, 8, 8, 8, 8, 8, 8, 8, 8, 8, 8, 8, 8, 8, 8, 8, 8, 8, 8, 8, 8, 8, 8, 8, 8, 8, 8, 8, 8, 8, 8, 8, 8, 8, 8, 8, 8, 8, 8, 8, 8, 8, 8, 8, 8, 8, 8, 8, 8, 8, 8, 8, 8, 8, 8, 8, 8, 8, 8, 8, 8]⟩ : ByteArray) ((x0 / 65536) % 256)))))) else (none)) else (none))) else (if x0 ≥ 256 then (if 0 ≤ ((x0 / 256) % 256) then (if ((x0 / 256) % 256) < 256 then (some (wrap64 ((wrap64 (x2 + 8)) + (wrap64 (bt (⟨#[0, 1, 2, 2, 3, 3, 3, 3, 4, 4, 4, 4, 4, 4, 4, 4, 5, 5, 5, 5, 5, 5, 5, 5, 5, 5, 5, 5, 5, 5, 5, 5, 6, 6, 6, 6, 6, 6, 6, 6, 6, 6, 6, 6, 6, 6, 6, 6, 6, 6, 6, 6, 6, 6, 6, 6, 6, 6, 6, 6, 6, 6, 6, 6, 7, 7, 7, 7, 7, 7, 7, 7, 7, 7, 7, 7, 7, 7, 7, 7, 7, 7, 7, 7, 7, 7, 7, 7, 7, 7, 7, 7, 7, 7, 7, 7, 7, 7, 7, 7, 7, 7, 7, 7, 7, 7, 7, 7, 7, 7, 7, 7, 7, 7, 7, 7, 7, 7, 7, 7, 7, 7, 7, 7, 7, 7, 7, 7, 8, 8, 8, 8, 8, 8, 8, 8, 8, 8, 8, 8, 8, 8, 8, 8, 8, 8, 8, 8, 8, 8, 8, 8, 8, 8, 8, 8, 8, 8, 8, 8, 8, 8, 8, 8, 8, 8, 8, 8, 8, 8, 8, 8, 8, 8, 8, 8, 8, 8, 8, 8, 8, 8, 8, 8, 8, 8, 8, 8, 8, 8, 8, 8, 8, 8, 8, 8, 8, 8, 8, 8, 8, 8, 8, 8, 8, 8, 8, 8, 8, 8, 8, 8, 8, 8, 8, 8, 8, 8, 8, 8, 8, 8, 8, 8, 8, 8, 8, 8, 8, 8, 8, 8, 8, 8, 8, 8, 8, 8, 8, 8, 8, 8, 8, 8, 8, 8, 8, 8, 8, 8, 8, 8, 8, 8, 8, 8]⟩ : ByteArray) ((x0 / 256) % 256)))))) else (none)) else (none)) else (if 0 ≤ ((x0) % 256) then (if ((x0) % 256) < 256 then (some (wrap64 (x2 + (wrap64 (bt (⟨#[0, 1, 2, 2, 3, 3, 3, 3, 4, 4, 4, 4, 4, 4, 4, 4, 5, 5, 5, 5, 5, 5, 5, 5, 5, 5, 5, 5, 5, 5, 5, 5, 6, 6, 6, 6, 6, 6, 6, 6, 6, 6, 6, 6, 6, 6, 6, 6, 6, 6, 6, 6, 6, 6, 6, 6, 6, 6, 6, 6, 6, 6, 6, 6, 7, 7, 7, 7, 7, 7, 7, 7, 7, 7, 7, 7, 7, 7, 7, 7, 7, 7, 7, 7, 7, 7, 7, 7, 7, 7, 7, 7, 7, 7, 7, 7, 7, 7, 7, 7, 7, 7, 7, 7, 7, 7, 7, 7, 7, 7, 7, 7, 7, 7, 7, 7, 7, 7, 7, 7, 7, 7, 7, 7, 7, 7, 7, 7, 8, 8, 8, 8, 8, 8, 8, 8, 8, 8, 8, 8, 8, 8, 8, 8, 8, 8, 8, 8, 8, 8, 8, 8, 8, 8, 8, 8, 8, 8, 8, 8, 8, 8, 8, 8, 8, 8, 8, 8, 8, 8, 8, 8, 8, 8, 8, 8, 8, 8, 8, 8, 8, 8, 8, 8, 8, 8, 8, 8, 8, 8, 8, 8, 8, 8, 8, 8, 8, 8, 8, 8, 8, 8, 8, 8, 8, 8, 8, 8, 8, 8, 8, 8, 8, 8, 8, 8, 8, 8, 8, 8, 8, 8, 8, 8, 8, 8, 8, 8, 8, 8, 8, 8, 8, 8, 8, 8, 8, 8, 8, 8, 8, 8, 8, 8, 8, 8, 8, 8, 8, 8, 8, 8, 8, 8, 8, 8]⟩ : ByteArray) ((x0) % 256)))))) else (none)) else (none)))
def bits_Len64.f (k : Nat) (a0 : Int) : Option (Int) := if a0 ≥ 4294967296 then (bits_Len64.j0 k (a0 / 4294967296) 32) else (bits_Len64.j0 k a0 0)
set_option maxHeartbeats 8000000 in
set_option maxRecDepth 100000 in
theorem bits_Len64.calls (k : Nat) (a0 : Int) (r : Int) (w : World) (h : bits_Len64.f k a0 = some r) :
  Calls Tryd.prog 144 #[.int .u64 a0] w fun e w' => e = .returned (.int .i64 r) ∧ Drawn0 w w' := by
 have H : (if a0 ≥ 4294967296 then (bits_Len64.j0 k (a0 / 4294967296) 32) else (bits_Len64.j0 k a0 0)) = some r := h
 clear h
 have HC2 := Aside0.mk H
 clear H
 go_enter Tryd.func144, Tryd.ntmps144
 go_upto_if 4 with (fail)
 go_cut [0, 2] (fun v0 v2 wc => ∃ (kq : Nat) (x0_1 : Int) (x2_1 : Int), v0 = .int .u64 x0_1 ∧ v2 = .int .i64 x2_1 ∧ Aside0 (bits_Len64.j0 kq x0_1 x2_1 = some r) ∧ Aside0 (kq ≤ k) ∧ Drawn0 w wc)
 case first =>
  have H := HC2.out
  clear HC2
  by_cases c3 : a0 ≥ 4294967296
  ·rw [if_pos c3] at H
   have c3b0 : decide (4294967296 ≤ a0) = true := decide_eq_true c3
   clear c3
   (first | rw [c3b0] | (simp only [i64_w, i32_w]; rw [c3b0]) | rw [c3b1] | skip)
   have H' := Aside0.mk H
   clear H
   go_wp2
   go_meet
   case rel => exact ⟨_, (a0 / 4294967296), (32), rS, rS, H', ⟨by first | omega | exact Nat.le_refl _⟩, by repeat (first | exact Drawn0.refl _ | apply Drawn0.step)⟩
  ·rw [if_neg c3] at H
   have c3b0 : decide (4294967296 ≤ a0) = false := decide_eq_false c3
   clear c3
   (first | rw [c3b0] | (simp only [i64_w, i32_w]; rw [c3b0]) | rw [c3b1] | skip)
   have H' := Aside0.mk H
   clear H
   go_wp2
   go_meet
   case rel => exact ⟨_, (a0), (0), rS, rS, H', ⟨by first | omega | exact Nat.le_refl _⟩, by repeat (first | exact Drawn0.refl _ | apply Drawn0.step)⟩
 case rest =>
  clear HC2
  try clear c1
  try clear p2
  try clear c3
  try clear c3b0
  obtain ⟨kq, x0_1, x2_1, rfl, rfl, HA, HJ1, ⟨mc1, rfl⟩⟩ := hcut
  cases kq with
  | zero => exact absurd HA.out (by simp [bits_Len64.j0])
  | succ kj1 =>
   have H := HA.out
   clear HA
   simp only [bits_Len64.j0] at H
   by_cases c4 : x0_1 ≥ 65536
   ·rw [if_pos c4] at H
    have c4b0 : decide (65536 ≤ x0_1) = true := decide_eq_true c4
    clear c4
    by_cases c5 : (x0_1 / 65536) ≥ 256
    ·rw [if_pos c5] at H
     have c5b0 : decide (256 ≤ (x0_1 / 65536)) = true := decide_eq_true c5
     clear c5
     obtain ⟨ji6, hji6⟩ : ∃ j_ : Int, (((x0_1 / 65536) / 256) % 256) = j_ := ⟨_, rfl⟩
     replace H : (if 0 ≤ (ji6) then (if (ji6) < 256 then (some (wrap64 ((wrap64 ((wrap64 (x2_1 + 16)) + 8)) + (wrap64 (bt (⟨#[0, 1, 2, 2, 3, 3, 3, 3, 4, 4, 4, 4, 4, 4, 4, 4, 5, 5, 5, 5, 5, 5, 5, 5, 5, 5, 5, 5, 5, 5, 5, 5, 6, 6, 6, 6, 6, 6, 6, 6, 6, 6, 6, 6, 6, 6, 6, 6, 6, 6, 6, 6, 6, 6, 6, 6, 6, 6, 6, 6, 6, 6, 6, 6, 7, 7, 7, 7, 7, 7, 7, 7, 7, 7, 7, 7, 7, 7, 7, 7, 7, 7, 7, 7, 7, 7, 7, 7, 7, 7, 7, 7, 7, 7, 7, 7, 7, 7, 7, 7, 7, 7, 7, 7, 7, 7, 7, 7, 7, 7, 7, 7, 7, 7, 7, 7, 7, 7, 7, 7, 7, 7, 7, 7, 7, 7, 7, 7, 8, 8, 8, 8, 8, 8, 8, 8, 8, 8, 8, 8, 8, 8, 8, 8, 8, 8, 8, 8, 8, 8, 8, 8, 8, 8, 8, 8, 8, 8, 8, 8, 8, 8, 8, 8, 8, 8, 8, 8, 8, 8, 8, 8, 8, 8, 8, 8, 8, 8, 8, 8, 8, 8, 8, 8, 8, 8, 8, 8, 8, 8, 8, 8, 8, 8, 8, 8, 8, 8, 8, 8, 8, 8, 8, 8, 8, 8, 8, 8, 8, 8, 8, 8, 8, 8, 8, 8, 8, 8, 8, 8, 8, 8, 8, 8, 8, 8, 8, 8, 8, 8, 8, 8, 8, 8, 8, 8, 8, 8, 8, 8, 8, 8, 8, 8, 8, 8, 8, 8, 8, 8, 8, 8, 8, 8, 8, 8]⟩ : ByteArray) (ji6)))))) else (none)) else (none)) = some r := by first | (rw [hji6] at H; exact H) | (simp only [hji6] at H ⊢; exact H)
     by_cases c7 : 0 ≤ (ji6)
     ·rw [if_pos c7] at H
      have c7b0 : decide (0 ≤ (ji6)) = true := decide_eq_true c7
      clear c7
      by_cases c8 : (ji6) < 256
      ·rw [if_pos c8] at H
       have c8b0 : decide ((ji6) < 256) = true := decide_eq_true c8
       clear c8
       obtain rfl := Option.some.inj H
       have p9 : 0 ≤ ((ji6) : Int) := of_decide_eq_true (by first | (with_reducible assumption) | assumption)
       have q9 : (ji6) < (256 : Int) := of_decide_eq_true (by first | (with_reducible assumption) | assumption)
       have hx9 := bt_at (⟨#[0, 1, 2, 2, 3, 3, 3, 3, 4, 4, 4, 4, 4, 4, 4, 4, 5, 5, 5, 5, 5, 5, 5, 5, 5, 5, 5, 5, 5, 5, 5, 5, 6, 6, 6, 6, 6, 6, 6, 6, 6, 6, 6, 6, 6, 6, 6, 6, 6, 6, 6, 6, 6, 6, 6, 6, 6, 6, 6, 6, 6, 6, 6, 6, 7, 7, 7, 7, 7, 7, 7, 7, 7, 7, 7, 7, 7, 7, 7, 7, 7, 7, 7, 7, 7, 7, 7, 7, 7, 7, 7, 7, 7, 7, 7, 7, 7, 7, 7, 7, 7, 7, 7, 7, 7, 7, 7, 7, 7, 7, 7, 7, 7, 7, 7, 7, 7, 7, 7, 7, 7, 7, 7, 7, 7, 7, 7, 7, 8, 8, 8, 8, 8, 8, 8, 8, 8, 8, 8, 8, 8, 8, 8, 8, 8, 8, 8, 8, 8, 8, 8, 8, 8, 8, 8, 8, 8, 8, 8, 8, 8, 8, 8, 8, 8, 8, 8, 8, 8, 8, 8, 8, 8, 8, 8, 8, 8, 8, 8, 8, 8, 8, 8, 8, 8, 8, 8, 8, 8, 8, 8, 8, 8, 8, 8, 8, 8, 8, 8, 8, 8, 8, 8, 8, 8, 8, 8, 8, 8, 8, 8, 8, 8, 8, 8, 8, 8, 8, 8, 8, 8, 8, 8, 8, 8, 8, 8, 8, 8, 8, 8, 8, 8, 8, 8, 8, 8, 8, 8, 8, 8, 8, 8, 8, 8, 8, 8, 8, 8, 8, 8, 8, 8, 8, 8, 8]⟩ : ByteArray) (ji6)
       replace p9 := eq_true p9
       replace q9 := eq_true q9
       go_wp2
       go_ret
       exact ⟨by first | rfl | (simp; done) | (simp only [← hji6] <;> (first | rfl | simp)) | (simp [*]; done), by repeat (first | exact Drawn0.refl _ | apply Drawn0.step)⟩
      ·rw [if_neg c8] at H
       exact absurd H (by simp)
     ·rw [if_neg c7] at H
      exact absurd H (by simp)
    ·rw [if_neg c5] at H
     have c5b0 : decide (256 ≤ (x0_1 / 65536)) = false := decide_eq_false c5
     clear c5
     obtain ⟨ji10, hji10⟩ : ∃ j_ : Int, ((x0_1 / 65536) % 256) = j_ := ⟨_, rfl⟩
     replace H : (if 0 ≤ (ji10) then (if (ji10) < 256 then (some (wrap64 ((wrap64 (x2_1 + 16)) + (wrap64 (bt (⟨#[0, 1, 2, 2, 3, 3, 3, 3, 4, 4, 4, 4, 4, 4, 4, 4, 5, 5, 5, 5, 5, 5, 5, 5, 5, 5, 5, 5, 5, 5, 5, 5, 6, 6, 6, 6, 6, 6, 6, 6, 6, 6, 6, 6, 6, 6, 6, 6, 6, 6, 6, 6, 6, 6, 6, 6, 6, 6, 6, 6, 6, 6, 6, 6, 7, 7, 7, 7, 7, 7, 7, 7, 7, 7, 7, 7, 7, 7, 7, 7, 7, 7, 7, 7, 7, 7, 7, 7, 7, 7, 7, 7, 7, 7, 7, 7, 7, 7, 7, 7, 7, 7, 7, 7, 7, 7, 7, 7, 7, 7, 7, 7, 7, 7, 7, 7, 7, 7, 7, 7, 7, 7, 7, 7, 7, 7, 7, 7, 8, 8, 8, 8, 8, 8, 8, 8, 8, 8, 8, 8, 8, 8, 8, 8, 8, 8, 8, 8, 8, 8, 8, 8, 8, 8, 8, 8, 8, 8, 8, 8, 8, 8, 8, 8, 8, 8, 8, 8, 8, 8, 8, 8, 8, 8, 8, 8, 8, 8, 8, 8, 8, 8, 8, 8, 8, 8, 8, 8, 8, 8, 8, 8, 8, 8, 8, 8, 8, 8, 8, 8, 8, 8, 8, 8, 8, 8, 8, 8, 8, 8, 8, 8, 8, 8, 8, 8, 8, 8, 8, 8, 8, 8, 8, 8, 8, 8, 8, 8, 8, 8, 8, 8, 8, 8, 8, 8, 8, 8, 8, 8, 8, 8, 8, 8, 8, 8, 8, 8, 8, 8, 8, 8, 8, 8, 8, 8]⟩ : ByteArray) (ji10)))))) else (none)) else (none)) = some r := by first | (rw [hji10] at H; exact H) | (simp only [hji10] at H ⊢; exact H)
     by_cases c11 : 0 ≤ (ji10)
     ·rw [if_pos c11] at H
      have c11b0 : decide (0 ≤ (ji10)) = true := decide_eq_true c11
      clear c11
      by_cases c12 : (ji10) < 256
      ·rw [if_pos c12] at H
       have c12b0 : decide ((ji10) < 256) = true := decide_eq_true c12
       clear c12
       obtain rfl := Option.some.inj H
       have p13 : 0 ≤ ((ji10) : Int) := of_decide_eq_true (by first | (with_reducible assumption) | assumption)
       have q13 : (ji10) < (256 : Int) := of_decide_eq_true (by first | (with_reducible assumption) | assumption)
       have hx13 := bt_at (⟨#[0, 1, 2, 2, 3, 3, 3, 3, 4, 4, 4, 4, 4, 4, 4, 4, 5, 5, 5, 5, 5, 5, 5, 5, 5, 5, 5, 5, 5, 5, 5, 5, 6, 6, 6, 6, 6, 6, 6, 6, 6, 6, 6, 6, 6, 6, 6, 6, 6, 6, 6, 6, 6, 6, 6, 6, 6, 6, 6, 6, 6, 6, 6, 6, 7, 7, 7, 7, 7, 7, 7, 7, 7, 7, 7, 7, 7, 7, 7, 7, 7, 7, 7, 7, 7, 7, 7, 7, 7, 7, 7, 7, 7, 7, 7, 7, 7, 7, 7, 7, 7, 7, 7, 7, 7, 7, 7, 7, 7, 7, 7, 7, 7, 7, 7, 7, 7, 7, 7, 7, 7, 7, 7, 7, 7, 7, 7, 7, 8, 8, 8, 8, 8, 8, 8, 8, 8, 8, 8, 8, 8, 8, 8, 8, 8, 8, 8, 8, 8, 8, 8, 8, 8, 8, 8, 8, 8, 8, 8, 8, 8, 8, 8, 8, 8, 8, 8, 8, 8, 8, 8, 8, 8, 8, 8, 8, 8, 8, 8, 8, 8, 8, 8, 8, 8, 8, 8, 8, 8, 8, 8, 8, 8, 8, 8, 8, 8, 8, 8, 8, 8, 8, 8, 8, 8, 8, 8, 8, 8, 8, 8, 8, 8, 8, 8, 8, 8, 8, 8, 8, 8, 8, 8, 8, 8, 8, 8, 8, 8, 8, 8, 8, 8, 8, 8, 8, 8, 8, 8, 8, 8, 8, 8, 8, 8, 8, 8, 8, 8, 8, 8, 8, 8, 8, 8, 8]⟩ : ByteArray) (ji10)
       replace p13 := eq_true p13
       replace q13 := eq_true q13
       go_wp2
       go_ret
       exact ⟨by first | rfl | (simp; done) | (simp only [← hji10] <;> (first | rfl | simp)) | (simp [*]; done), by repeat (first | exact Drawn0.refl _ | apply Drawn0.step)⟩
      ·rw [if_neg c12] at H
       exact absurd H (by simp)
     ·rw [if_neg c11] at H
      exact absurd H (by simp)
   ·rw [if_neg c4] at H
    have c4b0 : decide (65536 ≤ x0_1) = false := decide_eq_false c4
    clear c4
    by_cases c14 : x0_1 ≥ 256
    ·rw [if_pos c14] at H
     have c14b0 : decide (256 ≤ x0_1) = true := decide_eq_true c14
     clear c14
     obtain ⟨ji15, hji15⟩ : ∃ j_ : Int, ((x0_1 / 256) % 256) = j_ := ⟨_, rfl⟩
     replace H : (if 0 ≤ (ji15) then (if (ji15) < 256 then (some (wrap64 ((wrap64 (x2_1 + 8)) + (wrap64 (bt (⟨#[0, 1, 2, 2, 3, 3, 3, 3, 4, 4, 4, 4, 4, 4, 4, 4, 5, 5, 5, 5, 5, 5, 5, 5, 5, 5, 5, 5, 5, 5, 5, 5, 6, 6, 6, 6, 6, 6, 6, 6, 6, 6, 6, 6, 6, 6, 6, 6, 6, 6, 6, 6, 6, 6, 6, 6, 6, 6, 6, 6, 6, 6, 6, 6, 7, 7, 7, 7, 7, 7, 7, 7, 7, 7, 7, 7, 7, 7, 7, 7, 7, 7, 7, 7, 7, 7, 7, 7, 7, 7, 7, 7, 7, 7, 7, 7, 7, 7, 7, 7, 7, 7, 7, 7, 7, 7, 7, 7, 7, 7, 7, 7, 7, 7, 7, 7, 7, 7, 7, 7, 7, 7, 7, 7, 7, 7, 7, 7, 8, 8, 8, 8, 8, 8, 8, 8, 8, 8, 8, 8, 8, 8, 8, 8, 8, 8, 8, 8, 8, 8, 8, 8, 8, 8, 8, 8, 8, 8, 8, 8, 8, 8, 8, 8, 8, 8, 8, 8, 8, 8, 8, 8, 8, 8, 8, 8, 8, 8, 8, 8, 8, 8, 8, 8, 8, 8, 8, 8, 8, 8, 8, 8, 8, 8, 8, 8, 8, 8, 8, 8, 8, 8, 8, 8, 8, 8, 8, 8, 8, 8, 8, 8, 8, 8, 8, 8, 8, 8, 8, 8, 8, 8, 8, 8, 8, 8, 8, 8, 8, 8, 8, 8, 8, 8, 8, 8, 8, 8, 8, 8, 8, 8, 8, 8, 8, 8, 8, 8, 8, 8, 8, 8, 8, 8, 8, 8]⟩ : ByteArray) (ji15)))))) else (none)) else (none)) = some r := by first | (rw [hji15] at H; exact H) | (simp only [hji15] at H ⊢; exact H)
     by_cases c16 : 0 ≤ (ji15)
     ·rw [if_pos c16] at H
      have c16b0 : decide (0 ≤ (ji15)) = true := decide_eq_true c16
      clear c16
      by_cases c17 : (ji15) < 256
      ·rw [if_pos c17] at H
       have c17b0 : decide ((ji15) < 256) = true := decide_eq_true c17
       clear c17
       obtain rfl := Option.some.inj H
       have p18 : 0 ≤ ((ji15) : Int) := of_decide_eq_true (by first | (with_reducible assumption) | assumption)
       have q18 : (ji15) < (256 : Int) := of_decide_eq_true (by first | (with_reducible assumption) | assumption)
       have hx18 := bt_at (⟨#[0, 1, 2, 2, 3, 3, 3, 3, 4, 4, 4, 4, 4, 4, 4, 4, 5, 5, 5, 5, 5, 5, 5, 5, 5, 5, 5, 5, 5, 5, 5, 5, 6, 6, 6, 6, 6, 6, 6, 6, 6, 6, 6, 6, 6, 6, 6, 6, 6, 6, 6, 6, 6, 6, 6, 6, 6, 6, 6, 6, 6, 6, 6, 6, 7, 7, 7, 7, 7, 7, 7, 7, 7, 7, 7, 7, 7, 7, 7, 7, 7, 7, 7, 7, 7, 7, 7, 7, 7, 7, 7, 7, 7, 7, 7, 7, 7, 7, 7, 7, 7, 7, 7, 7, 7, 7, 7, 7, 7, 7, 7, 7, 7, 7, 7, 7, 7, 7, 7, 7, 7, 7, 7, 7, 7, 7, 7, 7, 8, 8, 8, 8, 8, 8, 8, 8, 8, 8, 8, 8, 8, 8, 8, 8, 8, 8, 8, 8, 8, 8, 8, 8, 8, 8, 8, 8, 8, 8, 8, 8, 8, 8, 8, 8, 8, 8, 8, 8, 8, 8, 8, 8, 8, 8, 8, 8, 8, 8, 8, 8, 8, 8, 8, 8, 8, 8, 8, 8, 8, 8, 8, 8, 8, 8, 8, 8, 8, 8, 8, 8, 8, 8, 8, 8, 8, 8, 8, 8, 8, 8, 8, 8, 8, 8, 8, 8, 8, 8, 8, 8, 8, 8, 8, 8, 8, 8, 8, 8, 8, 8, 8, 8, 8, 8, 8, 8, 8, 8, 8, 8, 8, 8, 8, 8, 8, 8, 8, 8, 8, 8, 8, 8, 8, 8, 8, 8]⟩ : ByteArray) (ji15)
       replace p18 := eq_true p18
       replace q18 := eq_true q18
       go_wp2
       go_ret
       exact ⟨by first | rfl | (simp; done) | (simp only [← hji15] <;> (first | rfl | simp)) | (simp [*]; done), by repeat (first | exact Drawn0.refl _ | apply Drawn0.step)⟩
      ·rw [if_neg c17] at H
       exact absurd H (by simp)
     ·rw [if_neg c16] at H
      exact absurd H (by simp)
    ·rw [if_neg c14] at H
     have c14b0 : decide (256 ≤ x0_1) = false := decide_eq_false c14
     clear c14
     obtain ⟨ji19, hji19⟩ : ∃ j_ : Int, ((x0_1) % 256) = j_ := ⟨_, rfl⟩
     replace H : (if 0 ≤ (ji19) then (if (ji19) < 256 then (some (wrap64 (x2_1 + (wrap64 (bt (⟨#[0, 1, 2, 2, 3, 3, 3, 3, 4, 4, 4, 4, 4, 4, 4, 4, 5, 5, 5, 5, 5, 5, 5, 5, 5, 5, 5, 5, 5, 5, 5, 5, 6, 6, 6, 6, 6, 6, 6, 6, 6, 6, 6, 6, 6, 6, 6, 6, 6, 6, 6, 6, 6, 6, 6, 6, 6, 6, 6, 6, 6, 6, 6, 6, 7, 7, 7, 7, 7, 7, 7, 7, 7, 7, 7, 7, 7, 7, 7, 7, 7, 7, 7, 7, 7, 7, 7, 7, 7, 7, 7, 7, 7, 7, 7, 7, 7, 7, 7, 7, 7, 7, 7, 7, 7, 7, 7, 7, 7, 7, 7, 7, 7, 7, 7, 7, 7, 7, 7, 7, 7, 7, 7, 7, 7, 7, 7, 7, 8, 8, 8, 8, 8, 8, 8, 8, 8, 8, 8, 8, 8, 8, 8, 8, 8, 8, 8, 8, 8, 8, 8, 8, 8, 8, 8, 8, 8, 8, 8, 8, 8, 8, 8, 8, 8, 8, 8, 8, 8, 8, 8, 8, 8, 8, 8, 8, 8, 8, 8, 8, 8, 8, 8, 8, 8, 8, 8, 8, 8, 8, 8, 8, 8, 8, 8, 8, 8, 8, 8, 8, 8, 8, 8, 8, 8, 8, 8, 8, 8, 8, 8, 8, 8, 8, 8, 8, 8, 8, 8, 8, 8, 8, 8, 8, 8, 8, 8, 8, 8, 8, 8, 8, 8, 8, 8, 8, 8, 8, 8, 8, 8, 8, 8, 8, 8, 8, 8, 8, 8, 8, 8, 8, 8, 8, 8, 8]⟩ : ByteArray) (ji19)))))) else (none)) else (none)) = some r := by first | (rw [hji19] at H; exact H) | (simp only [hji19] at H ⊢; exact H)
     by_cases c20 : 0 ≤ (ji19)
     ·rw [if_pos c20] at H
      have c20b0 : decide (0 ≤ (ji19)) = true := decide_eq_true c20
      clear c20
      by_cases c21 : (ji19) < 256
      ·rw [if_pos c21] at H
       have c21b0 : decide ((ji19) < 256) = true := decide_eq_true c21
       clear c21
       obtain rfl := Option.some.inj H
       have p22 : 0 ≤ ((ji19) : Int) := of_decide_eq_true (by first | (with_reducible assumption) | assumption)
       have q22 : (ji19) < (256 : Int) := of_decide_eq_true (by first | (with_reducible assumption) | assumption)
       have hx22 := bt_at (⟨#[0, 1, 2, 2, 3, 3, 3, 3, 4, 4, 4, 4, 4, 4, 4, 4, 5, 5, 5, 5, 5, 5, 5, 5, 5, 5, 5, 5, 5, 5, 5, 5, 6, 6, 6, 6, 6, 6, 6, 6, 6, 6, 6, 6, 6, 6, 6, 6, 6, 6, 6, 6, 6, 6, 6, 6, 6, 6, 6, 6, 6, 6, 6, 6, 7, 7, 7, 7, 7, 7, 7, 7, 7, 7, 7, 7, 7, 7, 7, 7, 7, 7, 7, 7, 7, 7, 7, 7, 7, 7, 7, 7, 7, 7, 7, 7, 7, 7, 7, 7, 7, 7, 7, 7, 7, 7, 7, 7, 7, 7, 7, 7, 7, 7, 7, 7, 7, 7, 7, 7, 7, 7, 7, 7, 7, 7, 7, 7, 8, 8, 8, 8, 8, 8, 8, 8, 8, 8, 8, 8, 8, 8, 8, 8, 8, 8, 8, 8, 8, 8, 8, 8, 8, 8, 8, 8, 8, 8, 8, 8, 8, 8, 8, 8, 8, 8, 8, 8, 8, 8, 8, 8, 8, 8, 8, 8, 8, 8, 8, 8, 8, 8, 8, 8, 8, 8, 8, 8, 8, 8, 8, 8, 8, 8, 8, 8, 8, 8, 8, 8, 8, 8, 8, 8, 8, 8, 8, 8, 8, 8, 8, 8, 8, 8, 8, 8, 8, 8, 8, 8, 8, 8, 8, 8, 8, 8, 8, 8, 8, 8, 8, 8, 8, 8, 8, 8, 8, 8, 8, 8, 8, 8, 8, 8, 8, 8, 8, 8, 8, 8, 8, 8, 8, 8, 8, 8]⟩ : ByteArray) (ji19)
       replace p22 := eq_true p22
       replace q22 := eq_true q22
       go_wp2
       go_ret
       exact ⟨by first | rfl | (simp; done) | (simp only [← hji19] <;> (first | rfl | simp)) | (simp [*]; done), by repeat (first | exact Drawn0.refl _ | apply Drawn0.step)⟩
      ·rw [if_neg c21] at H
       exact absurd H (by simp)
     ·rw [if_neg c20] at H
      exact absurd H (by simp)
def bits_Len.f (k : Nat) (a0 : Int) : Option (Int) := (bits_Len64.f k a0).bind fun t623 => (some t623)
set_option maxHeartbeats 8000000 in
set_option maxRecDepth 100000 in
theorem bits_Len.calls (k : Nat) (a0 : Int) (r : Int) (w : World) (h : bits_Len.f k a0 = some r) :
  Calls Tryd.prog 132 #[.int .u64 a0] w fun e w' => e = .returned (.int .i64 r) ∧ Drawn0 w w' := by
 have H : ((bits_Len64.f k a0).bind fun t623 => (some t623)) = some r := h
 clear h
 replace H := Option.bind_eq_some_iff.mp H
 obtain ⟨t623, A20, H⟩ := H
 have A2 := Aside0.mk A20
 clear A20
 obtain rfl := Option.some.inj H
 go_enter Tryd.func132, Tryd.ntmps132
 go_wp2_with (first | ((with_reducible refine gate_callee (f := 144) rfl ?_); refine gL (some 7) Tryd.func144 #[.int .u64 a0] ?_; (with_reducible refine (bits_Len64.calls k a0 t623 _ A2.out).mono ?_); rintro e w' ⟨rfl, ⟨nd, rfl⟩⟩; refine ⟨_, rfl, ?_⟩))
 go_ret
 exact ⟨rS, rD⟩
def impl_PairLine.j0 : Nat → Bool → Int → Int → Bool → Int → Int → Bool → Int → Int → Bool → Int → Int → Option (Int × Int)
 | 0, _, _, _, _, _, _, _, _, _, _, _, _ => none
 | k + 1, x36, x625000, x625001, x625002, x626000, x626001, x626002, x627000, x627001, x627002, x629000, x629001 => if x36 = true then (some (x629000, x629001)) else ((impl_slopeOf.f k x625000 x625001 x625002 x626000 x626001 x626002).bind fun bt632 => (if bt632.2 = true then ((impl_FpSub.f 0 x627000).bind fun t634 => ((impl_FpSub.f t634 x625000).bind fun t635 => ((impl_FpSub.f 0 x625001).bind fun t636 => ((impl_FpMul.f bt632.1 t635).bind fun t637 => ((impl_FpSub.f t636 t637).bind fun t638 => (some (t638, x627001))))))) else (some (x629000, x629001))))
def impl_PairLine.f (k : Nat) (a0_0 : Int) (a0_1 : Int) (a0_2 : Bool) (a1_0 : Int) (a1_1 : Int) (a1_2 : Bool) (a2_0 : Int) (a2_1 : Int) (a2_2 : Bool) : Option (Int × Int) := if a0_2 = true then (impl_PairLine.j0 k true a0_0 a0_1 a0_2 a1_0 a1_1 a1_2 a2_0 a2_1 a2_2 1 0) else (if a1_2 = true then (impl_PairLine.j0 k true a0_0 a0_1 a0_2 a1_0 a1_1 a1_2 a2_0 a2_1 a2_2 1 0) else (if a2_2 = true then (impl_PairLine.j0 k true a0_0 a0_1 a0_2 a1_0 a1_1 a1_2 a2_0 a2_1 a2_2 1 0) else ((impl_PointOk.f a0_0 a0_1 a0_2).bind fun t629 => (if t629 = true then ((impl_PointOk.f a1_0 a1_1 a1_2).bind fun t630 => (if t630 = true then ((impl_PointOk.f a2_0 a2_1 a2_2).bind fun t631 => (impl_PairLine.j0 k (!t631) a0_0 a0_1 a0_2 a1_0 a1_1 a1_2 a2_0 a2_1 a2_2 1 0)) else (impl_PairLine.j0 k true a0_0 a0_1 a0_2 a1_0 a1_1 a1_2 a2_0 a2_1 a2_2 1 0))) else (impl_PairLine.j0 k true a0_0 a0_1 a0_2 a1_0 a1_1 a1_2 a2_0 a2_1 a2_2 1 0)))))
def impl_PairLine.T8 : Bool × List (List Nat × List Nat) := (true, [([], []), ([0], [0]), ([1], [1]), ([], []), ([], []), ([3, 4, 2], [3, 4]), ([2, 5, 5], [2, 5]), ([], []), ([7], [7]), ([6, 8], [6, 8]), ([9, 6, 0, 1, 2, 3, 4, 5, 6, 7, 8, 9], [9])])
def impl_PairLine.B8 : List Nat := [0, 1, 3, 0, 0, 31, 63, 0, 128, 511, 1023]
theorem impl_PairLine.tab8 : rtab .any (opsOf Tryd.f133 8) = impl_PairLine.T8 := by kernel_rfl
theorem impl_PairLine.bits8 : waitsOk impl_PairLine.T8.2 impl_PairLine.B8 = true := by kernel_rfl
set_option maxHeartbeats 8000000 in
set_option maxRecDepth 100000 in
theorem impl_PairLine.calls (k : Nat) (a0_0 : Int) (a0_1 : Int) (a0_2 : Bool) (a1_0 : Int) (a1_1 : Int) (a1_2 : Bool) (a2_0 : Int) (a2_1 : Int) (a2_2 : Bool) (r1 : Int) (r2 : Int) (w : World) (h : impl_PairLine.f k a0_0 a0_1 a0_2 a1_0 a1_1 a1_2 a2_0 a2_1 a2_2 = some (r1, r2)) :
  Calls Tryd.prog 133 #[.agg #[.int .i64 a0_0, .int .i64 a0_1, .bool a0_2], .agg #[.int .i64 a1_0, .int .i64 a1_1, .bool a1_2], .agg #[.int .i64 a2_0, .int .i64 a2_1, .bool a2_2]] w fun e w' => e = .returned (.agg #[.int .i64 r1, .int .i64 r2]) ∧ Below w.heap.size w w' := by
 have hu23 := Tryd.underlying23
 have hu80 := Tryd.underlying80
 have HB := Aside0.mk (Below.refl w.heap.size w)
 have H : (if a0_2 = true then (impl_PairLine.j0 k true a0_0 a0_1 a0_2 a1_0 a1_1 a1_2 a2_0 a2_1 a2_2 1 0) else (if a1_2 = true then (impl_PairLine.j0 k true a0_0 a0_1 a0_2 a1_0 a1_1 a1_2 a2_0 a2_1 a2_2 1 0) else (if a2_2 = true then (impl_PairLine.j0 k true a0_0 a0_1 a0_2 a1_0 a1_1 a1_2 a2_0 a2_1 a2_2 1 0) else ((impl_PointOk.f a0_0 a0_1 a0_2).bind fun t629 => (if t629 = true then ((impl_PointOk.f a1_0 a1_1 a1_2).bind fun t630 => (if t630 = true then ((impl_PointOk.f a2_0 a2_1 a2_2).bind fun t631 => (impl_PairLine.j0 k (!t631) a0_0 a0_1 a0_2 a1_0 a1_1 a1_2 a2_0 a2_1 a2_2 1 0)) else (impl_PairLine.j0 k true a0_0 a0_1 a0_2 a1_0 a1_1 a1_2 a2_0 a2_1 a2_2 1 0))) else (impl_PairLine.j0 k true a0_0 a0_1 a0_2 a1_0 a1_1 a1_2 a2_0 a2_1 a2_2 1 0)))))) = some (r1, r2) := h
 clear h
 have HC4 := Aside0.mk H
 clear H
 go_enter Tryd.func133, Tryd.ntmps133
 go_upto_region 2 with (first | ((with_reducible refine gate_dst (N := 3) rfl ?_); refine bE 3 #[.int .i64 a0_0, .int .i64 a0_1, .bool a0_2] 23 ?_; intro gb624 hg w5 hbox hb; have BK624 := Aside0.mk (hbox); have GW624 := bG HB hg; have GE624 := bG HB hg; replace HB := bS HB hb; clear hb hbox hg) | ((with_reducible refine gate_dst (N := 4) rfl ?_); refine bE 4 #[.int .i64 a1_0, .int .i64 a1_1, .bool a1_2] 23 ?_; intro gb625 hg w6 hbox hb; have BK625 := Aside0.mk (hbox); have GW625 := bG HB hg; have GE625 := bG HB hg; replace HB := bS HB hb; have NB624_625 := bL BK624 hg; have NB625_624 := bR BK624 hg; replace BK624 := bB BK624 hb; clear hb hbox hg) | ((with_reducible refine gate_dst (N := 5) rfl ?_); refine bE 5 #[.int .i64 a2_0, .int .i64 a2_1, .bool a2_2] 23 ?_; intro gb626 hg w7 hbox hb; have BK626 := Aside0.mk (hbox); have GW626 := bG HB hg; have GE626 := bG HB hg; replace HB := bS HB hb; have NB624_626 := bL BK624 hg; have NB626_624 := bR BK624 hg; replace BK624 := bB BK624 hb; have NB625_626 := bL BK625 hg; have NB626_625 := bR BK625 hg; replace BK625 := bB BK625 hb; clear hb hbox hg) | ((with_reducible refine gate_dst (N := 6) rfl ?_); refine bE 6 #[.int .i64 0, .int .i64 0] 80 ?_; intro gb627 hg w8 hbox hb; have BK627 := Aside0.mk (hbox); have GW627 := bG HB hg; have GE627 := bG HB hg; replace HB := bS HB hb; have NB624_627 := bL BK624 hg; have NB627_624 := bR BK624 hg; replace BK624 := bB BK624 hb; have NB625_627 := bL BK625 hg; have NB627_625 := bR BK625 hg; replace BK625 := bB BK625 hb; have NB626_627 := bL BK626 hg; have NB627_626 := bR BK626 hg; replace BK626 := bB BK626 hb; clear hb hbox hg) | ((with_reducible refine gate_dst (N := 7) rfl ?_); refine bE 7 #[.int .i64 0, .int .i64 0] 80 ?_; intro gb628 hg w9 hbox hb; have BK628 := Aside0.mk (hbox); have GW628 := bG HB hg; have GE628 := bG HB hg; replace HB := bS HB hb; have NB624_628 := bL BK624 hg; have NB628_624 := bR BK624 hg; replace BK624 := bB BK624 hb; have NB625_628 := bL BK625 hg; have NB628_625 := bR BK625 hg; replace BK625 := bB BK625 hb; have NB626_628 := bL BK626 hg; have NB628_626 := bR BK626 hg; replace BK626 := bB BK626 hb; have NB627_628 := bL BK627 hg; have NB628_627 := bR BK627 hg; replace BK627 := bB BK627 hb; clear hb hbox hg; have hnb10 := NB628_624.out; have hnc10 := NB624_628.out; have hnb11 := NB628_625.out; have hnc11 := NB625_628.out; have hnb12 := NB628_626.out; have hnc12 := NB626_628.out; have hnb13 := NB628_627.out; have hnc13 := NB627_628.out; obtain ⟨hcz14_0, hcz14_1, hfz14_0, hfz14_1⟩ := bK2 (w := w9) BK628))
 (try simp only [Act.put, List.setIfInBounds_toArray, List.set_cons_zero, List.set_cons_succ])
 go_cut [36] (fun v36 wc => ∃ (kq : Nat) (x36_3 : Bool), v36 = .bool x36_3 ∧ Aside0 (impl_PairLine.j0 kq x36_3 a0_0 a0_1 a0_2 a1_0 a1_1 a1_2 a2_0 a2_1 a2_2 1 0 = some (r1, r2)) ∧ Aside0 (kq ≤ k) ∧ Aside0 (wc.heap[gb624]? = some (.cells #[.int .i64 a0_0, .int .i64 a0_1, .bool a0_2] 23 (0, 0))) ∧ Aside0 (wc.heap[gb625]? = some (.cells #[.int .i64 a1_0, .int .i64 a1_1, .bool a1_2] 23 (0, 0))) ∧ Aside0 (wc.heap[gb626]? = some (.cells #[.int .i64 a2_0, .int .i64 a2_1, .bool a2_2] 23 (0, 0))) ∧ Aside0 (wc.heap[gb627]? = some (.cells #[.int .i64 0, .int .i64 0] 80 (0, 0))) ∧ Aside0 (wc.heap[gb628]? = some (.cells #[.int .i64 1, .int .i64 0] 80 (0, 0))) ∧ Aside0 (Below w.heap.size w wc))
 case first =>
  have H := HC4.out
  clear HC4
  by_cases c15 : a0_2 = true
  ·subst c15
   rw [if_pos rfl] at H
   have H' := Aside0.mk H
   clear H
   have hnb16 := NB624_625.out
   have hnc16 := NB625_624.out
   have hnb17 := NB624_626.out
   have hnc17 := NB626_624.out
   have hnb18 := NB624_627.out
   have hnc18 := NB627_624.out
   have hnb19 := NB624_628.out
   have hnc19 := NB628_624.out
   obtain ⟨hcz20_0, hcz20_1, hcz20_2, hfz20_0, hfz20_1, hfz20_2⟩ := bK3 (w := w9) BK624
   go_wp2
   go_meet
   case rel => exact ⟨_, (true), rS, H', ⟨by first | omega | exact Nat.le_refl _⟩, ⟨bP BK624⟩, ⟨bP BK625⟩, ⟨bP BK626⟩, ⟨bP BK627⟩, ⟨bU BK628⟩, ⟨bZ HB⟩⟩
  ·replace c15 := Bool.eq_false_iff.mpr c15
   subst c15
   rw [if_neg (show ¬ (false = true) by decide)] at H
   by_cases c21 : a1_2 = true
   ·subst c21
    rw [if_pos rfl] at H
    have H' := Aside0.mk H
    clear H
    have hnb22 := NB624_625.out
    have hnc22 := NB625_624.out
    have hnb23 := NB624_626.out
    have hnc23 := NB626_624.out
    have hnb24 := NB624_627.out
    have hnc24 := NB627_624.out
    have hnb25 := NB624_628.out
    have hnc25 := NB628_624.out
    obtain ⟨hcz26_0, hcz26_1, hcz26_2, hfz26_0, hfz26_1, hfz26_2⟩ := bK3 (w := w9) BK624
    have hnb27 := NB625_626.out
    have hnc27 := NB626_625.out
    have hnb28 := NB625_627.out
    have hnc28 := NB627_625.out
    have hnb29 := NB625_628.out
    have hnc29 := NB628_625.out
    obtain ⟨hcz30_0, hcz30_1, hcz30_2, hfz30_0, hfz30_1, hfz30_2⟩ := bK3 (w := w9) BK625
    go_wp2
    go_meet
    case rel => exact ⟨_, (true), rS, H', ⟨by first | omega | exact Nat.le_refl _⟩, ⟨bP BK624⟩, ⟨bP BK625⟩, ⟨bP BK626⟩, ⟨bP BK627⟩, ⟨bU BK628⟩, ⟨bZ HB⟩⟩
   ·replace c21 := Bool.eq_false_iff.mpr c21
    subst c21
    rw [if_neg (show ¬ (false = true) by decide)] at H
    by_cases c31 : a2_2 = true
    ·subst c31
     rw [if_pos rfl] at H
     have H' := Aside0.mk H
     clear H
     have hnb32 := NB624_625.out
     have hnc32 := NB625_624.out
     have hnb33 := NB624_626.out
     have hnc33 := NB626_624.out
     have hnb34 := NB624_627.out
     have hnc34 := NB627_624.out
     have hnb35 := NB624_628.out
     have hnc35 := NB628_624.out
     obtain ⟨hcz36_0, hcz36_1, hcz36_2, hfz36_0, hfz36_1, hfz36_2⟩ := bK3 (w := w9) BK624
     have hnb37 := NB625_626.out
     have hnc37 := NB626_625.out
     have hnb38 := NB625_627.out
     have hnc38 := NB627_625.out
     have hnb39 := NB625_628.out
     have hnc39 := NB628_625.out
     obtain ⟨hcz40_0, hcz40_1, hcz40_2, hfz40_0, hfz40_1, hfz40_2⟩ := bK3 (w := w9) BK625
     have hnb41 := NB626_627.out
     have hnc41 := NB627_626.out
     have hnb42 := NB626_628.out
     have hnc42 := NB628_626.out
     obtain ⟨hcz43_0, hcz43_1, hcz43_2, hfz43_0, hfz43_1, hfz43_2⟩ := bK3 (w := w9) BK626
     go_wp2
     go_meet
     case rel => exact ⟨_, (true), rS, H', ⟨by first | omega | exact Nat.le_refl _⟩, ⟨bP BK624⟩, ⟨bP BK625⟩, ⟨bP BK626⟩, ⟨bP BK627⟩, ⟨bU BK628⟩, ⟨bZ HB⟩⟩
    ·replace c31 := Bool.eq_false_iff.mpr c31
     subst c31
     rw [if_neg (show ¬ (false = true) by decide)] at H
     replace H := Option.bind_eq_some_iff.mp H
     obtain ⟨t629, A440, H⟩ := H
     have A44 := Aside0.mk A440
     clear A440
     by_cases c45 : t629 = true
     ·subst c45
      rw [if_pos rfl] at H
      replace H := Option.bind_eq_some_iff.mp H
      obtain ⟨t630, A460, H⟩ := H
      have A46 := Aside0.mk A460
      clear A460
      by_cases c47 : t630 = true
      ·subst c47
       rw [if_pos rfl] at H
       replace H := Option.bind_eq_some_iff.mp H
       obtain ⟨t631, A480, H⟩ := H
       have A48 := Aside0.mk A480
       clear A480
       have H' := Aside0.mk H
       clear H
       have hnb49 := NB624_625.out
       have hnc49 := NB625_624.out
       have hnb50 := NB624_626.out
       have hnc50 := NB626_624.out
       have hnb51 := NB624_627.out
       have hnc51 := NB627_624.out
       have hnb52 := NB624_628.out
       have hnc52 := NB628_624.out
       obtain ⟨hcz53_0, hcz53_1, hcz53_2, hfz53_0, hfz53_1, hfz53_2⟩ := bK3 (w := w9) BK624
       have hnb54 := NB625_626.out
       have hnc54 := NB626_625.out
       have hnb55 := NB625_627.out
       have hnc55 := NB627_625.out
       have hnb56 := NB625_628.out
       have hnc56 := NB628_625.out
       obtain ⟨hcz57_0, hcz57_1, hcz57_2, hfz57_0, hfz57_1, hfz57_2⟩ := bK3 (w := w9) BK625
       have hnb58 := NB626_627.out
       have hnc58 := NB627_626.out
       have hnb59 := NB626_628.out
       have hnc59 := NB628_626.out
       obtain ⟨hcz60_0, hcz60_1, hcz60_2, hfz60_0, hfz60_1, hfz60_2⟩ := bK3 (w := w9) BK626
       go_wp2_with (first | (go_at_call 97; (with_reducible refine (impl_PointOk.calls a0_0 a0_1 false true _ A44.out).mono ?_); rintro e w61 ⟨rfl, hb⟩; replace BK624 := bB BK624 hb; replace BK625 := bB BK625 hb; replace BK626 := bB BK626 hb; replace BK627 := bB BK627 hb; replace BK628 := bV 80 #[.int .i64 1, .int .i64 0] BK628 hb; replace HB := bS HB hb; (try clear hb); obtain ⟨hcz62_0, hcz62_1, hcz62_2, hfz62_0, hfz62_1, hfz62_2⟩ := bK3 (w := w61) BK625) | (go_at_call 97; (with_reducible refine (impl_PointOk.calls a1_0 a1_1 false true _ A46.out).mono ?_); rintro e w63 ⟨rfl, hb⟩; replace BK624 := bB BK624 hb; replace BK625 := bB BK625 hb; replace BK626 := bB BK626 hb; replace BK627 := bB BK627 hb; replace BK628 := bB BK628 hb; replace HB := bS HB hb; (try clear hb); obtain ⟨hcz64_0, hcz64_1, hcz64_2, hfz64_0, hfz64_1, hfz64_2⟩ := bK3 (w := w63) BK626) | (go_at_call 97; (with_reducible refine (impl_PointOk.calls a2_0 a2_1 false t631 _ A48.out).mono ?_); rintro e w65 ⟨rfl, hb⟩; replace BK624 := bB BK624 hb; replace BK625 := bB BK625 hb; replace BK626 := bB BK626 hb; replace BK627 := bB BK627 hb; replace BK628 := bB BK628 hb; replace HB := bS HB hb; (try clear hb)))
       go_meet
       case rel => exact ⟨_, (!t631), rS, H', ⟨by first | omega | exact Nat.le_refl _⟩, ⟨bP BK624⟩, ⟨bP BK625⟩, ⟨bP BK626⟩, ⟨bP BK627⟩, ⟨bP BK628⟩, ⟨bZ HB⟩⟩
      ·replace c47 := Bool.eq_false_iff.mpr c47
       subst c47
       rw [if_neg (show ¬ (false = true) by decide)] at H
       have H' := Aside0.mk H
       clear H
       have hnb66 := NB624_625.out
       have hnc66 := NB625_624.out
       have hnb67 := NB624_626.out
       have hnc67 := NB626_624.out
       have hnb68 := NB624_627.out
       have hnc68 := NB627_624.out
       have hnb69 := NB624_628.out
       have hnc69 := NB628_624.out
       obtain ⟨hcz70_0, hcz70_1, hcz70_2, hfz70_0, hfz70_1, hfz70_2⟩ := bK3 (w := w9) BK624
       have hnb71 := NB625_626.out
       have hnc71 := NB626_625.out
       have hnb72 := NB625_627.out
       have hnc72 := NB627_625.out
       have hnb73 := NB625_628.out
       have hnc73 := NB628_625.out
       obtain ⟨hcz74_0, hcz74_1, hcz74_2, hfz74_0, hfz74_1, hfz74_2⟩ := bK3 (w := w9) BK625
       have hnb75 := NB626_627.out
       have hnc75 := NB627_626.out
       have hnb76 := NB626_628.out
       have hnc76 := NB628_626.out
       obtain ⟨hcz77_0, hcz77_1, hcz77_2, hfz77_0, hfz77_1, hfz77_2⟩ := bK3 (w := w9) BK626
       go_wp2_with (first | (go_at_call 97; (with_reducible refine (impl_PointOk.calls a0_0 a0_1 false true _ A44.out).mono ?_); rintro e w78 ⟨rfl, hb⟩; replace BK624 := bB BK624 hb; replace BK625 := bB BK625 hb; replace BK626 := bB BK626 hb; replace BK627 := bB BK627 hb; replace BK628 := bV 80 #[.int .i64 1, .int .i64 0] BK628 hb; replace HB := bS HB hb; (try clear hb); obtain ⟨hcz79_0, hcz79_1, hcz79_2, hfz79_0, hfz79_1, hfz79_2⟩ := bK3 (w := w78) BK625) | (go_at_call 97; (with_reducible refine (impl_PointOk.calls a1_0 a1_1 false false _ A46.out).mono ?_); rintro e w80 ⟨rfl, hb⟩; replace BK624 := bB BK624 hb; replace BK625 := bB BK625 hb; replace BK626 := bB BK626 hb; replace BK627 := bB BK627 hb; replace BK628 := bB BK628 hb; replace HB := bS HB hb; (try clear hb)))
       go_meet
       case rel => exact ⟨_, (true), rS, H', ⟨by first | omega | exact Nat.le_refl _⟩, ⟨bP BK624⟩, ⟨bP BK625⟩, ⟨bP BK626⟩, ⟨bP BK627⟩, ⟨bP BK628⟩, ⟨bZ HB⟩⟩
     ·replace c45 := Bool.eq_false_iff.mpr c45
      subst c45
      rw [if_neg (show ¬ (false = true) by decide)] at H
      have H' := Aside0.mk H
      clear H
      have hnb81 := NB624_625.out
      have hnc81 := NB625_624.out
      have hnb82 := NB624_626.out
      have hnc82 := NB626_624.out
      have hnb83 := NB624_627.out
      have hnc83 := NB627_624.out
      have hnb84 := NB624_628.out
      have hnc84 := NB628_624.out
      obtain ⟨hcz85_0, hcz85_1, hcz85_2, hfz85_0, hfz85_1, hfz85_2⟩ := bK3 (w := w9) BK624
      have hnb86 := NB625_626.out
      have hnc86 := NB626_625.out
      have hnb87 := NB625_627.out
      have hnc87 := NB627_625.out
      have hnb88 := NB625_628.out
      have hnc88 := NB628_625.out
      obtain ⟨hcz89_0, hcz89_1, hcz89_2, hfz89_0, hfz89_1, hfz89_2⟩ := bK3 (w := w9) BK625
      have hnb90 := NB626_627.out
      have hnc90 := NB627_626.out
      have hnb91 := NB626_628.out
      have hnc91 := NB628_626.out
      obtain ⟨hcz92_0, hcz92_1, hcz92_2, hfz92_0, hfz92_1, hfz92_2⟩ := bK3 (w := w9) BK626
      go_wp2_with (first | (go_at_call 97; (with_reducible refine (impl_PointOk.calls a0_0 a0_1 false false _ A44.out).mono ?_); rintro e w93 ⟨rfl, hb⟩; replace BK624 := bB BK624 hb; replace BK625 := bB BK625 hb; replace BK626 := bB BK626 hb; replace BK627 := bB BK627 hb; replace BK628 := bV 80 #[.int .i64 1, .int .i64 0] BK628 hb; replace HB := bS HB hb; (try clear hb)))
      go_meet
      case rel => exact ⟨_, (true), rS, H', ⟨by first | omega | exact Nat.le_refl _⟩, ⟨bP BK624⟩, ⟨bP BK625⟩, ⟨bP BK626⟩, ⟨bP BK627⟩, ⟨bP BK628⟩, ⟨bZ HB⟩⟩
 case rest =>
  clear HC4
  try clear c1
  try clear c2
  try clear p2
  try clear c3
  try clear c4
  try clear c5
  try clear c6
  try clear c7
  try clear c8
  try clear c9
  try clear c10
  try clear c11
  try clear c12
  try clear c13
  try clear c15
  try clear c16
  try clear c17
  try clear c18
  try clear c19
  try clear c21
  try clear c22
  try clear c23
  try clear c24
  try clear c25
  try clear c27
  try clear c28
  try clear c29
  try clear c31
  try clear c32
  try clear c33
  try clear c34
  try clear c35
  try clear c37
  try clear c38
  try clear c39
  try clear c41
  try clear c42
  try clear c45
  try clear c47
  try clear c49
  try clear c50
  try clear c51
  try clear c52
  try clear c54
  try clear c55
  try clear c56
  try clear c58
  try clear c59
  try clear c66
  try clear c67
  try clear c68
  try clear c69
  try clear c71
  try clear c72
  try clear c73
  try clear c75
  try clear c76
  try clear c81
  try clear c82
  try clear c83
  try clear c84
  try clear c86
  try clear c87
  try clear c88
  try clear c90
  try clear c91
  try clear hcz14_0
  try clear hcz14_1
  try clear hcz20_0
  try clear hcz20_1
  try clear hcz20_2
  try clear hcz26_0
  try clear hcz26_1
  try clear hcz26_2
  try clear hcz30_0
  try clear hcz30_1
  try clear hcz30_2
  try clear hcz36_0
  try clear hcz36_1
  try clear hcz36_2
  try clear hcz40_0
  try clear hcz40_1
  try clear hcz40_2
  try clear hcz43_0
  try clear hcz43_1
  try clear hcz43_2
  try clear hcz53_0
  try clear hcz53_1
  try clear hcz53_2
  try clear hcz57_0
  try clear hcz57_1
  try clear hcz57_2
  try clear hcz60_0
  try clear hcz60_1
  try clear hcz60_2
  try clear hcz62_0
  try clear hcz62_1
  try clear hcz62_2
  try clear hcz64_0
  try clear hcz64_1
  try clear hcz64_2
  try clear hcz70_0
  try clear hcz70_1
  try clear hcz70_2
  try clear hcz74_0
  try clear hcz74_1
  try clear hcz74_2
  try clear hcz77_0
  try clear hcz77_1
  try clear hcz77_2
  try clear hcz79_0
  try clear hcz79_1
  try clear hcz79_2
  try clear hcz85_0
  try clear hcz85_1
  try clear hcz85_2
  try clear hcz89_0
  try clear hcz89_1
  try clear hcz89_2
  try clear hcz92_0
  try clear hcz92_1
  try clear hcz92_2
  try clear hfz14_0
  try clear hfz14_1
  try clear hfz20_0
  try clear hfz20_1
  try clear hfz20_2
  try clear hfz26_0
  try clear hfz26_1
  try clear hfz26_2
  try clear hfz30_0
  try clear hfz30_1
  try clear hfz30_2
  try clear hfz36_0
  try clear hfz36_1
  try clear hfz36_2
  try clear hfz40_0
  try clear hfz40_1
  try clear hfz40_2
  try clear hfz43_0
  try clear hfz43_1
  try clear hfz43_2
  try clear hfz53_0
  try clear hfz53_1
  try clear hfz53_2
  try clear hfz57_0
  try clear hfz57_1
  try clear hfz57_2
  try clear hfz60_0
  try clear hfz60_1
  try clear hfz60_2
  try clear hfz62_0
  try clear hfz62_1
  try clear hfz62_2
  try clear hfz64_0
  try clear hfz64_1
  try clear hfz64_2
  try clear hfz70_0
  try clear hfz70_1
  try clear hfz70_2
  try clear hfz74_0
  try clear hfz74_1
  try clear hfz74_2
  try clear hfz77_0
  try clear hfz77_1
  try clear hfz77_2
  try clear hfz79_0
  try clear hfz79_1
  try clear hfz79_2
  try clear hfz85_0
  try clear hfz85_1
  try clear hfz85_2
  try clear hfz89_0
  try clear hfz89_1
  try clear hfz89_2
  try clear hfz92_0
  try clear hfz92_1
  try clear hfz92_2
  obtain ⟨kq, x36_3, rfl, HA, HJ3, BK624, BK625, BK626, BK627, BK628, HB⟩ := hcut
  cases kq with
  | zero => exact absurd HA.out (by simp [impl_PairLine.j0])
  | succ kj3 =>
   have H := HA.out
   clear HA
   simp only [impl_PairLine.j0] at H
   by_cases c94 : x36_3 = true
   ·subst c94
    rw [if_pos rfl] at H
    simp only [Option.some.injEq, Prod.mk.injEq] at H
    obtain ⟨rfl, rfl⟩ := H
    have hnb95 := NB628_624.out
    have hnc95 := NB624_628.out
    have hnb96 := NB628_625.out
    have hnc96 := NB625_628.out
    have hnb97 := NB628_626.out
    have hnc97 := NB626_628.out
    have hnb98 := NB628_627.out
    have hnc98 := NB627_628.out
    obtain ⟨hcz99_0, hcz99_1, hfz99_0, hfz99_1⟩ := bK2 (w := wc) BK628
    have hnb100 := NB627_624.out
    have hnc100 := NB624_627.out
    have hnb101 := NB627_625.out
    have hnc101 := NB625_627.out
    have hnb102 := NB627_626.out
    have hnc102 := NB626_627.out
    obtain ⟨hcz103_0, hcz103_1, hfz103_0, hfz103_1⟩ := bK2 (w := wc) BK627
    go_wp2
    refine rC gb627 80 #[.int .i64 1, .int .i64 0] (bU BK627) Tryd.underlying80 ?_
    exact ⟨rR, bZ HB⟩
   ·replace c94 := Bool.eq_false_iff.mpr c94
    subst c94
    rw [if_neg (show ¬ (false = true) by decide)] at H
    replace H := Option.bind_eq_some_iff.mp H
    obtain ⟨⟨t632, t633⟩, A1040, H⟩ := H
    have A104 := Aside0.mk A1040
    clear A1040
    by_cases c105 : t633 = true
    ·subst c105
     rw [if_pos rfl] at H
     replace H := Option.bind_eq_some_iff.mp H
     obtain ⟨t634, A1060, H⟩ := H
     have A106 := Aside0.mk A1060
     clear A1060
     replace H := Option.bind_eq_some_iff.mp H
     obtain ⟨t635, A1070, H⟩ := H
     have A107 := Aside0.mk A1070
     clear A1070
     replace H := Option.bind_eq_some_iff.mp H
     obtain ⟨t636, A1080, H⟩ := H
     have A108 := Aside0.mk A1080
     clear A1080
     replace H := Option.bind_eq_some_iff.mp H
     obtain ⟨t637, A1090, H⟩ := H
     have A109 := Aside0.mk A1090
     clear A1090
     replace H := Option.bind_eq_some_iff.mp H
     obtain ⟨t638, A1100, H⟩ := H
     have A110 := Aside0.mk A1100
     clear A1100
     simp only [Option.some.injEq, Prod.mk.injEq] at H
     obtain ⟨rfl, rfl⟩ := H
     have hnb111 := NB624_625.out
     have hnc111 := NB625_624.out
     have hnb112 := NB624_626.out
     have hnc112 := NB626_624.out
     have hnb113 := NB624_627.out
     have hnc113 := NB627_624.out
     have hnb114 := NB624_628.out
     have hnc114 := NB628_624.out
     obtain ⟨hcz115_0, hcz115_1, hcz115_2, hfz115_0, hfz115_1, hfz115_2⟩ := bK3 (w := wc) BK624
     have hnb116 := NB625_626.out
     have hnc116 := NB626_625.out
     have hnb117 := NB625_627.out
     have hnc117 := NB627_625.out
     have hnb118 := NB625_628.out
     have hnc118 := NB628_625.out
     obtain ⟨hcz119_0, hcz119_1, hcz119_2, hfz119_0, hfz119_1, hfz119_2⟩ := bK3 (w := wc) BK625
     try go_wp2_with (first | ((with_reducible refine gate_callee (f := 125) rfl ?_); refine gL (some 41) Tryd.func125 #[.agg #[.int .i64 a0_0, .int .i64 a0_1, .bool a0_2], .agg #[.int .i64 a1_0, .int .i64 a1_1, .bool a1_2]] ?_; (with_reducible refine (impl_slopeOf.calls kj3 a0_0 a0_1 a0_2 a1_0 a1_1 a1_2 t632 true _ A104.out).mono ?_); rintro e w120 ⟨rfl, hb⟩; refine ⟨_, rfl, ?_⟩; replace BK624 := bB BK624 hb; replace BK625 := bB BK625 hb; replace BK626 := bB BK626 hb; replace BK627 := bB BK627 hb; replace BK628 := bB BK628 hb; replace HB := bS HB hb; (try clear hb)))
     replace BK624 := Aside0.mk (blk_drew BK624.out)
     replace BK625 := Aside0.mk (blk_drew BK625.out)
     replace BK626 := Aside0.mk (blk_drew BK626.out)
     replace BK627 := Aside0.mk (blk_drew BK627.out)
     replace BK628 := Aside0.mk (blk_drew BK628.out)
     replace HB := Aside0.mk (below_drew1 HB.out)
     refine start_ (n := 7) (S := fun w' => w'.cell? ⟨gb626, 0, none⟩ = some (.int .i64 a2_0) ∧ w'.cell? ⟨gb626, 1, none⟩ = some (.int .i64 a2_1) ∧ w'.cell? ⟨gb626, 2, none⟩ = some (.bool a2_2) ∧ w'.cell? ⟨gb624, 0, none⟩ = some (.int .i64 a0_0) ∧ w'.cell? ⟨gb624, 1, none⟩ = some (.int .i64 a0_1) ∧ w'.cell? ⟨gb624, 2, none⟩ = some (.bool a0_2)) (ds := []) #[false, false, false, false, false, false, false] (by kernel_rfl) rfl rfl ⟨bc BK626 0, bc BK626 1, bc BK626 2, bc BK624 0, bc BK624 1, bc BK624 2⟩ (fun hHeld => ?_)
     generalize w120.drew = w121 at BK624 BK625 BK626 BK627 BK628 HB hHeld ⊢
     refine pure_ (i := 0) (N := some 47) (v := ?_) (a' := ?_) #[true, false, false, false, false, false, false] rfl rfl (by kernel_rfl) (fun _ _ _ h => h) (Or.inl ⟨by rfl, ?_⟩) ?_ ?_
     rotate_left
     ·intro w'
      go_simp
      with_reducible rfl
     rotate_left
     ·simp only [Act.put, List.setIfInBounds_toArray, List.set_cons_zero, List.set_cons_succ, i64_w, i32_w]
      rfl
     refine pure_ (i := 3) (N := some 50) (v := ?_) (a' := ?_) #[true, false, false, true, false, false, false] rfl rfl (by kernel_rfl) (fun _ _ _ h => h) (Or.inl ⟨by rfl, ?_⟩) ?_ ?_
     rotate_left
     ·intro w'
      go_simp
      with_reducible rfl
     rotate_left
     ·simp only [Act.put, List.setIfInBounds_toArray, List.set_cons_zero, List.set_cons_succ, i64_w, i32_w]
      rfl
     refine take_ (i := 1) (N := some 48) (v := ?_) (a' := ?_) #[true, true, false, true, false, false, false] rfl rfl (by kernel_rfl) (fun _ _ _ h => h) (Or.inl ⟨by rfl, ?_⟩) hHeld ?_ ?_
     rotate_left
     ·rintro w' ⟨s0, s1, s2, s3, s4, s5⟩
      go_simp
      with_reducible rfl
     rotate_left
     ·simp only [Act.put, List.setIfInBounds_toArray, List.set_cons_zero, List.set_cons_succ, i64_w, i32_w]
      rfl
     refine take_ (i := 4) (N := some 51) (v := ?_) (a' := ?_) #[true, true, false, true, true, false, false] rfl rfl (by kernel_rfl) (fun _ _ _ h => h) (Or.inl ⟨by rfl, ?_⟩) hHeld ?_ ?_
     rotate_left
     ·rintro w' ⟨s0, s1, s2, s3, s4, s5⟩
      go_simp
      with_reducible rfl
     rotate_left
     ·simp only [Act.put, List.setIfInBounds_toArray, List.set_cons_zero, List.set_cons_succ, i64_w, i32_w]
      rfl
     refine one_ (i := 2) (N := some 49) #[true, true, true, true, true, false, false] rfl rfl (by kernel_rfl) (by decide) (fun K hK => ?_)
     refine gO Tryd.func126 #[.int .i64 0, .int .i64 a2_0] ?_
     with_reducible refine (impl_FpSub.calls 0 a2_0 t634 _ A106.out).mono ?_
     rintro e w' ⟨rfl, ⟨nd, rfl⟩⟩
     refine ⟨_, rfl, ?_⟩
     refine hK.out _ _ ⟨bc BK626 0, bc BK626 1, bc BK626 2, bc BK624 0, bc BK624 1, bc BK624 2⟩ (fun hHeld => ?_)
     clear hK K
     refine nO (some 49) ?_
     refine one_ (i := 5) (N := some 52) #[true, true, true, true, true, true, false] rfl rfl (by kernel_rfl) (by decide) (fun K hK => ?_)
     refine gO Tryd.func126 #[.int .i64 t634, .int .i64 a0_0] ?_
     with_reducible refine (impl_FpSub.calls t634 a0_0 t635 _ A107.out).mono ?_
     rintro e w' ⟨rfl, ⟨nd, rfl⟩⟩
     refine ⟨_, rfl, ?_⟩
     refine hK.out _ _ ⟨bc BK626 0, bc BK626 1, bc BK626 2, bc BK624 0, bc BK624 1, bc BK624 2⟩ (fun hHeld => ?_)
     clear hK K
     refine nO (some 52) ?_
     refine pure_ (i := 6) (N := some 10) (v := ?_) (a' := ?_) #[true, true, true, true, true, true, true] rfl rfl (by kernel_rfl) (fun _ _ _ h => h) (Or.inl ⟨by rfl, ?_⟩) ?_ ?_
     rotate_left
     ·intro w'
      go_simp
      with_reducible rfl
     rotate_left
     ·simp only [Act.put, List.setIfInBounds_toArray, List.set_cons_zero, List.set_cons_succ, i64_w, i32_w]
      rfl
     refine done_ (by kernel_rfl) ?_
     try go_wp2
     (try simp only [World.drewN_drewN]); (try (rw [drewN_self w121]; generalize hq_ : World.drewN w121 _ = w121; replace BK624 : Aside0 (w121.heap[gb624]? = some (.cells #[.int .i64 a0_0, .int .i64 a0_1, .bool a0_2] 23 (0, 0))) := ⟨by rw [← hq_]; exact (bP BK624)⟩; replace BK625 : Aside0 (w121.heap[gb625]? = some (.cells #[.int .i64 a1_0, .int .i64 a1_1, .bool a1_2] 23 (0, 0))) := ⟨by rw [← hq_]; exact (bP BK625)⟩; replace BK626 : Aside0 (w121.heap[gb626]? = some (.cells #[.int .i64 a2_0, .int .i64 a2_1, .bool a2_2] 23 (0, 0))) := ⟨by rw [← hq_]; exact (bP BK626)⟩; replace BK627 : Aside0 (w121.heap[gb627]? = some (.cells #[.int .i64 0, .int .i64 0] 80 (0, 0))) := ⟨by rw [← hq_]; exact (bP BK627)⟩; replace BK628 : Aside0 (w121.heap[gb628]? = some (.cells #[.int .i64 1, .int .i64 0] 80 (0, 0))) := ⟨by rw [← hq_]; exact (bP BK628)⟩; replace HB : Aside0 (Below w.heap.size w w121) := ⟨by rw [← hq_]; exact (bZ HB)⟩; clear hq_))
     replace BK624 := Aside0.mk (blk_drew BK624.out)
     replace BK625 := Aside0.mk (blk_drew BK625.out)
     replace BK626 := Aside0.mk (blk_drew BK626.out)
     replace BK627 := Aside0.mk (blk_drew BK627.out)
     replace BK628 := Aside0.mk (blk_drew BK628.out)
     replace HB := Aside0.mk (below_drew1 HB.out)
     refine start_ (n := 11) (S := fun w' => w'.cell? ⟨gb624, 0, none⟩ = some (.int .i64 a0_0) ∧ w'.cell? ⟨gb624, 1, none⟩ = some (.int .i64 a0_1) ∧ w'.cell? ⟨gb624, 2, none⟩ = some (.bool a0_2) ∧ w'.cell? ⟨gb626, 0, none⟩ = some (.int .i64 a2_0) ∧ w'.cell? ⟨gb626, 1, none⟩ = some (.int .i64 a2_1) ∧ w'.cell? ⟨gb626, 2, none⟩ = some (.bool a2_2)) (ds := []) #[false, false, false, false, false, false, false, false, false, false, false] (by kernel_rfl) rfl rfl ⟨bc BK624 0, bc BK624 1, bc BK624 2, bc BK626 0, bc BK626 1, bc BK626 2⟩ (fun hHeld => ?_); refine with_tabW impl_PairLine.tab8 impl_PairLine.bits8 (fun HT_ HW_ => ?_)
     generalize w121.drew = w122 at BK624 BK625 BK626 BK627 BK628 HB hHeld ⊢
     refine pI 0 (some 53) HT_.out ?_
     refine pI 3 (some 56) HT_.out ?_
     refine pI 4 (some 57) HT_.out ?_
     refine pI 7 (some 60) HT_.out ?_
     refine tI6 1 (some 54) HT_.out HW_.out hHeld ?_
     refine tI6 8 (some 61) HT_.out HW_.out hHeld ?_
     refine oI 2 (some 55) HT_.out (fun K hK => ?_)
     refine gO Tryd.func126 #[.int .i64 0, .int .i64 a0_1] ?_
     with_reducible refine (impl_FpSub.calls 0 a0_1 t636 _ A108.out).mono ?_
     rintro e w' ⟨rfl, ⟨nd, rfl⟩⟩
     refine ⟨_, rfl, ?_⟩
     refine hK.out _ _ ⟨bc BK624 0, bc BK624 1, bc BK624 2, bc BK626 0, bc BK626 1, bc BK626 2⟩ (fun hHeld => ?_)
     clear hK K
     refine nO (some 55) ?_
     refine oI 5 (some 58) HT_.out (fun K hK => ?_)
     refine gO Tryd.func95 #[.int .i64 t632, .int .i64 t635] ?_
     with_reducible refine (impl_FpMul.calls t632 t635 t637 _ A109.out).mono ?_
     rintro e w' ⟨rfl, ⟨nd, rfl⟩⟩
     refine ⟨_, rfl, ?_⟩
     refine hK.out _ _ ⟨bc BK624 0, bc BK624 1, bc BK624 2, bc BK626 0, bc BK626 1, bc BK626 2⟩ (fun hHeld => ?_)
     clear hK K
     refine nO (some 58) ?_
     refine oI 6 (some 59) HT_.out (fun K hK => ?_)
     refine gO Tryd.func126 #[.int .i64 t636, .int .i64 t637] ?_
     with_reducible refine (impl_FpSub.calls t636 t637 t638 _ A110.out).mono ?_
     rintro e w' ⟨rfl, ⟨nd, rfl⟩⟩
     refine ⟨_, rfl, ?_⟩
     refine hK.out _ _ ⟨bc BK624 0, bc BK624 1, bc BK624 2, bc BK626 0, bc BK626 1, bc BK626 2⟩ (fun hHeld => ?_)
     clear hK K
     refine nO (some 59) ?_
     refine pI 9 (some 62) HT_.out ?_
     refine oI 10 (none) HT_.out (fun K hK => ?_)
     have hs123 : w122.cell? ⟨gb627, 0, none⟩ = some (.int .i64 0) := bc BK627 0
     have hfs123 := blk_frozen BK627.out 0
     have hns123_0 := NB624_627.out
     have hns123_1 := NB625_627.out
     have hns123_2 := NB626_627.out
     have hns123_4 := NB628_627.out
     have hms123_0 := NB627_624.out
     have hms123_1 := NB627_625.out
     have hms123_2 := NB627_626.out
     have hms123_4 := NB627_628.out
     have hs124 : w122.cell? ⟨gb627, 1, none⟩ = some (.int .i64 0) := bc BK627 1
     have hfs124 := blk_frozen BK627.out 1
     have hns124_0 := NB624_627.out
     have hns124_1 := NB625_627.out
     have hns124_2 := NB626_627.out
     have hns124_4 := NB628_627.out
     have hms124_0 := NB627_624.out
     have hms124_1 := NB627_625.out
     have hms124_2 := NB627_626.out
     have hms124_4 := NB627_628.out
     refine skip_ (w1 := ?_) (by rfl) rfl ?_ ?_
     rotate_left
     ·go_simp
      rfl
     refine hK.out _ _ ⟨((cell_far (p := ⟨gb627, _, none⟩) NB624_627.out _).trans (((cell_far (p := ⟨gb627, _, none⟩) NB624_627.out _).trans (hHeld.1)))), ((cell_far (p := ⟨gb627, _, none⟩) NB624_627.out _).trans (((cell_far (p := ⟨gb627, _, none⟩) NB624_627.out _).trans (hHeld.2.1)))), ((cell_far (p := ⟨gb627, _, none⟩) NB624_627.out _).trans (((cell_far (p := ⟨gb627, _, none⟩) NB624_627.out _).trans (hHeld.2.2.1)))), ((cell_far (p := ⟨gb627, _, none⟩) NB626_627.out _).trans (((cell_far (p := ⟨gb627, _, none⟩) NB626_627.out _).trans (hHeld.2.2.2.1)))), ((cell_far (p := ⟨gb627, _, none⟩) NB626_627.out _).trans (((cell_far (p := ⟨gb627, _, none⟩) NB626_627.out _).trans (hHeld.2.2.2.2.1)))), ((cell_far (p := ⟨gb627, _, none⟩) NB626_627.out _).trans (((cell_far (p := ⟨gb627, _, none⟩) NB626_627.out _).trans (hHeld.2.2.2.2.2))))⟩ (fun hHeld => ?_)
     clear hK K
     refine done_ (done_of HT_.out (by kernel_rfl)) ?_
     try go_wp2
     refine rC gb627 80 #[.int .i64 t638, .int .i64 a2_1] (bU BK627) Tryd.underlying80 ?_
     exact ⟨rR, bZ HB⟩
    ·replace c105 := Bool.eq_false_iff.mpr c105
     subst c105
     rw [if_neg (show ¬ (false = true) by decide)] at H
     simp only [Option.some.injEq, Prod.mk.injEq] at H
     obtain ⟨rfl, rfl⟩ := H
     have hnb125 := NB624_625.out
     have hnc125 := NB625_624.out
     have hnb126 := NB624_626.out
     have hnc126 := NB626_624.out
     have hnb127 := NB624_627.out
     have hnc127 := NB627_624.out
     have hnb128 := NB624_628.out
     have hnc128 := NB628_624.out
     obtain ⟨hcz129_0, hcz129_1, hcz129_2, hfz129_0, hfz129_1, hfz129_2⟩ := bK3 (w := wc) BK624
     have hnb130 := NB625_626.out
     have hnc130 := NB626_625.out
     have hnb131 := NB625_627.out
     have hnc131 := NB627_625.out
     have hnb132 := NB625_628.out
     have hnc132 := NB628_625.out
     obtain ⟨hcz133_0, hcz133_1, hcz133_2, hfz133_0, hfz133_1, hfz133_2⟩ := bK3 (w := wc) BK625
     go_wp2_with (first | ((with_reducible refine gate_callee (f := 125) rfl ?_); refine gL (some 41) Tryd.func125 #[.agg #[.int .i64 a0_0, .int .i64 a0_1, .bool a0_2], .agg #[.int .i64 a1_0, .int .i64 a1_1, .bool a1_2]] ?_; (with_reducible refine (impl_slopeOf.calls kj3 a0_0 a0_1 a0_2 a1_0 a1_1 a1_2 t632 false _ A104.out).mono ?_); rintro e w134 ⟨rfl, hb⟩; refine ⟨_, rfl, ?_⟩; replace BK624 := bB BK624 hb; replace BK625 := bB BK625 hb; replace BK626 := bB BK626 hb; replace BK627 := bB BK627 hb; replace BK628 := bB BK628 hb; replace HB := bS HB hb; (try clear hb); have hnb135 := NB628_626.out; have hnc135 := NB626_628.out; have hnb136 := NB628_627.out; have hnc136 := NB627_628.out; obtain ⟨hcz137_0, hcz137_1, hfz137_0, hfz137_1⟩ := bK2 (w := w134) BK628; have hnb138 := NB627_626.out; have hnc138 := NB626_627.out; obtain ⟨hcz139_0, hcz139_1, hfz139_0, hfz139_1⟩ := bK2 (w := w134) BK627))
     refine rC gb627 80 #[.int .i64 1, .int .i64 0] (bU BK627) Tryd.underlying80 ?_
     exact ⟨rR, bZ HB⟩
def impl_Miller.l0 : Nat → Int → Int → Int → Bool → Int → Int → Bool → Int → Int → Int → Int → Bool → Option (Int × Int)
 | 0, _, _, _, _, _, _, _, _, _, _, _, _ => none
 | k + 1, x7, x640000, x640001, x640002, x641000, x641001, x641002, x643000, x643001, x644000, x644001, x644002 => if x7 ≥ 0 then ((impl_TwoMul.f x643000 x643001 x643000 x643001).bind fun bt645 => ((impl_PairLine.f k x644000 x644001 x644002 x644000 x644001 x644002 x641000 x641001 x641002).bind fun bt647 => ((impl_TwoMul.f bt645.1 bt645.2 bt647.1 bt647.2).bind fun bt649 => ((impl_PointAdd.f k x644000 x644001 x644002 x644000 x644001 x644002).bind fun bt651 => (if 0 ≤ (IntKind.u64.wrap (x7)) then (if (Go.bits .and .i64 (shr .i64 1009 (IntKind.u64.wrap (x7))) 1) = 1 then ((impl_PairLine.f k bt651.1 bt651.2.1 bt651.2.2 x640000 x640001 x640002 x641000 x641001 x641002).bind fun bt654 => ((impl_TwoMul.f bt649.1 bt649.2 bt654.1 bt654.2).bind fun bt656 => ((impl_PointAdd.f k bt651.1 bt651.2.1 bt651.2.2 x640000 x640001 x640002).bind fun bt658 => (impl_Miller.l0 k (wrap64 (x7 - 1)) x640000 x640001 x640002 x641000 x641001 x641002 bt656.1 bt656.2 bt658.1 bt658.2.1 bt658.2.2)))) else (impl_Miller.l0 k (wrap64 (x7 - 1)) x640000 x640001 x640002 x641000 x641001 x641002 bt649.1 bt649.2 bt651.1 bt651.2.1 bt651.2.2)) else (none)))))) else (some (x643000, x643001))
def impl_Miller.f (k : Nat) (a0_0 : Int) (a0_1 : Int) (a0_2 : Bool) (a1_0 : Int) (a1_1 : Int) (a1_2 : Bool) : Option (Int × Int) := (bits_Len.f k 1009).bind fun t644 => (impl_Miller.l0 k (wrap64 (t644 - 2)) a0_0 a0_1 a0_2 a1_0 a1_1 a1_2 1 0 a0_0 a0_1 a0_2)
def impl_Miller.T6 : Bool × List (List Nat × List Nat) := (true, [([], []), ([], []), ([0, 1], [0, 1]), ([], []), ([], []), ([], []), ([3, 4, 5, 2], [3, 4, 5]), ([2, 6, 6], [2, 6]), ([7, 7, 0, 1, 2, 3, 4, 5, 6, 7], [7])])
def impl_Miller.B6 : List Nat := [0, 0, 3, 0, 0, 0, 63, 127, 255]
theorem impl_Miller.tab6 : rtab .any (opsOf Tryd.f107 6) = impl_Miller.T6 := by kernel_rfl
theorem impl_Miller.bits6 : waitsOk impl_Miller.T6.2 impl_Miller.B6 = true := by kernel_rfl
set_option maxHeartbeats 8000000 in
set_option maxRecDepth 100000 in
theorem impl_Miller.calls (k : Nat) (a0_0 : Int) (a0_1 : Int) (a0_2 : Bool) (a1_0 : Int) (a1_1 : Int) (a1_2 : Bool) (r1 : Int) (r2 : Int) (w : World) (h : impl_Miller.f k a0_0 a0_1 a0_2 a1_0 a1_1 a1_2 = some (r1, r2)) :
  Calls Tryd.prog 107 #[.agg #[.int .i64 a0_0, .int .i64 a0_1, .bool a0_2], .agg #[.int .i64 a1_0, .int .i64 a1_1, .bool a1_2]] w fun e w' => e = .returned (.agg #[.int .i64 r1, .int .i64 r2]) ∧ Below w.heap.size w w' := by
 have hu23 := Tryd.underlying23
 have hu80 := Tryd.underlying80
 have HB := Aside0.mk (Below.refl w.heap.size w)
 have H : ((bits_Len.f k 1009).bind fun t644 => (impl_Miller.l0 k (wrap64 (t644 - 2)) a0_0 a0_1 a0_2 a1_0 a1_1 a1_2 1 0 a0_0 a0_1 a0_2)) = some (r1, r2) := h
 clear h
 replace H := Option.bind_eq_some_iff.mp H
 obtain ⟨t644, A30, H⟩ := H
 have A3 := Aside0.mk A30
 clear A30
 have H' := Aside0.mk H
 clear H
 go_enter Tryd.func107, Tryd.ntmps107
 go_wp2_with (first | ((with_reducible refine gate_dst (N := 2) rfl ?_); refine bE 2 #[.int .i64 a0_0, .int .i64 a0_1, .bool a0_2] 23 ?_; intro gb639 hg w4 hbox hb; have BK639 := Aside0.mk (hbox); have GW639 := bG HB hg; have GE639 := bG HB hg; replace HB := bS HB hb; clear hb hbox hg) | ((with_reducible refine gate_dst (N := 3) rfl ?_); refine bE 3 #[.int .i64 a1_0, .int .i64 a1_1, .bool a1_2] 23 ?_; intro gb640 hg w5 hbox hb; have BK640 := Aside0.mk (hbox); have GW640 := bG HB hg; have GE640 := bG HB hg; replace HB := bS HB hb; have NB639_640 := bL BK639 hg; have NB640_639 := bR BK639 hg; replace BK639 := bB BK639 hb; clear hb hbox hg) | ((with_reducible refine gate_dst (N := 4) rfl ?_); refine bE 4 #[.int .i64 0, .int .i64 0] 80 ?_; intro gb641 hg w6 hbox hb; have BK641 := Aside0.mk (hbox); have GW641 := bG HB hg; have GE641 := bG HB hg; replace HB := bS HB hb; have NB639_641 := bL BK639 hg; have NB641_639 := bR BK639 hg; replace BK639 := bB BK639 hb; have NB640_641 := bL BK640 hg; have NB641_640 := bR BK640 hg; replace BK640 := bB BK640 hb; clear hb hbox hg) | ((with_reducible refine gate_dst (N := 5) rfl ?_); refine bE 5 #[.int .i64 0, .int .i64 0] 80 ?_; intro gb642 hg w7 hbox hb; have BK642 := Aside0.mk (hbox); have GW642 := bG HB hg; have GE642 := bG HB hg; replace HB := bS HB hb; have NB639_642 := bL BK639 hg; have NB642_639 := bR BK639 hg; replace BK639 := bB BK639 hb; have NB640_642 := bL BK640 hg; have NB642_640 := bR BK640 hg; replace BK640 := bB BK640 hb; have NB641_642 := bL BK641 hg; have NB642_641 := bR BK641 hg; replace BK641 := bB BK641 hb; clear hb hbox hg; have hnb8 := NB642_639.out; have hnc8 := NB639_642.out; have hnb9 := NB642_640.out; have hnc9 := NB640_642.out; have hnb10 := NB642_641.out; have hnc10 := NB641_642.out; obtain ⟨hcz11_0, hcz11_1, hfz11_0, hfz11_1⟩ := bK2 (w := w7) BK642; have hnb12 := NB639_640.out; have hnc12 := NB640_639.out; have hnb13 := NB639_641.out; have hnc13 := NB641_639.out; obtain ⟨hcz14_0, hcz14_1, hcz14_2, hfz14_0, hfz14_1, hfz14_2⟩ := bK3 (w := w7) BK639) | ((with_reducible refine gate_dst (N := 6) rfl ?_); refine bE 6 #[.int .i64 0, .int .i64 0, .bool false] 23 ?_; intro gb643 hg w15 hbox hb; have BK643 := Aside0.mk (hbox); have GW643 := bG HB hg; have GE643 := bG HB hg; replace HB := bS HB hb; have NB639_643 := bL BK639 hg; have NB643_639 := bR BK639 hg; replace BK639 := bB BK639 hb; have NB640_643 := bL BK640 hg; have NB643_640 := bR BK640 hg; replace BK640 := bB BK640 hb; have NB641_643 := bL BK641 hg; have NB643_641 := bR BK641 hg; replace BK641 := bB BK641 hb; have NB642_643 := Aside0.mk ((by rw [hg]; exact Nat.ne_of_lt (blk_lt (g := gb642) (o := .cells #[.int .i64 1, .int .i64 0] 80 (0, 0)) (bU BK642)) : gb642 ≠ gb643)); have NB643_642 := Aside0.mk ((by rw [hg]; exact Nat.ne_of_gt (blk_lt (g := gb642) (o := .cells #[.int .i64 1, .int .i64 0] 80 (0, 0)) (bU BK642)) : gb643 ≠ gb642)); replace BK642 := bV 80 #[.int .i64 1, .int .i64 0] BK642 hb; clear hb hbox hg; have hnb16 := NB643_639.out; have hnc16 := NB639_643.out; have hnb17 := NB643_640.out; have hnc17 := NB640_643.out; have hnb18 := NB643_641.out; have hnc18 := NB641_643.out; have hnb19 := NB643_642.out; have hnc19 := NB642_643.out; obtain ⟨hcz20_0, hcz20_1, hcz20_2, hfz20_0, hfz20_1, hfz20_2⟩ := bK3 (w := w15) BK643) | ((with_reducible refine gate_callee (f := 132) rfl ?_); refine gL (some 10) Tryd.func132 #[.int .u64 1009] ?_; (with_reducible refine (bits_Len.calls k 1009 t644 _ A3.out).mono ?_); rintro e w' ⟨rfl, ⟨nd, rfl⟩⟩; refine ⟨_, rfl, ?_⟩))
 go_loopg [7] k (fun kq v7 w' => ∃ (x7_1 : Int) (x643000_1 : Int) (x643001_1 : Int) (x644000_1 : Int) (x644001_1 : Int) (x644002_1 : Bool), v7 = .int .i64 x7_1 ∧ Aside0 (impl_Miller.l0 kq x7_1 a0_0 a0_1 a0_2 a1_0 a1_1 a1_2 x643000_1 x643001_1 x644000_1 x644001_1 x644002_1 = some (r1, r2)) ∧ Aside0 (kq ≤ k) ∧ Aside0 (w'.heap[gb639]? = some (.cells #[.int .i64 a0_0, .int .i64 a0_1, .bool a0_2] 23 (0, 0))) ∧ Aside0 (w'.heap[gb640]? = some (.cells #[.int .i64 a1_0, .int .i64 a1_1, .bool a1_2] 23 (0, 0))) ∧ Aside0 (w'.heap[gb641]? = some (.cells #[.int .i64 0, .int .i64 0] 80 (0, 0))) ∧ Aside0 (w'.heap[gb642]? = some (.cells #[.int .i64 x643000_1, .int .i64 x643001_1] 80 (0, 0))) ∧ Aside0 (w'.heap[gb643]? = some (.cells #[.int .i64 x644000_1, .int .i64 x644001_1, .bool x644002_1] 23 (0, 0))) ∧ Aside0 (Below w.heap.size w w'))
 case atStart => exact ⟨(wrap64 (t644 - 2)), (1), (0), (a0_0), (a0_1), (a0_2), rS, H', ⟨Nat.le_refl _⟩, ⟨bP BK639⟩, ⟨bP BK640⟩, ⟨bP BK641⟩, ⟨bP BK642⟩, ⟨bU BK643⟩, ⟨bZ HB⟩⟩
 case round =>
  clear H'
  try clear c1
  try clear p2
  try clear p6
  try clear c8
  try clear c9
  try clear c10
  try clear c12
  try clear c13
  try clear c16
  try clear c17
  try clear c18
  try clear c19
  try clear hcz11_0
  try clear hcz11_1
  try clear hcz14_0
  try clear hcz14_1
  try clear hcz14_2
  try clear hcz20_0
  try clear hcz20_1
  try clear hcz20_2
  try clear hfz11_0
  try clear hfz11_1
  try clear hfz14_0
  try clear hfz14_1
  try clear hfz14_2
  try clear hfz20_0
  try clear hfz20_1
  try clear hfz20_2
  obtain ⟨x7_1, x643000_1, x643001_1, x644000_1, x644001_1, x644002_1, rfl, HA, HK1, BK639, BK640, BK641, BK642, BK643, HB⟩ := hrel
  cases gk with
  | zero => exact absurd HA.out (by simp [impl_Miller.l0])
  | succ k1 =>
   have H := HA.out
   clear HA
   simp only [impl_Miller.l0] at H
   by_cases c21 : x7_1 ≥ 0
   ·rw [if_pos c21] at H
    have c21b0 : decide (0 ≤ x7_1) = true := decide_eq_true c21
    clear c21
    replace H := Option.bind_eq_some_iff.mp H
    obtain ⟨⟨t645, t646⟩, A220, H⟩ := H
    have A22 := Aside0.mk A220
    clear A220
    replace H := Option.bind_eq_some_iff.mp H
    obtain ⟨⟨t647, t648⟩, A230, H⟩ := H
    have A23 := Aside0.mk A230
    clear A230
    replace H := Option.bind_eq_some_iff.mp H
    obtain ⟨⟨t649, t650⟩, A240, H⟩ := H
    have A24 := Aside0.mk A240
    clear A240
    replace H := Option.bind_eq_some_iff.mp H
    obtain ⟨⟨t651, t652, t653⟩, A250, H⟩ := H
    have A25 := Aside0.mk A250
    clear A250
    obtain ⟨ji26, hji26⟩ : ∃ j_ : Int, (IntKind.u64.wrap (x7_1)) = j_ := ⟨_, rfl⟩
    replace H : (if 0 ≤ (ji26) then (if (Go.bits .and .i64 (shr .i64 1009 (ji26)) 1) = 1 then ((impl_PairLine.f k1 t651 t652 t653 a0_0 a0_1 a0_2 a1_0 a1_1 a1_2).bind fun bt654 => ((impl_TwoMul.f t649 t650 bt654.1 bt654.2).bind fun bt656 => ((impl_PointAdd.f k1 t651 t652 t653 a0_0 a0_1 a0_2).bind fun bt658 => (impl_Miller.l0 k1 (wrap64 (x7_1 - 1)) a0_0 a0_1 a0_2 a1_0 a1_1 a1_2 bt656.1 bt656.2 bt658.1 bt658.2.1 bt658.2.2)))) else (impl_Miller.l0 k1 (wrap64 (x7_1 - 1)) a0_0 a0_1 a0_2 a1_0 a1_1 a1_2 t649 t650 t651 t652 t653)) else (none)) = some (r1, r2) := by first | (rw [hji26] at H; exact H) | (simp only [hji26] at H ⊢; exact H)
    (try rw [hji26] at A22)
    (try rw [hji26] at A23)
    (try rw [hji26] at A24)
    (try rw [hji26] at A25)
    by_cases c27 : 0 ≤ (ji26)
    ·rw [if_pos c27] at H
     have c27b0 := eq_true c27
     have c27b1 : decide (0 ≤ (ji26)) = true := decide_eq_true c27
     clear c27
     obtain ⟨ji28, hji28⟩ : ∃ j_ : Int, (shr .i64 1009 (ji26)) = j_ := ⟨_, rfl⟩
     replace H : (if (Go.bits .and .i64 (ji28) 1) = 1 then ((impl_PairLine.f k1 t651 t652 t653 a0_0 a0_1 a0_2 a1_0 a1_1 a1_2).bind fun bt654 => ((impl_TwoMul.f t649 t650 bt654.1 bt654.2).bind fun bt656 => ((impl_PointAdd.f k1 t651 t652 t653 a0_0 a0_1 a0_2).bind fun bt658 => (impl_Miller.l0 k1 (wrap64 (x7_1 - 1)) a0_0 a0_1 a0_2 a1_0 a1_1 a1_2 bt656.1 bt656.2 bt658.1 bt658.2.1 bt658.2.2)))) else (impl_Miller.l0 k1 (wrap64 (x7_1 - 1)) a0_0 a0_1 a0_2 a1_0 a1_1 a1_2 t649 t650 t651 t652 t653)) = some (r1, r2) := by first | (rw [hji28] at H; exact H) | (simp only [hji28] at H ⊢; exact H)
     (try rw [hji28] at A22)
     (try rw [hji28] at A23)
     (try rw [hji28] at A24)
     (try rw [hji28] at A25)
     have hji28_ : (1009 / 2 ^ min (ji26).toNat 64) = ji28 := hji28
     have hji28z : (ji26) ≤ 64 → (1009 / 2 ^ (ji26).toNat) = ji28 := shr_small hji28
     have hji28t : ∀ m_ : Int, Int.tmod ji28 m_ = ji28 % m_ := fun m_ => Int.tmod_eq_emod_of_nonneg (by rw [← hji28_]; exact Int.ediv_nonneg (by decide) (Int.le_of_lt (Int.pow_pos (by decide))))
     by_cases c29 : (Go.bits .and .i64 (ji28) 1) = 1
     ·rw [if_pos c29] at H
      have c29b0 : ((Go.bits .and .i64 (ji28) 1) == 1) = true := beq_iff_eq.mpr c29
      have c29b1 : ((Go.bits .and .i64 (ji28) 1) != 1) = false := bne_eq_false_iff_eq.mpr c29
      clear c29
      replace H := Option.bind_eq_some_iff.mp H
      obtain ⟨⟨t654, t655⟩, A300, H⟩ := H
      have A30 := Aside0.mk A300
      clear A300
      replace H := Option.bind_eq_some_iff.mp H
      obtain ⟨⟨t656, t657⟩, A310, H⟩ := H
      have A31 := Aside0.mk A310
      clear A310
      replace H := Option.bind_eq_some_iff.mp H
      obtain ⟨⟨t658, t659, t660⟩, A320, H⟩ := H
      have A32 := Aside0.mk A320
      clear A320
      have H' := Aside0.mk H
      clear H
      try go_wp2
      replace BK639 := Aside0.mk (blk_drew BK639.out)
      replace BK640 := Aside0.mk (blk_drew BK640.out)
      replace BK641 := Aside0.mk (blk_drew BK641.out)
      replace BK642 := Aside0.mk (blk_drew BK642.out)
      replace BK643 := Aside0.mk (blk_drew BK643.out)
      replace HB := Aside0.mk (below_drew1 HB.out)
      refine start_ (n := 9) (S := fun w' => w'.cell? ⟨gb642, 0, none⟩ = some (.int .i64 x643000_1) ∧ w'.cell? ⟨gb642, 1, none⟩ = some (.int .i64 x643001_1) ∧ w'.cell? ⟨gb643, 0, none⟩ = some (.int .i64 x644000_1) ∧ w'.cell? ⟨gb643, 1, none⟩ = some (.int .i64 x644001_1) ∧ w'.cell? ⟨gb643, 2, none⟩ = some (.bool x644002_1) ∧ w'.cell? ⟨gb640, 0, none⟩ = some (.int .i64 a1_0) ∧ w'.cell? ⟨gb640, 1, none⟩ = some (.int .i64 a1_1) ∧ w'.cell? ⟨gb640, 2, none⟩ = some (.bool a1_2)) (ds := [8]) #[false, false, false, false, false, false, false, false, false] (by kernel_rfl) rfl rfl ⟨bc BK642 0, bc BK642 1, bc BK643 0, bc BK643 1, bc BK643 2, bc BK640 0, bc BK640 1, bc BK640 2⟩ (fun hHeld => ?_); refine with_tabW impl_Miller.tab6 impl_Miller.bits6 (fun HT_ HW_ => ?_)
      generalize wr.drew = w33 at BK639 BK640 BK641 BK642 BK643 HB hHeld ⊢
      refine tI8 0 (some 16) HT_.out HW_.out hHeld ?_
      refine tI8 1 (some 17) HT_.out HW_.out hHeld ?_
      refine tI8 3 (some 19) HT_.out HW_.out hHeld ?_
      refine tI8 4 (some 20) HT_.out HW_.out hHeld ?_
      refine tI8 5 (some 21) HT_.out HW_.out hHeld ?_
      refine oI 2 (some 18) HT_.out (fun K hK => ?_)
      refine gO Tryd.func109 #[.agg #[.int .i64 x643000_1, .int .i64 x643001_1], .agg #[.int .i64 x643000_1, .int .i64 x643001_1]] ?_
      with_reducible refine (impl_TwoMul.calls x643000_1 x643001_1 x643000_1 x643001_1 t645 t646 _ A22.out).mono ?_
      rintro e w34 ⟨rfl, hb⟩
      refine ⟨_, rfl, ?_⟩
      replace BK639 := bB BK639 hb
      replace BK640 := bB BK640 hb
      replace BK641 := bB BK641 hb
      replace BK642 := bB BK642 hb
      replace BK643 := bB BK643 hb
      replace HB := bS HB hb
      (try clear hb)
      refine hK.out _ _ ⟨bc BK642 0, bc BK642 1, bc BK643 0, bc BK643 1, bc BK643 2, bc BK640 0, bc BK640 1, bc BK640 2⟩ (fun hHeld => ?_)
      clear hK K
      refine nO (some 18) ?_
      refine oI 6 (some 22) HT_.out (fun K hK => ?_)
      refine gO Tryd.func133 #[.agg #[.int .i64 x644000_1, .int .i64 x644001_1, .bool x644002_1], .agg #[.int .i64 x644000_1, .int .i64 x644001_1, .bool x644002_1], .agg #[.int .i64 a1_0, .int .i64 a1_1, .bool a1_2]] ?_
      with_reducible refine (impl_PairLine.calls k1 x644000_1 x644001_1 x644002_1 x644000_1 x644001_1 x644002_1 a1_0 a1_1 a1_2 t647 t648 _ A23.out).mono ?_
      rintro e w35 ⟨rfl, hb⟩
      refine ⟨_, rfl, ?_⟩
      replace BK639 := bB BK639 hb
      replace BK640 := bB BK640 hb
      replace BK641 := bB BK641 hb
      replace BK642 := bB BK642 hb
      replace BK643 := bB BK643 hb
      replace HB := bS HB hb
      (try clear hb)
      refine hK.out _ _ ⟨bc BK642 0, bc BK642 1, bc BK643 0, bc BK643 1, bc BK643 2, bc BK640 0, bc BK640 1, bc BK640 2⟩ (fun hHeld => ?_)
      clear hK K
      refine nO (some 22) ?_
      refine oI 7 (some 23) HT_.out (fun K hK => ?_)
      refine gO Tryd.func109 #[.agg #[.int .i64 t645, .int .i64 t646], .agg #[.int .i64 t647, .int .i64 t648]] ?_
      with_reducible refine (impl_TwoMul.calls t645 t646 t647 t648 t649 t650 _ A24.out).mono ?_
      rintro e w36 ⟨rfl, hb⟩
      refine ⟨_, rfl, ?_⟩
      replace BK639 := bB BK639 hb
      replace BK640 := bB BK640 hb
      replace BK641 := bB BK641 hb
      replace BK642 := bB BK642 hb
      replace BK643 := bB BK643 hb
      replace HB := bS HB hb
      (try clear hb)
      refine hK.out _ _ ⟨bc BK642 0, bc BK642 1, bc BK643 0, bc BK643 1, bc BK643 2, bc BK640 0, bc BK640 1, bc BK640 2⟩ (fun hHeld => ?_)
      clear hK K
      refine nO (some 23) ?_
      refine last_ (i := 8) (N := none) #[true, true, true, true, true, true, true, true, true] rfl rfl (one_of HT_.out (by kernel_rfl)) (by decide) (fun K hK => ?_)
      have hs37 : w36.cell? ⟨gb642, 0, none⟩ = some (.int .i64 x643000_1) := bc BK642 0
      have hfs37 := blk_frozen BK642.out 0
      have hns37_0 := NB639_642.out
      have hns37_1 := NB640_642.out
      have hns37_2 := NB641_642.out
      have hns37_4 := NB643_642.out
      have hms37_0 := NB642_639.out
      have hms37_1 := NB642_640.out
      have hms37_2 := NB642_641.out
      have hms37_4 := NB642_643.out
      have hs38 : w36.cell? ⟨gb642, 1, none⟩ = some (.int .i64 x643001_1) := bc BK642 1
      have hfs38 := blk_frozen BK642.out 1
      have hns38_0 := NB639_642.out
      have hns38_1 := NB640_642.out
      have hns38_2 := NB641_642.out
      have hns38_4 := NB643_642.out
      have hms38_0 := NB642_639.out
      have hms38_1 := NB642_640.out
      have hms38_2 := NB642_641.out
      have hms38_4 := NB642_643.out
      refine skip_ (w1 := ?_) (by rfl) rfl ?_ ?_
      rotate_left
      ·go_simp
       rfl
      refine hK.out _ _ ?_
      clear hK K
      refine done_ (done_of HT_.out (by kernel_rfl)) ?_
      have hnb39 := NB643_639.out
      have hnc39 := NB639_643.out
      have hnb40 := NB643_640.out
      have hnc40 := NB640_643.out
      have hnb41 := NB643_641.out
      have hnc41 := NB641_643.out
      have hnb42 := NB643_642.out
      have hnc42 := NB642_643.out
      obtain ⟨hcz43_0, hcz43_1, hcz43_2, hfz43_0, hfz43_1, hfz43_2⟩ := bK3 (w := w36) BK643
      try go_wp2_with (first | ((with_reducible refine gate_callee (f := 59) rfl ?_); refine gL (some 26) Tryd.func59 #[.agg #[.int .i64 x644000_1, .int .i64 x644001_1, .bool x644002_1], .agg #[.int .i64 x644000_1, .int .i64 x644001_1, .bool x644002_1]] ?_; (with_reducible refine (impl_PointAdd.calls k1 x644000_1 x644001_1 x644002_1 x644000_1 x644001_1 x644002_1 t651 t652 t653 _ A25.out).mono ?_); rintro e w44 ⟨rfl, hb⟩; refine ⟨_, rfl, ?_⟩; replace BK639 := bB BK639 hb; replace BK640 := bB BK640 hb; replace BK641 := bB BK641 hb; replace BK642 := bV 80 #[.int .i64 t649, .int .i64 t650] BK642 hb; replace BK643 := bB BK643 hb; replace HB := bS HB hb; (try clear hb); obtain ⟨hcz45_0, hcz45_1, hcz45_2, hfz45_0, hfz45_1, hfz45_2⟩ := bK3 (w := w44) BK643))
      have n0_ : Aside0 ((((w44.setCell ⟨gb643, 0, none⟩ (.int .i64 t651)).setCell ⟨gb643, 1, none⟩ (.int .i64 t652)).setCell ⟨gb643, 2, none⟩ (.bool t653)).heap[gb639]? = some (.cells #[.int .i64 a0_0, .int .i64 a0_1, .bool a0_2] 23 (0, 0))) := ⟨bP BK639⟩
      have n1_ : Aside0 ((((w44.setCell ⟨gb643, 0, none⟩ (.int .i64 t651)).setCell ⟨gb643, 1, none⟩ (.int .i64 t652)).setCell ⟨gb643, 2, none⟩ (.bool t653)).heap[gb640]? = some (.cells #[.int .i64 a1_0, .int .i64 a1_1, .bool a1_2] 23 (0, 0))) := ⟨bP BK640⟩
      have n2_ : Aside0 ((((w44.setCell ⟨gb643, 0, none⟩ (.int .i64 t651)).setCell ⟨gb643, 1, none⟩ (.int .i64 t652)).setCell ⟨gb643, 2, none⟩ (.bool t653)).heap[gb641]? = some (.cells #[.int .i64 0, .int .i64 0] 80 (0, 0))) := ⟨bP BK641⟩
      have n3_ : Aside0 ((((w44.setCell ⟨gb643, 0, none⟩ (.int .i64 t651)).setCell ⟨gb643, 1, none⟩ (.int .i64 t652)).setCell ⟨gb643, 2, none⟩ (.bool t653)).heap[gb642]? = some (.cells #[.int .i64 t649, .int .i64 t650] 80 (0, 0))) := ⟨bP BK642⟩
      have n4_ : Aside0 ((((w44.setCell ⟨gb643, 0, none⟩ (.int .i64 t651)).setCell ⟨gb643, 1, none⟩ (.int .i64 t652)).setCell ⟨gb643, 2, none⟩ (.bool t653)).heap[gb643]? = some (.cells #[.int .i64 t651, .int .i64 t652, .bool t653] 23 (0, 0))) := ⟨bU BK643⟩
      have n5_ : Aside0 (Below w.heap.size w (((w44.setCell ⟨gb643, 0, none⟩ (.int .i64 t651)).setCell ⟨gb643, 1, none⟩ (.int .i64 t652)).setCell ⟨gb643, 2, none⟩ (.bool t653))) := ⟨bZ HB⟩
      (try clear BK639)
      (try clear BK640)
      (try clear BK641)
      (try clear BK642)
      (try clear BK643)
      (try clear HB)
      generalize (((w44.setCell ⟨gb643, 0, none⟩ (.int .i64 t651)).setCell ⟨gb643, 1, none⟩ (.int .i64 t652)).setCell ⟨gb643, 2, none⟩ (.bool t653)) = w46 at n0_ n1_ n2_ n3_ n4_ n5_ ⊢
      have BK639 := n0_
      have BK640 := n1_
      have BK641 := n2_
      have BK642 := n3_
      have BK643 := n4_
      have HB := n5_
      clear n0_ n1_ n2_ n3_ n4_ n5_
      replace BK639 := Aside0.mk (blk_drew BK639.out)
      replace BK640 := Aside0.mk (blk_drew BK640.out)
      replace BK641 := Aside0.mk (blk_drew BK641.out)
      replace BK642 := Aside0.mk (blk_drew BK642.out)
      replace BK643 := Aside0.mk (blk_drew BK643.out)
      replace HB := Aside0.mk (below_drew1 HB.out)
      refine start_ (n := 7) (S := fun w' => w'.cell? ⟨gb642, 0, none⟩ = some (.int .i64 t649) ∧ w'.cell? ⟨gb642, 1, none⟩ = some (.int .i64 t650) ∧ w'.cell? ⟨gb643, 0, none⟩ = some (.int .i64 t651) ∧ w'.cell? ⟨gb643, 1, none⟩ = some (.int .i64 t652) ∧ w'.cell? ⟨gb643, 2, none⟩ = some (.bool t653) ∧ w'.cell? ⟨gb639, 0, none⟩ = some (.int .i64 a0_0) ∧ w'.cell? ⟨gb639, 1, none⟩ = some (.int .i64 a0_1) ∧ w'.cell? ⟨gb639, 2, none⟩ = some (.bool a0_2) ∧ w'.cell? ⟨gb640, 0, none⟩ = some (.int .i64 a1_0) ∧ w'.cell? ⟨gb640, 1, none⟩ = some (.int .i64 a1_1) ∧ w'.cell? ⟨gb640, 2, none⟩ = some (.bool a1_2)) (ds := [6]) #[false, false, false, false, false, false, false] (by kernel_rfl) rfl rfl ⟨bc BK642 0, bc BK642 1, bc BK643 0, bc BK643 1, bc BK643 2, bc BK639 0, bc BK639 1, bc BK639 2, bc BK640 0, bc BK640 1, bc BK640 2⟩ (fun hHeld => ?_)
      generalize w46.drew = w47 at BK639 BK640 BK641 BK642 BK643 HB hHeld ⊢
      refine take_ (i := 0) (N := some 32) (v := ?_) (a' := ?_) #[true, false, false, false, false, false, false] rfl rfl (by kernel_rfl) (fun _ _ _ h => h) (Or.inl ⟨by rfl, ?_⟩) hHeld ?_ ?_
      rotate_left
      ·rintro w' ⟨s0, s1, s2, s3, s4, s5, s6, s7, s8, s9, s10⟩
       go_simp
       with_reducible rfl
      rotate_left
      ·simp only [Act.put, List.setIfInBounds_toArray, List.set_cons_zero, List.set_cons_succ, i64_w, i32_w]
       rfl
      refine take_ (i := 1) (N := some 33) (v := ?_) (a' := ?_) #[true, true, false, false, false, false, false] rfl rfl (by kernel_rfl) (fun _ _ _ h => h) (Or.inl ⟨by rfl, ?_⟩) hHeld ?_ ?_
      rotate_left
      ·rintro w' ⟨s0, s1, s2, s3, s4, s5, s6, s7, s8, s9, s10⟩
       go_simp
       with_reducible rfl
      rotate_left
      ·simp only [Act.put, List.setIfInBounds_toArray, List.set_cons_zero, List.set_cons_succ, i64_w, i32_w]
       rfl
      refine take_ (i := 2) (N := some 34) (v := ?_) (a' := ?_) #[true, true, true, false, false, false, false] rfl rfl (by kernel_rfl) (fun _ _ _ h => h) (Or.inl ⟨by rfl, ?_⟩) hHeld ?_ ?_
      rotate_left
      ·rintro w' ⟨s0, s1, s2, s3, s4, s5, s6, s7, s8, s9, s10⟩
       go_simp
       with_reducible rfl
      rotate_left
      ·simp only [Act.put, List.setIfInBounds_toArray, List.set_cons_zero, List.set_cons_succ, i64_w, i32_w]
       rfl
      refine take_ (i := 3) (N := some 35) (v := ?_) (a' := ?_) #[true, true, true, true, false, false, false] rfl rfl (by kernel_rfl) (fun _ _ _ h => h) (Or.inl ⟨by rfl, ?_⟩) hHeld ?_ ?_
      rotate_left
      ·rintro w' ⟨s0, s1, s2, s3, s4, s5, s6, s7, s8, s9, s10⟩
       go_simp
       with_reducible rfl
      rotate_left
      ·simp only [Act.put, List.setIfInBounds_toArray, List.set_cons_zero, List.set_cons_succ, i64_w, i32_w]
       rfl
      refine one_ (i := 4) (N := some 36) #[true, true, true, true, true, false, false] rfl rfl (by kernel_rfl) (by decide) (fun K hK => ?_)
      refine gO Tryd.func133 #[.agg #[.int .i64 t651, .int .i64 t652, .bool t653], .agg #[.int .i64 a0_0, .int .i64 a0_1, .bool a0_2], .agg #[.int .i64 a1_0, .int .i64 a1_1, .bool a1_2]] ?_
      with_reducible refine (impl_PairLine.calls k1 t651 t652 t653 a0_0 a0_1 a0_2 a1_0 a1_1 a1_2 t654 t655 _ A30.out).mono ?_
      rintro e w48 ⟨rfl, hb⟩
      refine ⟨_, rfl, ?_⟩
      replace BK639 := bB BK639 hb
      replace BK640 := bB BK640 hb
      replace BK641 := bB BK641 hb
      replace BK642 := bB BK642 hb
      replace BK643 := bB BK643 hb
      replace HB := bS HB hb
      (try clear hb)
      refine hK.out _ _ ⟨bc BK642 0, bc BK642 1, bc BK643 0, bc BK643 1, bc BK643 2, bc BK639 0, bc BK639 1, bc BK639 2, bc BK640 0, bc BK640 1, bc BK640 2⟩ (fun hHeld => ?_)
      clear hK K
      refine nO (some 36) ?_
      refine one_ (i := 5) (N := some 37) #[true, true, true, true, true, true, false] rfl rfl (by kernel_rfl) (by decide) (fun K hK => ?_)
      refine gO Tryd.func109 #[.agg #[.int .i64 t649, .int .i64 t650], .agg #[.int .i64 t654, .int .i64 t655]] ?_
      with_reducible refine (impl_TwoMul.calls t649 t650 t654 t655 t656 t657 _ A31.out).mono ?_
      rintro e w49 ⟨rfl, hb⟩
      refine ⟨_, rfl, ?_⟩
      replace BK639 := bB BK639 hb
      replace BK640 := bB BK640 hb
      replace BK641 := bB BK641 hb
      replace BK642 := bB BK642 hb
      replace BK643 := bB BK643 hb
      replace HB := bS HB hb
      (try clear hb)
      refine hK.out _ _ ⟨bc BK642 0, bc BK642 1, bc BK643 0, bc BK643 1, bc BK643 2, bc BK639 0, bc BK639 1, bc BK639 2, bc BK640 0, bc BK640 1, bc BK640 2⟩ (fun hHeld => ?_)
      clear hK K
      refine nO (some 37) ?_
      refine last_ (i := 6) (N := none) #[true, true, true, true, true, true, true] rfl rfl (by kernel_rfl) (by decide) (fun K hK => ?_)
      have hs50 : w49.cell? ⟨gb642, 0, none⟩ = some (.int .i64 t649) := bc BK642 0
      have hfs50 := blk_frozen BK642.out 0
      have hns50_0 := NB639_642.out
      have hns50_1 := NB640_642.out
      have hns50_2 := NB641_642.out
      have hns50_4 := NB643_642.out
      have hms50_0 := NB642_639.out
      have hms50_1 := NB642_640.out
      have hms50_2 := NB642_641.out
      have hms50_4 := NB642_643.out
      have hs51 : w49.cell? ⟨gb642, 1, none⟩ = some (.int .i64 t650) := bc BK642 1
      have hfs51 := blk_frozen BK642.out 1
      have hns51_0 := NB639_642.out
      have hns51_1 := NB640_642.out
      have hns51_2 := NB641_642.out
      have hns51_4 := NB643_642.out
      have hms51_0 := NB642_639.out
      have hms51_1 := NB642_640.out
      have hms51_2 := NB642_641.out
      have hms51_4 := NB642_643.out
      refine skip_ (w1 := ?_) (by rfl) rfl ?_ ?_
      rotate_left
      ·go_simp
       rfl
      refine hK.out _ _ ?_
      clear hK K
      refine done_ (by kernel_rfl) ?_
      obtain ⟨hcz52_0, hcz52_1, hcz52_2, hfz52_0, hfz52_1, hfz52_2⟩ := bK3 (w := w49) BK643
      have hnb53 := NB639_640.out
      have hnc53 := NB640_639.out
      have hnb54 := NB639_641.out
      have hnc54 := NB641_639.out
      have hnb55 := NB639_642.out
      have hnc55 := NB642_639.out
      obtain ⟨hcz56_0, hcz56_1, hcz56_2, hfz56_0, hfz56_1, hfz56_2⟩ := bK3 (w := w49) BK639
      try go_wp2_with (first | ((with_reducible refine gate_callee (f := 59) rfl ?_); refine gL (some 40) Tryd.func59 #[.agg #[.int .i64 t651, .int .i64 t652, .bool t653], .agg #[.int .i64 a0_0, .int .i64 a0_1, .bool a0_2]] ?_; (with_reducible refine (impl_PointAdd.calls k1 t651 t652 t653 a0_0 a0_1 a0_2 t658 t659 t660 _ A32.out).mono ?_); rintro e w57 ⟨rfl, hb⟩; refine ⟨_, rfl, ?_⟩; replace BK639 := bB BK639 hb; replace BK640 := bB BK640 hb; replace BK641 := bB BK641 hb; replace BK642 := bV 80 #[.int .i64 t656, .int .i64 t657] BK642 hb; replace BK643 := bB BK643 hb; replace HB := bS HB hb; (try clear hb); obtain ⟨hcz58_0, hcz58_1, hcz58_2, hfz58_0, hfz58_1, hfz58_2⟩ := bK3 (w := w57) BK643))
      go_roundg k1
      case measure => have := HK1.out; omega
      case rel => exact ⟨(wrap64 (x7_1 - 1)), (t656), (t657), (t658), (t659), (t660), rS, H', ⟨by have := HK1.out; omega⟩, ⟨bP BK639⟩, ⟨bP BK640⟩, ⟨bP BK641⟩, ⟨bP BK642⟩, ⟨bU BK643⟩, ⟨bZ HB⟩⟩
     ·rw [if_neg c29] at H
      have c29b0 : ((Go.bits .and .i64 (ji28) 1) == 1) = false := beq_eq_false_iff_ne.mpr c29
      have c29b1 : ((Go.bits .and .i64 (ji28) 1) != 1) = true := bne_iff_ne.mpr c29
      have H' := Aside0.mk H
      clear H
      try go_wp2
      replace BK639 := Aside0.mk (blk_drew BK639.out)
      replace BK640 := Aside0.mk (blk_drew BK640.out)
      replace BK641 := Aside0.mk (blk_drew BK641.out)
      replace BK642 := Aside0.mk (blk_drew BK642.out)
      replace BK643 := Aside0.mk (blk_drew BK643.out)
      replace HB := Aside0.mk (below_drew1 HB.out)
      refine start_ (n := 9) (S := fun w' => w'.cell? ⟨gb642, 0, none⟩ = some (.int .i64 x643000_1) ∧ w'.cell? ⟨gb642, 1, none⟩ = some (.int .i64 x643001_1) ∧ w'.cell? ⟨gb643, 0, none⟩ = some (.int .i64 x644000_1) ∧ w'.cell? ⟨gb643, 1, none⟩ = some (.int .i64 x644001_1) ∧ w'.cell? ⟨gb643, 2, none⟩ = some (.bool x644002_1) ∧ w'.cell? ⟨gb640, 0, none⟩ = some (.int .i64 a1_0) ∧ w'.cell? ⟨gb640, 1, none⟩ = some (.int .i64 a1_1) ∧ w'.cell? ⟨gb640, 2, none⟩ = some (.bool a1_2)) (ds := [8]) #[false, false, false, false, false, false, false, false, false] (by kernel_rfl) rfl rfl ⟨bc BK642 0, bc BK642 1, bc BK643 0, bc BK643 1, bc BK643 2, bc BK640 0, bc BK640 1, bc BK640 2⟩ (fun hHeld => ?_); refine with_tabW impl_Miller.tab6 impl_Miller.bits6 (fun HT_ HW_ => ?_)
      generalize wr.drew = w59 at BK639 BK640 BK641 BK642 BK643 HB hHeld ⊢
      refine tI8 0 (some 16) HT_.out HW_.out hHeld ?_
      refine tI8 1 (some 17) HT_.out HW_.out hHeld ?_
      refine tI8 3 (some 19) HT_.out HW_.out hHeld ?_
      refine tI8 4 (some 20) HT_.out HW_.out hHeld ?_
      refine tI8 5 (some 21) HT_.out HW_.out hHeld ?_
      refine oI 2 (some 18) HT_.out (fun K hK => ?_)
      refine gO Tryd.func109 #[.agg #[.int .i64 x643000_1, .int .i64 x643001_1], .agg #[.int .i64 x643000_1, .int .i64 x643001_1]] ?_
      with_reducible refine (impl_TwoMul.calls x643000_1 x643001_1 x643000_1 x643001_1 t645 t646 _ A22.out).mono ?_
      rintro e w60 ⟨rfl, hb⟩
      refine ⟨_, rfl, ?_⟩
      replace BK639 := bB BK639 hb
      replace BK640 := bB BK640 hb
      replace BK641 := bB BK641 hb
      replace BK642 := bB BK642 hb
      replace BK643 := bB BK643 hb
      replace HB := bS HB hb
      (try clear hb)
      refine hK.out _ _ ⟨bc BK642 0, bc BK642 1, bc BK643 0, bc BK643 1, bc BK643 2, bc BK640 0, bc BK640 1, bc BK640 2⟩ (fun hHeld => ?_)
      clear hK K
      refine nO (some 18) ?_
      refine oI 6 (some 22) HT_.out (fun K hK => ?_)
      refine gO Tryd.func133 #[.agg #[.int .i64 x644000_1, .int .i64 x644001_1, .bool x644002_1], .agg #[.int .i64 x644000_1, .int .i64 x644001_1, .bool x644002_1], .agg #[.int .i64 a1_0, .int .i64 a1_1, .bool a1_2]] ?_
      with_reducible refine (impl_PairLine.calls k1 x644000_1 x644001_1 x644002_1 x644000_1 x644001_1 x644002_1 a1_0 a1_1 a1_2 t647 t648 _ A23.out).mono ?_
      rintro e w61 ⟨rfl, hb⟩
      refine ⟨_, rfl, ?_⟩
      replace BK639 := bB BK639 hb
      replace BK640 := bB BK640 hb
      replace BK641 := bB BK641 hb
      replace BK642 := bB BK642 hb
      replace BK643 := bB BK643 hb
      replace HB := bS HB hb
      (try clear hb)
      refine hK.out _ _ ⟨bc BK642 0, bc BK642 1, bc BK643 0, bc BK643 1, bc BK643 2, bc BK640 0, bc BK640 1, bc BK640 2⟩ (fun hHeld => ?_)
      clear hK K
      refine nO (some 22) ?_
      refine oI 7 (some 23) HT_.out (fun K hK => ?_)
      refine gO Tryd.func109 #[.agg #[.int .i64 t645, .int .i64 t646], .agg #[.int .i64 t647, .int .i64 t648]] ?_
      with_reducible refine (impl_TwoMul.calls t645 t646 t647 t648 t649 t650 _ A24.out).mono ?_
      rintro e w62 ⟨rfl, hb⟩
      refine ⟨_, rfl, ?_⟩
      replace BK639 := bB BK639 hb
      replace BK640 := bB BK640 hb
      replace BK641 := bB BK641 hb
      replace BK642 := bB BK642 hb
      replace BK643 := bB BK643 hb
      replace HB := bS HB hb
      (try clear hb)
      refine hK.out _ _ ⟨bc BK642 0, bc BK642 1, bc BK643 0, bc BK643 1, bc BK643 2, bc BK640 0, bc BK640 1, bc BK640 2⟩ (fun hHeld => ?_)
      clear hK K
      refine nO (some 23) ?_
      refine last_ (i := 8) (N := none) #[true, true, true, true, true, true, true, true, true] rfl rfl (one_of HT_.out (by kernel_rfl)) (by decide) (fun K hK => ?_)
      have hs63 : w62.cell? ⟨gb642, 0, none⟩ = some (.int .i64 x643000_1) := bc BK642 0
      have hfs63 := blk_frozen BK642.out 0
      have hns63_0 := NB639_642.out
      have hns63_1 := NB640_642.out
      have hns63_2 := NB641_642.out
      have hns63_4 := NB643_642.out
      have hms63_0 := NB642_639.out
      have hms63_1 := NB642_640.out
      have hms63_2 := NB642_641.out
      have hms63_4 := NB642_643.out
      have hs64 : w62.cell? ⟨gb642, 1, none⟩ = some (.int .i64 x643001_1) := bc BK642 1
      have hfs64 := blk_frozen BK642.out 1
      have hns64_0 := NB639_642.out
      have hns64_1 := NB640_642.out
      have hns64_2 := NB641_642.out
      have hns64_4 := NB643_642.out
      have hms64_0 := NB642_639.out
      have hms64_1 := NB642_640.out
      have hms64_2 := NB642_641.out
      have hms64_4 := NB642_643.out
      refine skip_ (w1 := ?_) (by rfl) rfl ?_ ?_
      rotate_left
      ·go_simp
       rfl
      refine hK.out _ _ ?_
      clear hK K
      refine done_ (done_of HT_.out (by kernel_rfl)) ?_
      have hnb65 := NB643_639.out
      have hnc65 := NB639_643.out
      have hnb66 := NB643_640.out
      have hnc66 := NB640_643.out
      have hnb67 := NB643_641.out
      have hnc67 := NB641_643.out
      have hnb68 := NB643_642.out
      have hnc68 := NB642_643.out
      obtain ⟨hcz69_0, hcz69_1, hcz69_2, hfz69_0, hfz69_1, hfz69_2⟩ := bK3 (w := w62) BK643
      try go_wp2_with (first | ((with_reducible refine gate_callee (f := 59) rfl ?_); refine gL (some 26) Tryd.func59 #[.agg #[.int .i64 x644000_1, .int .i64 x644001_1, .bool x644002_1], .agg #[.int .i64 x644000_1, .int .i64 x644001_1, .bool x644002_1]] ?_; (with_reducible refine (impl_PointAdd.calls k1 x644000_1 x644001_1 x644002_1 x644000_1 x644001_1 x644002_1 t651 t652 t653 _ A25.out).mono ?_); rintro e w70 ⟨rfl, hb⟩; refine ⟨_, rfl, ?_⟩; replace BK639 := bB BK639 hb; replace BK640 := bB BK640 hb; replace BK641 := bB BK641 hb; replace BK642 := bV 80 #[.int .i64 t649, .int .i64 t650] BK642 hb; replace BK643 := bB BK643 hb; replace HB := bS HB hb; (try clear hb); obtain ⟨hcz71_0, hcz71_1, hcz71_2, hfz71_0, hfz71_1, hfz71_2⟩ := bK3 (w := w70) BK643))
      go_roundg k1
      case measure => have := HK1.out; omega
      case rel => exact ⟨(wrap64 (x7_1 - 1)), (t649), (t650), (t651), (t652), (t653), rS, H', ⟨by have := HK1.out; omega⟩, ⟨bP BK639⟩, ⟨bP BK640⟩, ⟨bP BK641⟩, ⟨bP BK642⟩, ⟨bU BK643⟩, ⟨bZ HB⟩⟩
    ·rw [if_neg c27] at H
     exact absurd H (by simp)
   ·rw [if_neg c21] at H
    have c21b0 : decide (0 ≤ x7_1) = false := decide_eq_false c21
    clear c21
    simp only [Option.some.injEq, Prod.mk.injEq] at H
    obtain ⟨rfl, rfl⟩ := H
    have hnb72 := NB642_639.out
    have hnc72 := NB639_642.out
    have hnb73 := NB642_640.out
    have hnc73 := NB640_642.out
    have hnb74 := NB642_641.out
    have hnc74 := NB641_642.out
    have hnb75 := NB642_643.out
    have hnc75 := NB643_642.out
    obtain ⟨hcz76_0, hcz76_1, hfz76_0, hfz76_1⟩ := bK2 (w := wr) BK642
    have hnb77 := NB641_639.out
    have hnc77 := NB639_641.out
    have hnb78 := NB641_640.out
    have hnc78 := NB640_641.out
    have hnb79 := NB641_643.out
    have hnc79 := NB643_641.out
    obtain ⟨hcz80_0, hcz80_1, hfz80_0, hfz80_1⟩ := bK2 (w := wr) BK641
    go_wp2
    refine rC gb641 80 #[.int .i64 x643000_1, .int .i64 x643001_1] (bU BK641) Tryd.underlying80 ?_
    exact ⟨rR, bZ HB⟩
def impl_TwoPow.l0 : Nat → Int → Int → Int → Int → Int → Option (Int × Int)
 | 0, _, _, _, _, _ => none
 | k + 1, x1, x662000, x662001, x664000, x664001 => if x1 > 0 then (if (Int.tmod x1 2) = 1 then ((impl_TwoMul.f x664000 x664001 x662000 x662001).bind fun bt664 => ((impl_TwoMul.f x662000 x662001 x662000 x662001).bind fun bt666 => (impl_TwoPow.l0 k (wrap64 (Int.tdiv x1 2)) bt666.1 bt666.2 bt664.1 bt664.2))) else ((impl_TwoMul.f x662000 x662001 x662000 x662001).bind fun bt668 => (impl_TwoPow.l0 k (wrap64 (Int.tdiv x1 2)) bt668.1 bt668.2 x664000 x664001))) else (some (x664000, x664001))
def impl_TwoPow.f (k : Nat) (a0_0 : Int) (a0_1 : Int) (a1 : Int) : Option (Int × Int) := if a1 < 0 then (some (0, 0)) else (impl_TwoPow.l0 k a1 a0_0 a0_1 1 0)
set_option maxHeartbeats 8000000 in
set_option maxRecDepth 100000 in
theorem impl_TwoPow.calls (k : Nat) (a0_0 : Int) (a0_1 : Int) (a1 : Int) (r1 : Int) (r2 : Int) (w : World) (h : impl_TwoPow.f k a0_0 a0_1 a1 = some (r1, r2)) :
  Calls Tryd.prog 108 #[.agg #[.int .i64 a0_0, .int .i64 a0_1], .int .i64 a1] w fun e w' => e = .returned (.agg #[.int .i64 r1, .int .i64 r2]) ∧ Below w.heap.size w w' := by
 have hu80 := Tryd.underlying80
 have HB := Aside0.mk (Below.refl w.heap.size w)
 have H : (if a1 < 0 then (some (0, 0)) else (impl_TwoPow.l0 k a1 a0_0 a0_1 1 0)) = some (r1, r2) := h
 clear h
 by_cases c3 : a1 < 0
 ·rw [if_pos c3] at H
  have c3b0 : decide (a1 < 0) = true := decide_eq_true c3
  clear c3
  simp only [Option.some.injEq, Prod.mk.injEq] at H
  obtain ⟨rfl, rfl⟩ := H
  go_enter Tryd.func108, Tryd.ntmps108
  go_wp2_with (first | ((with_reducible refine gate_dst (N := 2) rfl ?_); refine bE 2 #[.int .i64 a0_0, .int .i64 a0_1] 80 ?_; intro gb661 hg w4 hbox hb; have BK661 := Aside0.mk (hbox); have GW661 := bG HB hg; have GE661 := bG HB hg; replace HB := bS HB hb; clear hb hbox hg) | ((with_reducible refine gate_dst (N := 4) rfl ?_); refine bE 4 #[.int .i64 0, .int .i64 0] 80 ?_; intro gb662 hg w5 hbox hb; have BK662 := Aside0.mk (hbox); have GW662 := bG HB hg; have GE662 := bG HB hg; replace HB := bS HB hb; have NB661_662 := bL BK661 hg; have NB662_661 := bR BK661 hg; replace BK661 := bB BK661 hb; clear hb hbox hg; have hnb6 := NB662_661.out; have hnc6 := NB661_662.out; obtain ⟨hcz7_0, hcz7_1, hfz7_0, hfz7_1⟩ := bK2 (w := w5) BK662))
  refine rC gb662 80 #[.int .i64 0, .int .i64 0] (bU BK662) Tryd.underlying80 ?_
  exact ⟨rR, bZ HB⟩
 ·rw [if_neg c3] at H
  have c3b0 : decide (a1 < 0) = false := decide_eq_false c3
  clear c3
  have H' := Aside0.mk H
  clear H
  go_enter Tryd.func108, Tryd.ntmps108
  go_wp2_with (first | ((with_reducible refine gate_dst (N := 2) rfl ?_); refine bE 2 #[.int .i64 a0_0, .int .i64 a0_1] 80 ?_; intro gb661 hg w8 hbox hb; have BK661 := Aside0.mk (hbox); have GW661 := bG HB hg; have GE661 := bG HB hg; replace HB := bS HB hb; clear hb hbox hg) | ((with_reducible refine gate_dst (N := 4) rfl ?_); refine bE 4 #[.int .i64 0, .int .i64 0] 80 ?_; intro gb662 hg w9 hbox hb; have BK662 := Aside0.mk (hbox); have GW662 := bG HB hg; have GE662 := bG HB hg; replace HB := bS HB hb; have NB661_662 := bL BK661 hg; have NB662_661 := bR BK661 hg; replace BK661 := bB BK661 hb; clear hb hbox hg) | ((with_reducible refine gate_dst (N := 5) rfl ?_); refine bE 5 #[.int .i64 0, .int .i64 0] 80 ?_; intro gb663 hg w10 hbox hb; have BK663 := Aside0.mk (hbox); have GW663 := bG HB hg; have GE663 := bG HB hg; replace HB := bS HB hb; have NB661_663 := bL BK661 hg; have NB663_661 := bR BK661 hg; replace BK661 := bB BK661 hb; have NB662_663 := bL BK662 hg; have NB663_662 := bR BK662 hg; replace BK662 := bB BK662 hb; clear hb hbox hg; have hnb11 := NB663_661.out; have hnc11 := NB661_663.out; have hnb12 := NB663_662.out; have hnc12 := NB662_663.out; obtain ⟨hcz13_0, hcz13_1, hfz13_0, hfz13_1⟩ := bK2 (w := w10) BK663))
  go_loopg [1] k (fun kq v1 w' => ∃ (x1_1 : Int) (x662000_1 : Int) (x662001_1 : Int) (x664000_1 : Int) (x664001_1 : Int), v1 = .int .i64 x1_1 ∧ Aside0 (impl_TwoPow.l0 kq x1_1 x662000_1 x662001_1 x664000_1 x664001_1 = some (r1, r2)) ∧ Aside0 (kq ≤ k) ∧ Aside0 (w'.heap[gb661]? = some (.cells #[.int .i64 x662000_1, .int .i64 x662001_1] 80 (0, 0))) ∧ Aside0 (w'.heap[gb662]? = some (.cells #[.int .i64 0, .int .i64 0] 80 (0, 0))) ∧ Aside0 (w'.heap[gb663]? = some (.cells #[.int .i64 x664000_1, .int .i64 x664001_1] 80 (0, 0))) ∧ Aside0 (Below w.heap.size w w'))
  case atStart => exact ⟨(a1), (a0_0), (a0_1), (1), (0), rS, H', ⟨Nat.le_refl _⟩, ⟨bP BK661⟩, ⟨bP BK662⟩, ⟨bU BK663⟩, ⟨bZ HB⟩⟩
  case round =>
   clear H'
   try clear c1
   try clear p2
   try clear c3
   try clear c3b0
   try clear c6
   try clear c10
   try clear c11
   try clear c12
   try clear hcz13_0
   try clear hcz13_1
   try clear hcz7_0
   try clear hcz7_1
   try clear hfz13_0
   try clear hfz13_1
   try clear hfz7_0
   try clear hfz7_1
   obtain ⟨x1_1, x662000_1, x662001_1, x664000_1, x664001_1, rfl, HA, HK1, BK661, BK662, BK663, HB⟩ := hrel
   cases gk with
   | zero => exact absurd HA.out (by simp [impl_TwoPow.l0])
   | succ k1 =>
    have H := HA.out
    clear HA
    simp only [impl_TwoPow.l0] at H
    by_cases c14 : x1_1 > 0
    ·rw [if_pos c14] at H
     have c14b0 : decide (0 < x1_1) = true := decide_eq_true c14
     clear c14
     by_cases c15 : (Int.tmod x1_1 2) = 1
     ·rw [if_pos c15] at H
      have c15b0 : ((Int.tmod x1_1 2) == 1) = true := beq_iff_eq.mpr c15
      have c15b1 : ((Int.tmod x1_1 2) != 1) = false := bne_eq_false_iff_eq.mpr c15
      clear c15
      replace H := Option.bind_eq_some_iff.mp H
      obtain ⟨⟨t664, t665⟩, A160, H⟩ := H
      have A16 := Aside0.mk A160
      clear A160
      replace H := Option.bind_eq_some_iff.mp H
      obtain ⟨⟨t666, t667⟩, A170, H⟩ := H
      have A17 := Aside0.mk A170
      clear A170
      have H' := Aside0.mk H
      clear H
      have hnb18 := NB663_661.out
      have hnc18 := NB661_663.out
      have hnb19 := NB663_662.out
      have hnc19 := NB662_663.out
      obtain ⟨hcz20_0, hcz20_1, hfz20_0, hfz20_1⟩ := bK2 (w := wr) BK663
      have hnb21 := NB661_662.out
      have hnc21 := NB662_661.out
      obtain ⟨hcz22_0, hcz22_1, hfz22_0, hfz22_1⟩ := bK2 (w := wr) BK661
      go_wp2_with (first | ((with_reducible refine gate_callee (f := 109) rfl ?_); refine gL (some 17) Tryd.func109 #[.agg #[.int .i64 x664000_1, .int .i64 x664001_1], .agg #[.int .i64 x662000_1, .int .i64 x662001_1]] ?_; (with_reducible refine (impl_TwoMul.calls x664000_1 x664001_1 x662000_1 x662001_1 t664 t665 _ A16.out).mono ?_); rintro e w23 ⟨rfl, hb⟩; refine ⟨_, rfl, ?_⟩; replace BK661 := bB BK661 hb; replace BK662 := bB BK662 hb; replace BK663 := bB BK663 hb; replace HB := bS HB hb; (try clear hb); obtain ⟨hcz24_0, hcz24_1, hfz24_0, hfz24_1⟩ := bK2 (w := w23) BK663; obtain ⟨hcz25_0, hcz25_1, hfz25_0, hfz25_1⟩ := bK2 (w := w23) BK661) | ((with_reducible refine gate_callee (f := 109) rfl ?_); refine gL (some 20) Tryd.func109 #[.agg #[.int .i64 x662000_1, .int .i64 x662001_1], .agg #[.int .i64 x662000_1, .int .i64 x662001_1]] ?_; (with_reducible refine (impl_TwoMul.calls x662000_1 x662001_1 x662000_1 x662001_1 t666 t667 _ A17.out).mono ?_); rintro e w26 ⟨rfl, hb⟩; refine ⟨_, rfl, ?_⟩; replace BK661 := bB BK661 hb; replace BK662 := bB BK662 hb; replace BK663 := bV 80 #[.int .i64 t664, .int .i64 t665] BK663 hb; replace HB := bS HB hb; (try clear hb); obtain ⟨hcz27_0, hcz27_1, hfz27_0, hfz27_1⟩ := bK2 (w := w26) BK661))
      go_roundg k1
      case measure => have := HK1.out; omega
      case rel => exact ⟨(wrap64 (Int.tdiv x1_1 2)), (t666), (t667), (t664), (t665), rS, H', ⟨by have := HK1.out; omega⟩, ⟨bU BK661⟩, ⟨bP BK662⟩, ⟨bP BK663⟩, ⟨bZ HB⟩⟩
     ·rw [if_neg c15] at H
      have c15b0 : ((Int.tmod x1_1 2) == 1) = false := beq_eq_false_iff_ne.mpr c15
      have c15b1 : ((Int.tmod x1_1 2) != 1) = true := bne_iff_ne.mpr c15
      replace H := Option.bind_eq_some_iff.mp H
      obtain ⟨⟨t668, t669⟩, A280, H⟩ := H
      have A28 := Aside0.mk A280
      clear A280
      have H' := Aside0.mk H
      clear H
      have hnb29 := NB661_662.out
      have hnc29 := NB662_661.out
      have hnb30 := NB661_663.out
      have hnc30 := NB663_661.out
      obtain ⟨hcz31_0, hcz31_1, hfz31_0, hfz31_1⟩ := bK2 (w := wr) BK661
      go_wp2_with (first | ((with_reducible refine gate_callee (f := 109) rfl ?_); refine gL (some 20) Tryd.func109 #[.agg #[.int .i64 x662000_1, .int .i64 x662001_1], .agg #[.int .i64 x662000_1, .int .i64 x662001_1]] ?_; (with_reducible refine (impl_TwoMul.calls x662000_1 x662001_1 x662000_1 x662001_1 t668 t669 _ A28.out).mono ?_); rintro e w32 ⟨rfl, hb⟩; refine ⟨_, rfl, ?_⟩; replace BK661 := bB BK661 hb; replace BK662 := bB BK662 hb; replace BK663 := bB BK663 hb; replace HB := bS HB hb; (try clear hb); obtain ⟨hcz33_0, hcz33_1, hfz33_0, hfz33_1⟩ := bK2 (w := w32) BK661))
      go_roundg k1
      case measure => have := HK1.out; omega
      case rel => exact ⟨(wrap64 (Int.tdiv x1_1 2)), (t668), (t669), (x664000_1), (x664001_1), rS, H', ⟨by have := HK1.out; omega⟩, ⟨bU BK661⟩, ⟨bP BK662⟩, ⟨bP BK663⟩, ⟨bZ HB⟩⟩
    ·rw [if_neg c14] at H
     have c14b0 : decide (0 < x1_1) = false := decide_eq_false c14
     clear c14
     simp only [Option.some.injEq, Prod.mk.injEq] at H
     obtain ⟨rfl, rfl⟩ := H
     have hnb34 := NB663_661.out
     have hnc34 := NB661_663.out
     have hnb35 := NB663_662.out
     have hnc35 := NB662_663.out
     obtain ⟨hcz36_0, hcz36_1, hfz36_0, hfz36_1⟩ := bK2 (w := wr) BK663
     have hnb37 := NB662_661.out
     have hnc37 := NB661_662.out
     obtain ⟨hcz38_0, hcz38_1, hfz38_0, hfz38_1⟩ := bK2 (w := wr) BK662
     go_wp2
     refine rC gb662 80 #[.int .i64 x664000_1, .int .i64 x664001_1] (bU BK662) Tryd.underlying80 ?_
     exact ⟨rR, bZ HB⟩
def impl_TwoTurn.f (a0_0 : Int) (a0_1 : Int) : Option (Int × Int) := (impl_FpOf.f a0_0).bind fun t672 => ((impl_FpSub.f 0 a0_1).bind fun t673 => (some (t672, t673)))
def impl_TwoTurn.T1 : Bool × List (List Nat × List Nat) := (true, [([], []), ([0], [0]), ([1], [1]), ([], []), ([3], [3]), ([4, 2], [4]), ([2, 5], [2, 5]), ([6, 5, 0, 1, 2, 3, 4, 5, 6], [6])])
def impl_TwoTurn.B1 : List Nat := [0, 1, 3, 0, 8, 31, 63, 127]
theorem impl_TwoTurn.tab1 : rtab .any (opsOf Tryd.f110 1) = impl_TwoTurn.T1 := by kernel_rfl
theorem impl_TwoTurn.bits1 : waitsOk impl_TwoTurn.T1.2 impl_TwoTurn.B1 = true := by kernel_rfl
set_option maxHeartbeats 8000000 in
set_option maxRecDepth 100000 in
theorem impl_TwoTurn.calls (a0_0 : Int) (a0_1 : Int) (r1 : Int) (r2 : Int) (w : World) (h : impl_TwoTurn.f a0_0 a0_1 = some (r1, r2)) :
  Calls Tryd.prog 110 #[.agg #[.int .i64 a0_0, .int .i64 a0_1]] w fun e w' => e = .returned (.agg #[.int .i64 r1, .int .i64 r2]) ∧ Below w.heap.size w w' := by
 have hu80 := Tryd.underlying80
 have HB := Aside0.mk (Below.refl w.heap.size w)
 have H : ((impl_FpOf.f a0_0).bind fun t672 => ((impl_FpSub.f 0 a0_1).bind fun t673 => (some (t672, t673)))) = some (r1, r2) := h
 clear h
 replace H := Option.bind_eq_some_iff.mp H
 obtain ⟨t672, A20, H⟩ := H
 have A2 := Aside0.mk A20
 clear A20
 replace H := Option.bind_eq_some_iff.mp H
 obtain ⟨t673, A30, H⟩ := H
 have A3 := Aside0.mk A30
 clear A30
 simp only [Option.some.injEq, Prod.mk.injEq] at H
 obtain ⟨rfl, rfl⟩ := H
 go_enter Tryd.func110, Tryd.ntmps110
 try go_wp2_with (first | ((with_reducible refine gate_dst (N := 1) rfl ?_); refine bE 1 #[.int .i64 a0_0, .int .i64 a0_1] 80 ?_; intro gb670 hg w4 hbox hb; have BK670 := Aside0.mk (hbox); have GW670 := bG HB hg; have GE670 := bG HB hg; replace HB := bS HB hb; clear hb hbox hg) | ((with_reducible refine gate_dst (N := 2) rfl ?_); refine bE 2 #[.int .i64 0, .int .i64 0] 80 ?_; intro gb671 hg w5 hbox hb; have BK671 := Aside0.mk (hbox); have GW671 := bG HB hg; have GE671 := bG HB hg; replace HB := bS HB hb; have NB670_671 := bL BK670 hg; have NB671_670 := bR BK670 hg; replace BK670 := bB BK670 hb; clear hb hbox hg))
 replace BK670 := Aside0.mk (blk_drew BK670.out)
 replace BK671 := Aside0.mk (blk_drew BK671.out)
 replace HB := Aside0.mk (below_drew1 HB.out)
 refine start_ (n := 8) (S := fun w' => w'.cell? ⟨gb670, 0, none⟩ = some (.int .i64 a0_0) ∧ w'.cell? ⟨gb670, 1, none⟩ = some (.int .i64 a0_1)) (ds := []) #[false, false, false, false, false, false, false, false] (by kernel_rfl) rfl rfl ⟨bc BK670 0, bc BK670 1⟩ (fun hHeld => ?_); refine with_tabW impl_TwoTurn.tab1 impl_TwoTurn.bits1 (fun HT_ HW_ => ?_)
 generalize w5.drew = w6 at BK670 BK671 HB hHeld ⊢
 refine pI 0 (some 3) HT_.out ?_
 refine pI 3 (some 6) HT_.out ?_
 refine tI2 1 (some 4) HT_.out HW_.out hHeld ?_
 refine tI2 4 (some 7) HT_.out HW_.out hHeld ?_
 refine oI 2 (some 5) HT_.out (fun K hK => ?_)
 refine gO Tryd.func48 #[.int .i64 a0_0] ?_
 with_reducible refine (impl_FpOf.calls a0_0 t672 _ A2.out).mono ?_
 rintro e w' ⟨rfl, ⟨nd, rfl⟩⟩
 refine ⟨_, rfl, ?_⟩
 refine hK.out _ _ ⟨bc BK670 0, bc BK670 1⟩ (fun hHeld => ?_)
 clear hK K
 refine nO (some 5) ?_
 refine oI 5 (some 8) HT_.out (fun K hK => ?_)
 refine gO Tryd.func126 #[.int .i64 0, .int .i64 a0_1] ?_
 with_reducible refine (impl_FpSub.calls 0 a0_1 t673 _ A3.out).mono ?_
 rintro e w' ⟨rfl, ⟨nd, rfl⟩⟩
 refine ⟨_, rfl, ?_⟩
 refine hK.out _ _ ⟨bc BK670 0, bc BK670 1⟩ (fun hHeld => ?_)
 clear hK K
 refine nO (some 8) ?_
 refine pI 6 (some 9) HT_.out ?_
 refine oI 7 (none) HT_.out (fun K hK => ?_)
 have hs7 : w6.cell? ⟨gb671, 0, none⟩ = some (.int .i64 0) := bc BK671 0
 have hfs7 := blk_frozen BK671.out 0
 have hns7_0 := NB670_671.out
 have hms7_0 := NB671_670.out
 have hs8 : w6.cell? ⟨gb671, 1, none⟩ = some (.int .i64 0) := bc BK671 1
 have hfs8 := blk_frozen BK671.out 1
 have hns8_0 := NB670_671.out
 have hms8_0 := NB671_670.out
 refine skip_ (w1 := ?_) (by rfl) rfl ?_ ?_
 rotate_left
 ·go_simp
  rfl
 refine hK.out _ _ ⟨((cell_far (p := ⟨gb671, _, none⟩) NB670_671.out _).trans (((cell_far (p := ⟨gb671, _, none⟩) NB670_671.out _).trans (hHeld.1)))), ((cell_far (p := ⟨gb671, _, none⟩) NB670_671.out _).trans (((cell_far (p := ⟨gb671, _, none⟩) NB670_671.out _).trans (hHeld.2))))⟩ (fun hHeld => ?_)
 clear hK K
 refine done_ (done_of HT_.out (by kernel_rfl)) ?_
 try go_wp2
 refine rC gb671 80 #[.int .i64 t672, .int .i64 t673] (bU BK671) Tryd.underlying80 ?_
 exact ⟨rR, bZ HB⟩
def impl_TwoInv.f (k : Nat) (a0_0 : Int) (a0_1 : Int) : Option (Int × Int) := (impl_FpMul.f a0_0 a0_0).bind fun t676 => ((impl_FpMul.f a0_1 a0_1).bind fun t677 => ((impl_FpAdd.f t676 t677).bind fun t678 => ((impl_FpInv.f k t678).bind fun t679 => ((impl_FpMul.f a0_0 t679).bind fun t680 => ((impl_FpSub.f 0 a0_1).bind fun t681 => ((impl_FpMul.f t681 t679).bind fun t682 => (some (t680, t682))))))))
def impl_TwoInv.T1 : Bool × List (List Nat × List Nat) := (true, [([], []), ([0], [0]), ([], []), ([2], [2]), ([1, 3], [1, 3]), ([], []), ([5], [5]), ([], []), ([7], [7]), ([6, 8, 4], [6, 8]), ([4, 9, 9], [4, 9]), ([10, 10], [10]), ([11, 11, 0, 1, 2, 3, 4, 5, 6, 7, 8, 9, 10, 11], [11])])
def impl_TwoInv.B1 : List Nat := [0, 1, 0, 4, 15, 0, 32, 0, 128, 511, 1023, 2047, 4095]
theorem impl_TwoInv.tab1 : rtab .any (opsOf Tryd.f111 1) = impl_TwoInv.T1 := by kernel_rfl
theorem impl_TwoInv.bits1 : waitsOk impl_TwoInv.T1.2 impl_TwoInv.B1 = true := by kernel_rfl
def impl_TwoInv.T2 : Bool × List (List Nat × List Nat) := (true, [([], []), ([0], [0]), ([], []), ([1, 2], [1, 2]), ([], []), ([4], [4]), ([5, 3], [5]), ([], []), ([6, 7, 6], [6, 7]), ([3, 8], [3, 8]), ([9, 8, 0, 1, 2, 3, 4, 5, 6, 7, 8, 9], [9])])
def impl_TwoInv.B2 : List Nat := [0, 1, 0, 7, 0, 16, 63, 0, 255, 511, 1023]
theorem impl_TwoInv.tab2 : rtab .any (opsOf Tryd.f111 2) = impl_TwoInv.T2 := by kernel_rfl
theorem impl_TwoInv.bits2 : waitsOk impl_TwoInv.T2.2 impl_TwoInv.B2 = true := by kernel_rfl
set_option maxHeartbeats 8000000 in
set_option maxRecDepth 100000 in
theorem impl_TwoInv.calls (k : Nat) (a0_0 : Int) (a0_1 : Int) (r1 : Int) (r2 : Int) (w : World) (h : impl_TwoInv.f k a0_0 a0_1 = some (r1, r2)) :
  Calls Tryd.prog 111 #[.agg #[.int .i64 a0_0, .int .i64 a0_1]] w fun e w' => e = .returned (.agg #[.int .i64 r1, .int .i64 r2]) ∧ Below w.heap.size w w' := by
 have hu80 := Tryd.underlying80
 have HB := Aside0.mk (Below.refl w.heap.size w)
 have H : ((impl_FpMul.f a0_0 a0_0).bind fun t676 => ((impl_FpMul.f a0_1 a0_1).bind fun t677 => ((impl_FpAdd.f t676 t677).bind fun t678 => ((impl_FpInv.f k t678).bind fun t679 => ((impl_FpMul.f a0_0 t679).bind fun t680 => ((impl_FpSub.f 0 a0_1).bind fun t681 => ((impl_FpMul.f t681 t679).bind fun t682 => (some (t680, t682))))))))) = some (r1, r2) := h
 clear h
 replace H := Option.bind_eq_some_iff.mp H
 obtain ⟨t676, A20, H⟩ := H
 have A2 := Aside0.mk A20
 clear A20
 replace H := Option.bind_eq_some_iff.mp H
 obtain ⟨t677, A30, H⟩ := H
 have A3 := Aside0.mk A30
 clear A30
 replace H := Option.bind_eq_some_iff.mp H
 obtain ⟨t678, A40, H⟩ := H
 have A4 := Aside0.mk A40
 clear A40
 replace H := Option.bind_eq_some_iff.mp H
 obtain ⟨t679, A50, H⟩ := H
 have A5 := Aside0.mk A50
 clear A50
 replace H := Option.bind_eq_some_iff.mp H
 obtain ⟨t680, A60, H⟩ := H
 have A6 := Aside0.mk A60
 clear A60
 replace H := Option.bind_eq_some_iff.mp H
 obtain ⟨t681, A70, H⟩ := H
 have A7 := Aside0.mk A70
 clear A70
 replace H := Option.bind_eq_some_iff.mp H
 obtain ⟨t682, A80, H⟩ := H
 have A8 := Aside0.mk A80
 clear A80
 simp only [Option.some.injEq, Prod.mk.injEq] at H
 obtain ⟨rfl, rfl⟩ := H
 go_enter Tryd.func111, Tryd.ntmps111
 try go_wp2_with (first | ((with_reducible refine gate_dst (N := 1) rfl ?_); refine bE 1 #[.int .i64 a0_0, .int .i64 a0_1] 80 ?_; intro gb674 hg w9 hbox hb; have BK674 := Aside0.mk (hbox); have GW674 := bG HB hg; have GE674 := bG HB hg; replace HB := bS HB hb; clear hb hbox hg) | ((with_reducible refine gate_dst (N := 2) rfl ?_); refine bE 2 #[.int .i64 0, .int .i64 0] 80 ?_; intro gb675 hg w10 hbox hb; have BK675 := Aside0.mk (hbox); have GW675 := bG HB hg; have GE675 := bG HB hg; replace HB := bS HB hb; have NB674_675 := bL BK674 hg; have NB675_674 := bR BK674 hg; replace BK674 := bB BK674 hb; clear hb hbox hg))
 replace BK674 := Aside0.mk (blk_drew BK674.out)
 replace BK675 := Aside0.mk (blk_drew BK675.out)
 replace HB := Aside0.mk (below_drew1 HB.out)
 refine start_ (n := 13) (S := fun w' => w'.cell? ⟨gb674, 0, none⟩ = some (.int .i64 a0_0) ∧ w'.cell? ⟨gb674, 1, none⟩ = some (.int .i64 a0_1)) (ds := []) #[false, false, false, false, false, false, false, false, false, false, false, false, false] (by kernel_rfl) rfl rfl ⟨bc BK674 0, bc BK674 1⟩ (fun hHeld => ?_); refine with_tabW impl_TwoInv.tab1 impl_TwoInv.bits1 (fun HT_ HW_ => ?_)
 generalize w10.drew = w11 at BK674 BK675 HB hHeld ⊢
 refine pI 0 (some 4) HT_.out ?_
 refine pI 2 (some 6) HT_.out ?_
 refine pI 5 (some 9) HT_.out ?_
 refine pI 7 (some 11) HT_.out ?_
 refine tI2 1 (some 5) HT_.out HW_.out hHeld ?_
 refine tI2 3 (some 7) HT_.out HW_.out hHeld ?_
 refine tI2 6 (some 10) HT_.out HW_.out hHeld ?_
 refine tI2 8 (some 12) HT_.out HW_.out hHeld ?_
 refine oI 4 (some 8) HT_.out (fun K hK => ?_)
 refine gO Tryd.func95 #[.int .i64 a0_0, .int .i64 a0_0] ?_
 with_reducible refine (impl_FpMul.calls a0_0 a0_0 t676 _ A2.out).mono ?_
 rintro e w' ⟨rfl, ⟨nd, rfl⟩⟩
 refine ⟨_, rfl, ?_⟩
 refine hK.out _ _ ⟨bc BK674 0, bc BK674 1⟩ (fun hHeld => ?_)
 clear hK K
 refine nO (some 8) ?_
 refine oI 9 (some 13) HT_.out (fun K hK => ?_)
 refine gO Tryd.func95 #[.int .i64 a0_1, .int .i64 a0_1] ?_
 with_reducible refine (impl_FpMul.calls a0_1 a0_1 t677 _ A3.out).mono ?_
 rintro e w' ⟨rfl, ⟨nd, rfl⟩⟩
 refine ⟨_, rfl, ?_⟩
 refine hK.out _ _ ⟨bc BK674 0, bc BK674 1⟩ (fun hHeld => ?_)
 clear hK K
 refine nO (some 13) ?_
 refine oI 10 (some 14) HT_.out (fun K hK => ?_)
 refine gO Tryd.func96 #[.int .i64 t676, .int .i64 t677] ?_
 with_reducible refine (impl_FpAdd.calls t676 t677 t678 _ A4.out).mono ?_
 rintro e w' ⟨rfl, ⟨nd, rfl⟩⟩
 refine ⟨_, rfl, ?_⟩
 refine hK.out _ _ ⟨bc BK674 0, bc BK674 1⟩ (fun hHeld => ?_)
 clear hK K
 refine nO (some 14) ?_
 refine oI 11 (some 15) HT_.out (fun K hK => ?_)
 refine gO Tryd.func134 #[.int .i64 t678] ?_
 with_reducible refine (impl_FpInv.calls k t678 t679 _ A5.out).mono ?_
 rintro e w' ⟨rfl, ⟨nd, rfl⟩⟩
 refine ⟨_, rfl, ?_⟩
 refine hK.out _ _ ⟨bc BK674 0, bc BK674 1⟩ (fun hHeld => ?_)
 clear hK K
 refine nO (some 15) ?_
 refine pI 12 (some 3) HT_.out ?_
 refine done_ (done_of HT_.out (by kernel_rfl)) ?_
 try go_wp2
 (try simp only [World.drewN_drewN]); (try (rw [drewN_self w11]; generalize hq_ : World.drewN w11 _ = w11; replace BK674 : Aside0 (w11.heap[gb674]? = some (.cells #[.int .i64 a0_0, .int .i64 a0_1] 80 (0, 0))) := ⟨by rw [← hq_]; exact (bP BK674)⟩; replace BK675 : Aside0 (w11.heap[gb675]? = some (.cells #[.int .i64 0, .int .i64 0] 80 (0, 0))) := ⟨by rw [← hq_]; exact (bP BK675)⟩; replace HB : Aside0 (Below w.heap.size w w11) := ⟨by rw [← hq_]; exact (bZ HB)⟩; clear hq_))
 replace BK674 := Aside0.mk (blk_drew BK674.out)
 replace BK675 := Aside0.mk (blk_drew BK675.out)
 replace HB := Aside0.mk (below_drew1 HB.out)
 refine start_ (n := 11) (S := fun w' => w'.cell? ⟨gb674, 0, none⟩ = some (.int .i64 a0_0) ∧ w'.cell? ⟨gb674, 1, none⟩ = some (.int .i64 a0_1)) (ds := []) #[false, false, false, false, false, false, false, false, false, false, false] (by kernel_rfl) rfl rfl ⟨bc BK674 0, bc BK674 1⟩ (fun hHeld => ?_); refine with_tabW impl_TwoInv.tab2 impl_TwoInv.bits2 (fun HT_ HW_ => ?_)
 generalize w11.drew = w12 at BK674 BK675 HB hHeld ⊢
 refine pI 0 (some 16) HT_.out ?_
 refine pI 2 (some 18) HT_.out ?_
 refine pI 4 (some 20) HT_.out ?_
 refine pI 7 (some 23) HT_.out ?_
 refine tI2 1 (some 17) HT_.out HW_.out hHeld ?_
 refine tI2 5 (some 21) HT_.out HW_.out hHeld ?_
 refine oI 3 (some 19) HT_.out (fun K hK => ?_)
 refine gO Tryd.func95 #[.int .i64 a0_0, .int .i64 t679] ?_
 with_reducible refine (impl_FpMul.calls a0_0 t679 t680 _ A6.out).mono ?_
 rintro e w' ⟨rfl, ⟨nd, rfl⟩⟩
 refine ⟨_, rfl, ?_⟩
 refine hK.out _ _ ⟨bc BK674 0, bc BK674 1⟩ (fun hHeld => ?_)
 clear hK K
 refine nO (some 19) ?_
 refine oI 6 (some 22) HT_.out (fun K hK => ?_)
 refine gO Tryd.func126 #[.int .i64 0, .int .i64 a0_1] ?_
 with_reducible refine (impl_FpSub.calls 0 a0_1 t681 _ A7.out).mono ?_
 rintro e w' ⟨rfl, ⟨nd, rfl⟩⟩
 refine ⟨_, rfl, ?_⟩
 refine hK.out _ _ ⟨bc BK674 0, bc BK674 1⟩ (fun hHeld => ?_)
 clear hK K
 refine nO (some 22) ?_
 refine oI 8 (some 24) HT_.out (fun K hK => ?_)
 refine gO Tryd.func95 #[.int .i64 t681, .int .i64 t679] ?_
 with_reducible refine (impl_FpMul.calls t681 t679 t682 _ A8.out).mono ?_
 rintro e w' ⟨rfl, ⟨nd, rfl⟩⟩
 refine ⟨_, rfl, ?_⟩
 refine hK.out _ _ ⟨bc BK674 0, bc BK674 1⟩ (fun hHeld => ?_)
 clear hK K
 refine nO (some 24) ?_
 refine pI 9 (some 25) HT_.out ?_
 refine oI 10 (none) HT_.out (fun K hK => ?_)
 have hs13 : w12.cell? ⟨gb675, 0, none⟩ = some (.int .i64 0) := bc BK675 0
 have hfs13 := blk_frozen BK675.out 0
 have hns13_0 := NB674_675.out
 have hms13_0 := NB675_674.out
 have hs14 : w12.cell? ⟨gb675, 1, none⟩ = some (.int .i64 0) := bc BK675 1
 have hfs14 := blk_frozen BK675.out 1
 have hns14_0 := NB674_675.out
 have hms14_0 := NB675_674.out
 refine skip_ (w1 := ?_) (by rfl) rfl ?_ ?_
 rotate_left
 ·go_simp
  rfl
 refine hK.out _ _ ⟨((cell_far (p := ⟨gb675, _, none⟩) NB674_675.out _).trans (((cell_far (p := ⟨gb675, _, none⟩) NB674_675.out _).trans (hHeld.1)))), ((cell_far (p := ⟨gb675, _, none⟩) NB674_675.out _).trans (((cell_far (p := ⟨gb675, _, none⟩) NB674_675.out _).trans (hHeld.2))))⟩ (fun hHeld => ?_)
 clear hK K
 refine done_ (done_of HT_.out (by kernel_rfl)) ?_
 try go_wp2
 refine rC gb675 80 #[.int .i64 t680, .int .i64 t682] (bU BK675) Tryd.underlying80 ?_
 exact ⟨rR, bZ HB⟩
end Go.Proofs.YtkdmplfldfagnaaDoor.Pf
end
