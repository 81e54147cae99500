/- What is proved here: part 3 of 5 of the proof of the given statement FnExactSigOk: the contracts of the Go functions that it reaches, the plain facts on lists and numbers, and (in the last part) the statement itself. No conditions beyond the given ones. -/
import Derived.Test.YtkdmplfldfagnaaDoorMFnExactSigOkwSlim
import Derived.Test.YtkdmplfldfagnaaDoorMFnExactSigOka
import Derived.Test.YtkdmplfldfagnaaDoorMFnExactSigOkb

section
namespace Go.Proofs.YtkdmplfldfagnaaDoor.Pf
open Go.RowKit Go.Proofs.YtkdmplfldfagnaaDoorW.PrintWords Go.Proofs.YtkdmplfldfagnaaDoorW.PrintLast Go.Proofs.YtkdmplfldfagnaaDoorW.PrintMore
attribute [local go_sem] max2_int min2_int max_two min_two max_three min_three max_four min_four   -- for this text's walks alone
set_option linter.unusedVariables false
set_option linter.unusedSimpArgs false
/-! ### spec_Miller: function 102 -/
def spec_Miller.l0 : Nat → Int → Int → Int → Bool → Int → Int → Bool → Int → Int → Int → Int → Bool → Option (Int × Int)
 | 0, _, _, _, _, _, _, _, _, _, _, _, _ => none
 | k + 1, x7, x539000, x539001, x539002, x540000, x540001, x540002, x542000, x542001, x543000, x543001, x543002 => if x7 ≥ 0 then ((spec_TwoMul.f x542000 x542001 x542000 x542001).bind fun bt543 => ((spec_PairLine.f k x543000 x543001 x543002 x543000 x543001 x543002 x540000 x540001 x540002).bind fun bt545 => ((spec_TwoMul.f bt543.1 bt543.2 bt545.1 bt545.2).bind fun bt547 => ((spec_PointAdd.f k x543000 x543001 x543002 x543000 x543001 x543002).bind fun bt549 => (if 0 ≤ (IntKind.u64.wrap (x7)) then (if ((shr .i64 1009 (IntKind.u64.wrap (x7))) % 2) = 1 then ((spec_PairLine.f k bt549.1 bt549.2.1 bt549.2.2 x539000 x539001 x539002 x540000 x540001 x540002).bind fun bt552 => ((spec_TwoMul.f bt547.1 bt547.2 bt552.1 bt552.2).bind fun bt554 => ((spec_PointAdd.f k bt549.1 bt549.2.1 bt549.2.2 x539000 x539001 x539002).bind fun bt556 => (spec_Miller.l0 k (wrap64 (x7 - 1)) x539000 x539001 x539002 x540000 x540001 x540002 bt554.1 bt554.2 bt556.1 bt556.2.1 bt556.2.2)))) else (spec_Miller.l0 k (wrap64 (x7 - 1)) x539000 x539001 x539002 x540000 x540001 x540002 bt547.1 bt547.2 bt549.1 bt549.2.1 bt549.2.2)) else (none)))))) else (some (x542000, x542001))
def spec_Miller.f (k : Nat) (a0_0 : Int) (a0_1 : Int) (a0_2 : Bool) (a1_0 : Int) (a1_1 : Int) (a1_2 : Bool) : Option (Int × Int) := spec_Miller.l0 k 8 a0_0 a0_1 a0_2 a1_0 a1_1 a1_2 1 0 a0_0 a0_1 a0_2
theorem spec_Miller.mono_l : ∀ k, (∀ y0 y1 y2 y3 y4 y5 y6 y7 y8 y9 y10 y11, LeO (spec_Miller.l0 k y0 y1 y2 y3 y4 y5 y6 y7 y8 y9 y10 y11) (spec_Miller.l0 (k + 1) y0 y1 y2 y3 y4 y5 y6 y7 y8 y9 y10 y11))
 | 0 => fun _ _ _ _ _ _ _ _ _ _ _ _ r h => by simp [spec_Miller.l0] at h
 | k + 1 => by
  have ih0 := spec_Miller.mono_l k
  ·intro y0 y1 y2 y3 y4 y5 y6 y7 y8 y9 y10 y11
   unfold spec_Miller.l0
   repeat' first
   | (with_reducible exact ih0 _ _ _ _ _ _ _ _ _ _ _ _)
   | (with_reducible exact spec_PairLine.mono _ _ _ _ _ _ _ _ _ _)
   | (with_reducible exact spec_PointAdd.mono _ _ _ _ _ _ _)
   | (with_reducible exact LeO.refl _)
   | (with_reducible exact LeO.none _)
   | (with_reducible refine LeO.ite ?_ ?_)
   | (with_reducible refine LeO.bind ?_ (fun _ => ?_))
   | exact ih0 _ _ _ _ _ _ _ _ _ _ _ _
   | exact spec_PairLine.mono _ _ _ _ _ _ _ _ _ _
   | exact spec_PointAdd.mono _ _ _ _ _ _ _
   | exact LeO.none _
   | refine LeO.ite ?_ ?_
   | refine LeO.bind ?_ (fun _ => ?_)
theorem spec_Miller.mono : ∀ a0 a1 a2 a3 a4 a5 k, LeO (spec_Miller.f k a0 a1 a2 a3 a4 a5) (spec_Miller.f (k + 1) a0 a1 a2 a3 a4 a5) := by
 intro a0 a1 a2 a3 a4 a5 k
 have ih0 := spec_Miller.mono_l k
 unfold spec_Miller.f
 repeat' first
   | (with_reducible exact ih0 _ _ _ _ _ _ _ _ _ _ _ _)
   | (with_reducible exact spec_PairLine.mono _ _ _ _ _ _ _ _ _ _)
   | (with_reducible exact spec_PointAdd.mono _ _ _ _ _ _ _)
   | (with_reducible exact LeO.refl _)
   | (with_reducible exact LeO.none _)
   | (with_reducible refine LeO.ite ?_ ?_)
   | (with_reducible refine LeO.bind ?_ (fun _ => ?_))
   | exact ih0 _ _ _ _ _ _ _ _ _ _ _ _
   | exact spec_PairLine.mono _ _ _ _ _ _ _ _ _ _
   | exact spec_PointAdd.mono _ _ _ _ _ _ _
   | exact LeO.none _
   | refine LeO.ite ?_ ?_
   | refine LeO.bind ?_ (fun _ => ?_)
def spec_Miller.T6 : Bool × List (List Nat × List Nat) := (true, [([], []), ([], []), ([0, 1], [0, 1]), ([], []), ([], []), ([], []), ([3, 4, 5, 2], [3, 4, 5]), ([2, 6, 6], [2, 6]), ([7, 7, 0, 1, 2, 3, 4, 5, 6, 7], [7])])
def spec_Miller.B6 : List Nat := [0, 0, 3, 0, 0, 0, 63, 127, 255]
theorem spec_Miller.tab6 : rtab .any (opsOf Tryd.f102 6) = spec_Miller.T6 := by kernel_rfl
theorem spec_Miller.bits6 : waitsOk spec_Miller.T6.2 spec_Miller.B6 = true := by kernel_rfl
set_option maxHeartbeats 8000000 in
set_option maxRecDepth 100000 in
theorem spec_Miller.calls (k : Nat) (a0_0 : Int) (a0_1 : Int) (a0_2 : Bool) (a1_0 : Int) (a1_1 : Int) (a1_2 : Bool) (r1 : Int) (r2 : Int) (w : World) (h : spec_Miller.f k a0_0 a0_1 a0_2 a1_0 a1_1 a1_2 = some (r1, r2)) :
  Calls Tryd.prog 102 #[.agg #[.int .i64 a0_0, .int .i64 a0_1, .bool a0_2], .agg #[.int .i64 a1_0, .int .i64 a1_1, .bool a1_2]] w fun e w' => e = .returned (.agg #[.int .i64 r1, .int .i64 r2]) ∧ Below w.heap.size w w' := by
 have hu23 := Tryd.underlying23
 have hu80 := Tryd.underlying80
 have HB := Aside0.mk (Below.refl w.heap.size w)
 have H : (spec_Miller.l0 k 8 a0_0 a0_1 a0_2 a1_0 a1_1 a1_2 1 0 a0_0 a0_1 a0_2) = some (r1, r2) := h
 clear h
 have H' := Aside0.mk H
 clear H
 go_enter Tryd.func102, Tryd.ntmps102
 go_wp2_with (first | ((with_reducible refine gate_dst (N := 2) rfl ?_); refine bE 2 #[.int .i64 a0_0, .int .i64 a0_1, .bool a0_2] 23 ?_; intro gb538 hg w3 hbox hb; have BK538 := Aside0.mk (hbox); have GW538 := bG HB hg; have GE538 := bG HB hg; replace HB := bS HB hb; clear hb hbox hg) | ((with_reducible refine gate_dst (N := 3) rfl ?_); refine bE 3 #[.int .i64 a1_0, .int .i64 a1_1, .bool a1_2] 23 ?_; intro gb539 hg w4 hbox hb; have BK539 := Aside0.mk (hbox); have GW539 := bG HB hg; have GE539 := bG HB hg; replace HB := bS HB hb; have NB538_539 := bL BK538 hg; have NB539_538 := bR BK538 hg; replace BK538 := bB BK538 hb; clear hb hbox hg) | ((with_reducible refine gate_dst (N := 4) rfl ?_); refine bE 4 #[.int .i64 0, .int .i64 0] 80 ?_; intro gb540 hg w5 hbox hb; have BK540 := Aside0.mk (hbox); have GW540 := bG HB hg; have GE540 := bG HB hg; replace HB := bS HB hb; have NB538_540 := bL BK538 hg; have NB540_538 := bR BK538 hg; replace BK538 := bB BK538 hb; have NB539_540 := bL BK539 hg; have NB540_539 := bR BK539 hg; replace BK539 := bB BK539 hb; clear hb hbox hg) | ((with_reducible refine gate_dst (N := 5) rfl ?_); refine bE 5 #[.int .i64 0, .int .i64 0] 80 ?_; intro gb541 hg w6 hbox hb; have BK541 := Aside0.mk (hbox); have GW541 := bG HB hg; have GE541 := bG HB hg; replace HB := bS HB hb; have NB538_541 := bL BK538 hg; have NB541_538 := bR BK538 hg; replace BK538 := bB BK538 hb; have NB539_541 := bL BK539 hg; have NB541_539 := bR BK539 hg; replace BK539 := bB BK539 hb; have NB540_541 := bL BK540 hg; have NB541_540 := bR BK540 hg; replace BK540 := bB BK540 hb; clear hb hbox hg; have hnb7 := NB541_538.out; have hnc7 := NB538_541.out; have hnb8 := NB541_539.out; have hnc8 := NB539_541.out; have hnb9 := NB541_540.out; have hnc9 := NB540_541.out; obtain ⟨hcz10_0, hcz10_1, hfz10_0, hfz10_1⟩ := bK2 (w := w6) BK541; have hnb11 := NB538_539.out; have hnc11 := NB539_538.out; have hnb12 := NB538_540.out; have hnc12 := NB540_538.out; obtain ⟨hcz13_0, hcz13_1, hcz13_2, hfz13_0, hfz13_1, hfz13_2⟩ := bK3 (w := w6) BK538) | ((with_reducible refine gate_dst (N := 6) rfl ?_); refine bE 6 #[.int .i64 0, .int .i64 0, .bool false] 23 ?_; intro gb542 hg w14 hbox hb; have BK542 := Aside0.mk (hbox); have GW542 := bG HB hg; have GE542 := bG HB hg; replace HB := bS HB hb; have NB538_542 := bL BK538 hg; have NB542_538 := bR BK538 hg; replace BK538 := bB BK538 hb; have NB539_542 := bL BK539 hg; have NB542_539 := bR BK539 hg; replace BK539 := bB BK539 hb; have NB540_542 := bL BK540 hg; have NB542_540 := bR BK540 hg; replace BK540 := bB BK540 hb; have NB541_542 := Aside0.mk ((by rw [hg]; exact Nat.ne_of_lt (blk_lt (g := gb541) (o := .cells #[.int .i64 1, .int .i64 0] 80 (0, 0)) (bU BK541)) : gb541 ≠ gb542)); have NB542_541 := Aside0.mk ((by rw [hg]; exact Nat.ne_of_gt (blk_lt (g := gb541) (o := .cells #[.int .i64 1, .int .i64 0] 80 (0, 0)) (bU BK541)) : gb542 ≠ gb541)); replace BK541 := bV 80 #[.int .i64 1, .int .i64 0] BK541 hb; clear hb hbox hg; have hnb15 := NB542_538.out; have hnc15 := NB538_542.out; have hnb16 := NB542_539.out; have hnc16 := NB539_542.out; have hnb17 := NB542_540.out; have hnc17 := NB540_542.out; have hnb18 := NB542_541.out; have hnc18 := NB541_542.out; obtain ⟨hcz19_0, hcz19_1, hcz19_2, hfz19_0, hfz19_1, hfz19_2⟩ := bK3 (w := w14) BK542))
 go_loopg [7] k (fun kq v7 w' => ∃ (x7_1 : Int) (x542000_1 : Int) (x542001_1 : Int) (x543000_1 : Int) (x543001_1 : Int) (x543002_1 : Bool), v7 = .int .i64 x7_1 ∧ Aside0 (spec_Miller.l0 kq x7_1 a0_0 a0_1 a0_2 a1_0 a1_1 a1_2 x542000_1 x542001_1 x543000_1 x543001_1 x543002_1 = some (r1, r2)) ∧ Aside0 (kq ≤ k) ∧ Aside0 (w'.heap[gb538]? = some (.cells #[.int .i64 a0_0, .int .i64 a0_1, .bool a0_2] 23 (0, 0))) ∧ Aside0 (w'.heap[gb539]? = some (.cells #[.int .i64 a1_0, .int .i64 a1_1, .bool a1_2] 23 (0, 0))) ∧ Aside0 (w'.heap[gb540]? = some (.cells #[.int .i64 0, .int .i64 0] 80 (0, 0))) ∧ Aside0 (w'.heap[gb541]? = some (.cells #[.int .i64 x542000_1, .int .i64 x542001_1] 80 (0, 0))) ∧ Aside0 (w'.heap[gb542]? = some (.cells #[.int .i64 x543000_1, .int .i64 x543001_1, .bool x543002_1] 23 (0, 0))) ∧ Aside0 (Below w.heap.size w w'))
 case atStart => exact ⟨(8), (1), (0), (a0_0), (a0_1), (a0_2), rS, H', ⟨Nat.le_refl _⟩, ⟨bP BK538⟩, ⟨bP BK539⟩, ⟨bP BK540⟩, ⟨bP BK541⟩, ⟨bU BK542⟩, ⟨bZ HB⟩⟩
 case round =>
  clear H'
  try clear c1
  try clear p2
  try clear c7
  try clear c8
  try clear c9
  try clear c10
  try clear c11
  try clear c12
  try clear c15
  try clear c16
  try clear c17
  try clear c18
  try clear hcz10_0
  try clear hcz10_1
  try clear hcz13_0
  try clear hcz13_1
  try clear hcz13_2
  try clear hcz19_0
  try clear hcz19_1
  try clear hcz19_2
  try clear hfz10_0
  try clear hfz10_1
  try clear hfz13_0
  try clear hfz13_1
  try clear hfz13_2
  try clear hfz19_0
  try clear hfz19_1
  try clear hfz19_2
  obtain ⟨x7_1, x542000_1, x542001_1, x543000_1, x543001_1, x543002_1, rfl, HA, HK1, BK538, BK539, BK540, BK541, BK542, HB⟩ := hrel
  cases gk with
  | zero => exact absurd HA.out (by simp [spec_Miller.l0])
  | succ k1 =>
   have H := HA.out
   clear HA
   simp only [spec_Miller.l0] at H
   by_cases c20 : x7_1 ≥ 0
   ·rw [if_pos c20] at H
    have c20b0 : decide (0 ≤ x7_1) = true := decide_eq_true c20
    clear c20
    replace H := Option.bind_eq_some_iff.mp H
    obtain ⟨⟨t543, t544⟩, A210, H⟩ := H
    have A21 := Aside0.mk A210
    clear A210
    replace H := Option.bind_eq_some_iff.mp H
    obtain ⟨⟨t545, t546⟩, A220, H⟩ := H
    have A22 := Aside0.mk A220
    clear A220
    replace H := Option.bind_eq_some_iff.mp H
    obtain ⟨⟨t547, t548⟩, A230, H⟩ := H
    have A23 := Aside0.mk A230
    clear A230
    replace H := Option.bind_eq_some_iff.mp H
    obtain ⟨⟨t549, t550, t551⟩, A240, H⟩ := H
    have A24 := Aside0.mk A240
    clear A240
    obtain ⟨ji25, hji25⟩ : ∃ j_ : Int, (IntKind.u64.wrap (x7_1)) = j_ := ⟨_, rfl⟩
    replace H : (if 0 ≤ (ji25) then (if ((shr .i64 1009 (ji25)) % 2) = 1 then ((spec_PairLine.f k1 t549 t550 t551 a0_0 a0_1 a0_2 a1_0 a1_1 a1_2).bind fun bt552 => ((spec_TwoMul.f t547 t548 bt552.1 bt552.2).bind fun bt554 => ((spec_PointAdd.f k1 t549 t550 t551 a0_0 a0_1 a0_2).bind fun bt556 => (spec_Miller.l0 k1 (wrap64 (x7_1 - 1)) a0_0 a0_1 a0_2 a1_0 a1_1 a1_2 bt554.1 bt554.2 bt556.1 bt556.2.1 bt556.2.2)))) else (spec_Miller.l0 k1 (wrap64 (x7_1 - 1)) a0_0 a0_1 a0_2 a1_0 a1_1 a1_2 t547 t548 t549 t550 t551)) else (none)) = some (r1, r2) := by first | (rw [hji25] at H; exact H) | (simp only [hji25] at H ⊢; exact H)
    (try rw [hji25] at A21)
    (try rw [hji25] at A22)
    (try rw [hji25] at A23)
    (try rw [hji25] at A24)
    by_cases c26 : 0 ≤ (ji25)
    ·rw [if_pos c26] at H
     have c26b0 := eq_true c26
     have c26b1 : decide (0 ≤ (ji25)) = true := decide_eq_true c26
     clear c26
     obtain ⟨ji27, hji27⟩ : ∃ j_ : Int, (shr .i64 1009 (ji25)) = j_ := ⟨_, rfl⟩
     replace H : (if ((ji27) % 2) = 1 then ((spec_PairLine.f k1 t549 t550 t551 a0_0 a0_1 a0_2 a1_0 a1_1 a1_2).bind fun bt552 => ((spec_TwoMul.f t547 t548 bt552.1 bt552.2).bind fun bt554 => ((spec_PointAdd.f k1 t549 t550 t551 a0_0 a0_1 a0_2).bind fun bt556 => (spec_Miller.l0 k1 (wrap64 (x7_1 - 1)) a0_0 a0_1 a0_2 a1_0 a1_1 a1_2 bt554.1 bt554.2 bt556.1 bt556.2.1 bt556.2.2)))) else (spec_Miller.l0 k1 (wrap64 (x7_1 - 1)) a0_0 a0_1 a0_2 a1_0 a1_1 a1_2 t547 t548 t549 t550 t551)) = some (r1, r2) := by first | (rw [hji27] at H; exact H) | (simp only [hji27] at H ⊢; exact H)
     (try rw [hji27] at A21)
     (try rw [hji27] at A22)
     (try rw [hji27] at A23)
     (try rw [hji27] at A24)
     have hji27_ : (1009 / 2 ^ min (ji25).toNat 64) = ji27 := hji27
     have hji27z : (ji25) ≤ 64 → (1009 / 2 ^ (ji25).toNat) = ji27 := shr_small hji27
     have hji27t : ∀ m_ : Int, Int.tmod ji27 m_ = ji27 % m_ := fun m_ => Int.tmod_eq_emod_of_nonneg (by rw [← hji27_]; exact Int.ediv_nonneg (by decide) (Int.le_of_lt (Int.pow_pos (by decide))))
     by_cases c28 : ((ji27) % 2) = 1
     ·rw [if_pos c28] at H
      have c28b0 : (((ji27) % 2) == 1) = true := beq_iff_eq.mpr c28
      have c28b1 : (((ji27) % 2) != 1) = false := bne_eq_false_iff_eq.mpr c28
      clear c28
      replace H := Option.bind_eq_some_iff.mp H
      obtain ⟨⟨t552, t553⟩, A290, H⟩ := H
      have A29 := Aside0.mk A290
      clear A290
      replace H := Option.bind_eq_some_iff.mp H
      obtain ⟨⟨t554, t555⟩, A300, H⟩ := H
      have A30 := Aside0.mk A300
      clear A300
      replace H := Option.bind_eq_some_iff.mp H
      obtain ⟨⟨t556, t557, t558⟩, A310, H⟩ := H
      have A31 := Aside0.mk A310
      clear A310
      have H' := Aside0.mk H
      clear H
      try go_wp2
      replace BK538 := Aside0.mk (blk_drew BK538.out)
      replace BK539 := Aside0.mk (blk_drew BK539.out)
      replace BK540 := Aside0.mk (blk_drew BK540.out)
      replace BK541 := Aside0.mk (blk_drew BK541.out)
      replace BK542 := Aside0.mk (blk_drew BK542.out)
      replace HB := Aside0.mk (below_drew1 HB.out)
      refine start_ (n := 9) (S := fun w' => w'.cell? ⟨gb541, 0, none⟩ = some (.int .i64 x542000_1) ∧ w'.cell? ⟨gb541, 1, none⟩ = some (.int .i64 x542001_1) ∧ w'.cell? ⟨gb542, 0, none⟩ = some (.int .i64 x543000_1) ∧ w'.cell? ⟨gb542, 1, none⟩ = some (.int .i64 x543001_1) ∧ w'.cell? ⟨gb542, 2, none⟩ = some (.bool x543002_1) ∧ w'.cell? ⟨gb539, 0, none⟩ = some (.int .i64 a1_0) ∧ w'.cell? ⟨gb539, 1, none⟩ = some (.int .i64 a1_1) ∧ w'.cell? ⟨gb539, 2, none⟩ = some (.bool a1_2)) (ds := [8]) #[false, false, false, false, false, false, false, false, false] (by kernel_rfl) rfl rfl ⟨bc BK541 0, bc BK541 1, bc BK542 0, bc BK542 1, bc BK542 2, bc BK539 0, bc BK539 1, bc BK539 2⟩ (fun hHeld => ?_); refine with_tabW spec_Miller.tab6 spec_Miller.bits6 (fun HT_ HW_ => ?_)
      generalize wr.drew = w32 at BK538 BK539 BK540 BK541 BK542 HB hHeld ⊢
      refine tI8 0 (some 14) HT_.out HW_.out hHeld ?_
      refine tI8 1 (some 15) HT_.out HW_.out hHeld ?_
      refine tI8 3 (some 17) HT_.out HW_.out hHeld ?_
      refine tI8 4 (some 18) HT_.out HW_.out hHeld ?_
      refine tI8 5 (some 19) HT_.out HW_.out hHeld ?_
      refine oI 2 (some 16) HT_.out (fun K hK => ?_)
      refine gO Tryd.func104 #[.agg #[.int .i64 x542000_1, .int .i64 x542001_1], .agg #[.int .i64 x542000_1, .int .i64 x542001_1]] ?_
      with_reducible refine (spec_TwoMul.calls x542000_1 x542001_1 x542000_1 x542001_1 t543 t544 _ A21.out).mono ?_
      rintro e w33 ⟨rfl, hb⟩
      refine ⟨_, rfl, ?_⟩
      replace BK538 := bB BK538 hb
      replace BK539 := bB BK539 hb
      replace BK540 := bB BK540 hb
      replace BK541 := bB BK541 hb
      replace BK542 := bB BK542 hb
      replace HB := bS HB hb
      (try clear hb)
      refine hK.out _ _ ⟨bc BK541 0, bc BK541 1, bc BK542 0, bc BK542 1, bc BK542 2, bc BK539 0, bc BK539 1, bc BK539 2⟩ (fun hHeld => ?_)
      clear hK K
      refine nO (some 16) ?_
      refine oI 6 (some 20) HT_.out (fun K hK => ?_)
      refine gO Tryd.func130 #[.agg #[.int .i64 x543000_1, .int .i64 x543001_1, .bool x543002_1], .agg #[.int .i64 x543000_1, .int .i64 x543001_1, .bool x543002_1], .agg #[.int .i64 a1_0, .int .i64 a1_1, .bool a1_2]] ?_
      with_reducible refine (spec_PairLine.calls k1 x543000_1 x543001_1 x543002_1 x543000_1 x543001_1 x543002_1 a1_0 a1_1 a1_2 t545 t546 _ A22.out).mono ?_
      rintro e w34 ⟨rfl, hb⟩
      refine ⟨_, rfl, ?_⟩
      replace BK538 := bB BK538 hb
      replace BK539 := bB BK539 hb
      replace BK540 := bB BK540 hb
      replace BK541 := bB BK541 hb
      replace BK542 := bB BK542 hb
      replace HB := bS HB hb
      (try clear hb)
      refine hK.out _ _ ⟨bc BK541 0, bc BK541 1, bc BK542 0, bc BK542 1, bc BK542 2, bc BK539 0, bc BK539 1, bc BK539 2⟩ (fun hHeld => ?_)
      clear hK K
      refine nO (some 20) ?_
      refine oI 7 (some 21) HT_.out (fun K hK => ?_)
      refine gO Tryd.func104 #[.agg #[.int .i64 t543, .int .i64 t544], .agg #[.int .i64 t545, .int .i64 t546]] ?_
      with_reducible refine (spec_TwoMul.calls t543 t544 t545 t546 t547 t548 _ A23.out).mono ?_
      rintro e w35 ⟨rfl, hb⟩
      refine ⟨_, rfl, ?_⟩
      replace BK538 := bB BK538 hb
      replace BK539 := bB BK539 hb
      replace BK540 := bB BK540 hb
      replace BK541 := bB BK541 hb
      replace BK542 := bB BK542 hb
      replace HB := bS HB hb
      (try clear hb)
      refine hK.out _ _ ⟨bc BK541 0, bc BK541 1, bc BK542 0, bc BK542 1, bc BK542 2, bc BK539 0, bc BK539 1, bc BK539 2⟩ (fun hHeld => ?_)
      clear hK K
      refine nO (some 21) ?_
      refine last_ (i := 8) (N := none) #[true, true, true, true, true, true, true, true, true] rfl rfl (one_of HT_.out (by kernel_rfl)) (by decide) (fun K hK => ?_)
      have hs36 : w35.cell? ⟨gb541, 0, none⟩ = some (.int .i64 x542000_1) := bc BK541 0
      have hfs36 := blk_frozen BK541.out 0
      have hns36_0 := NB538_541.out
      have hns36_1 := NB539_541.out
      have hns36_2 := NB540_541.out
      have hns36_4 := NB542_541.out
      have hms36_0 := NB541_538.out
      have hms36_1 := NB541_539.out
      have hms36_2 := NB541_540.out
      have hms36_4 := NB541_542.out
      have hs37 : w35.cell? ⟨gb541, 1, none⟩ = some (.int .i64 x542001_1) := bc BK541 1
      have hfs37 := blk_frozen BK541.out 1
      have hns37_0 := NB538_541.out
      have hns37_1 := NB539_541.out
      have hns37_2 := NB540_541.out
      have hns37_4 := NB542_541.out
      have hms37_0 := NB541_538.out
      have hms37_1 := NB541_539.out
      have hms37_2 := NB541_540.out
      have hms37_4 := NB541_542.out
      refine skip_ (w1 := ?_) (by rfl) rfl ?_ ?_
      rotate_left
      ·go_simp
       rfl
      refine hK.out _ _ ?_
      clear hK K
      refine done_ (done_of HT_.out (by kernel_rfl)) ?_
      have hnb38 := NB542_538.out
      have hnc38 := NB538_542.out
      have hnb39 := NB542_539.out
      have hnc39 := NB539_542.out
      have hnb40 := NB542_540.out
      have hnc40 := NB540_542.out
      have hnb41 := NB542_541.out
      have hnc41 := NB541_542.out
      obtain ⟨hcz42_0, hcz42_1, hcz42_2, hfz42_0, hfz42_1, hfz42_2⟩ := bK3 (w := w35) BK542
      try go_wp2_with (first | ((with_reducible refine gate_callee (f := 115) rfl ?_); refine gL (some 24) Tryd.func115 #[.agg #[.int .i64 x543000_1, .int .i64 x543001_1, .bool x543002_1], .agg #[.int .i64 x543000_1, .int .i64 x543001_1, .bool x543002_1]] ?_; (with_reducible refine (spec_PointAdd.calls k1 x543000_1 x543001_1 x543002_1 x543000_1 x543001_1 x543002_1 t549 t550 t551 _ A24.out).mono ?_); rintro e w43 ⟨rfl, hb⟩; refine ⟨_, rfl, ?_⟩; replace BK538 := bB BK538 hb; replace BK539 := bB BK539 hb; replace BK540 := bB BK540 hb; replace BK541 := bV 80 #[.int .i64 t547, .int .i64 t548] BK541 hb; replace BK542 := bB BK542 hb; replace HB := bS HB hb; (try clear hb); obtain ⟨hcz44_0, hcz44_1, hcz44_2, hfz44_0, hfz44_1, hfz44_2⟩ := bK3 (w := w43) BK542))
      have n0_ : Aside0 ((((w43.setCell ⟨gb542, 0, none⟩ (.int .i64 t549)).setCell ⟨gb542, 1, none⟩ (.int .i64 t550)).setCell ⟨gb542, 2, none⟩ (.bool t551)).heap[gb538]? = some (.cells #[.int .i64 a0_0, .int .i64 a0_1, .bool a0_2] 23 (0, 0))) := ⟨bP BK538⟩
      have n1_ : Aside0 ((((w43.setCell ⟨gb542, 0, none⟩ (.int .i64 t549)).setCell ⟨gb542, 1, none⟩ (.int .i64 t550)).setCell ⟨gb542, 2, none⟩ (.bool t551)).heap[gb539]? = some (.cells #[.int .i64 a1_0, .int .i64 a1_1, .bool a1_2] 23 (0, 0))) := ⟨bP BK539⟩
      have n2_ : Aside0 ((((w43.setCell ⟨gb542, 0, none⟩ (.int .i64 t549)).setCell ⟨gb542, 1, none⟩ (.int .i64 t550)).setCell ⟨gb542, 2, none⟩ (.bool t551)).heap[gb540]? = some (.cells #[.int .i64 0, .int .i64 0] 80 (0, 0))) := ⟨bP BK540⟩
      have n3_ : Aside0 ((((w43.setCell ⟨gb542, 0, none⟩ (.int .i64 t549)).setCell ⟨gb542, 1, none⟩ (.int .i64 t550)).setCell ⟨gb542, 2, none⟩ (.bool t551)).heap[gb541]? = some (.cells #[.int .i64 t547, .int .i64 t548] 80 (0, 0))) := ⟨bP BK541⟩
      have n4_ : Aside0 ((((w43.setCell ⟨gb542, 0, none⟩ (.int .i64 t549)).setCell ⟨gb542, 1, none⟩ (.int .i64 t550)).setCell ⟨gb542, 2, none⟩ (.bool t551)).heap[gb542]? = some (.cells #[.int .i64 t549, .int .i64 t550, .bool t551] 23 (0, 0))) := ⟨bU BK542⟩
      have n5_ : Aside0 (Below w.heap.size w (((w43.setCell ⟨gb542, 0, none⟩ (.int .i64 t549)).setCell ⟨gb542, 1, none⟩ (.int .i64 t550)).setCell ⟨gb542, 2, none⟩ (.bool t551))) := ⟨bZ HB⟩
      (try clear BK538)
      (try clear BK539)
      (try clear BK540)
      (try clear BK541)
      (try clear BK542)
      (try clear HB)
      generalize (((w43.setCell ⟨gb542, 0, none⟩ (.int .i64 t549)).setCell ⟨gb542, 1, none⟩ (.int .i64 t550)).setCell ⟨gb542, 2, none⟩ (.bool t551)) = w45 at n0_ n1_ n2_ n3_ n4_ n5_ ⊢
      have BK538 := n0_
      have BK539 := n1_
      have BK540 := n2_
      have BK541 := n3_
      have BK542 := n4_
      have HB := n5_
      clear n0_ n1_ n2_ n3_ n4_ n5_
      replace BK538 := Aside0.mk (blk_drew BK538.out)
      replace BK539 := Aside0.mk (blk_drew BK539.out)
      replace BK540 := Aside0.mk (blk_drew BK540.out)
      replace BK541 := Aside0.mk (blk_drew BK541.out)
      replace BK542 := Aside0.mk (blk_drew BK542.out)
      replace HB := Aside0.mk (below_drew1 HB.out)
      refine start_ (n := 7) (S := fun w' => w'.cell? ⟨gb541, 0, none⟩ = some (.int .i64 t547) ∧ w'.cell? ⟨gb541, 1, none⟩ = some (.int .i64 t548) ∧ w'.cell? ⟨gb542, 0, none⟩ = some (.int .i64 t549) ∧ w'.cell? ⟨gb542, 1, none⟩ = some (.int .i64 t550) ∧ w'.cell? ⟨gb542, 2, none⟩ = some (.bool t551) ∧ w'.cell? ⟨gb538, 0, none⟩ = some (.int .i64 a0_0) ∧ w'.cell? ⟨gb538, 1, none⟩ = some (.int .i64 a0_1) ∧ w'.cell? ⟨gb538, 2, none⟩ = some (.bool a0_2) ∧ w'.cell? ⟨gb539, 0, none⟩ = some (.int .i64 a1_0) ∧ w'.cell? ⟨gb539, 1, none⟩ = some (.int .i64 a1_1) ∧ w'.cell? ⟨gb539, 2, none⟩ = some (.bool a1_2)) (ds := [6]) #[false, false, false, false, false, false, false] (by kernel_rfl) rfl rfl ⟨bc BK541 0, bc BK541 1, bc BK542 0, bc BK542 1, bc BK542 2, bc BK538 0, bc BK538 1, bc BK538 2, bc BK539 0, bc BK539 1, bc BK539 2⟩ (fun hHeld => ?_)
      generalize w45.drew = w46 at BK538 BK539 BK540 BK541 BK542 HB hHeld ⊢
      refine take_ (i := 0) (N := some 30) (v := ?_) (a' := ?_) #[true, false, false, false, false, false, false] rfl rfl (by kernel_rfl) (fun _ _ _ h => h) (Or.inl ⟨by rfl, ?_⟩) hHeld ?_ ?_
      rotate_left
      ·rintro w' ⟨s0, s1, s2, s3, s4, s5, s6, s7, s8, s9, s10⟩
       go_simp
       with_reducible rfl
      rotate_left
      ·simp only [Act.put, List.setIfInBounds_toArray, List.set_cons_zero, List.set_cons_succ, i64_w, i32_w]
       rfl
      refine take_ (i := 1) (N := some 31) (v := ?_) (a' := ?_) #[true, true, false, false, false, false, false] rfl rfl (by kernel_rfl) (fun _ _ _ h => h) (Or.inl ⟨by rfl, ?_⟩) hHeld ?_ ?_
      rotate_left
      ·rintro w' ⟨s0, s1, s2, s3, s4, s5, s6, s7, s8, s9, s10⟩
       go_simp
       with_reducible rfl
      rotate_left
      ·simp only [Act.put, List.setIfInBounds_toArray, List.set_cons_zero, List.set_cons_succ, i64_w, i32_w]
       rfl
      refine take_ (i := 2) (N := some 32) (v := ?_) (a' := ?_) #[true, true, true, false, false, false, false] rfl rfl (by kernel_rfl) (fun _ _ _ h => h) (Or.inl ⟨by rfl, ?_⟩) hHeld ?_ ?_
      rotate_left
      ·rintro w' ⟨s0, s1, s2, s3, s4, s5, s6, s7, s8, s9, s10⟩
       go_simp
       with_reducible rfl
      rotate_left
      ·simp only [Act.put, List.setIfInBounds_toArray, List.set_cons_zero, List.set_cons_succ, i64_w, i32_w]
       rfl
      refine take_ (i := 3) (N := some 33) (v := ?_) (a' := ?_) #[true, true, true, true, false, false, false] rfl rfl (by kernel_rfl) (fun _ _ _ h => h) (Or.inl ⟨by rfl, ?_⟩) hHeld ?_ ?_
      rotate_left
      ·rintro w' ⟨s0, s1, s2, s3, s4, s5, s6, s7, s8, s9, s10⟩
       go_simp
       with_reducible rfl
      rotate_left
      ·simp only [Act.put, List.setIfInBounds_toArray, List.set_cons_zero, List.set_cons_succ, i64_w, i32_w]
       rfl
      refine one_ (i := 4) (N := some 34) #[true, true, true, true, true, false, false] rfl rfl (by kernel_rfl) (by decide) (fun K hK => ?_)
      refine gO Tryd.func130 #[.agg #[.int .i64 t549, .int .i64 t550, .bool t551], .agg #[.int .i64 a0_0, .int .i64 a0_1, .bool a0_2], .agg #[.int .i64 a1_0, .int .i64 a1_1, .bool a1_2]] ?_
      with_reducible refine (spec_PairLine.calls k1 t549 t550 t551 a0_0 a0_1 a0_2 a1_0 a1_1 a1_2 t552 t553 _ A29.out).mono ?_
      rintro e w47 ⟨rfl, hb⟩
      refine ⟨_, rfl, ?_⟩
      replace BK538 := bB BK538 hb
      replace BK539 := bB BK539 hb
      replace BK540 := bB BK540 hb
      replace BK541 := bB BK541 hb
      replace BK542 := bB BK542 hb
      replace HB := bS HB hb
      (try clear hb)
      refine hK.out _ _ ⟨bc BK541 0, bc BK541 1, bc BK542 0, bc BK542 1, bc BK542 2, bc BK538 0, bc BK538 1, bc BK538 2, bc BK539 0, bc BK539 1, bc BK539 2⟩ (fun hHeld => ?_)
      clear hK K
      refine nO (some 34) ?_
      refine one_ (i := 5) (N := some 35) #[true, true, true, true, true, true, false] rfl rfl (by kernel_rfl) (by decide) (fun K hK => ?_)
      refine gO Tryd.func104 #[.agg #[.int .i64 t547, .int .i64 t548], .agg #[.int .i64 t552, .int .i64 t553]] ?_
      with_reducible refine (spec_TwoMul.calls t547 t548 t552 t553 t554 t555 _ A30.out).mono ?_
      rintro e w48 ⟨rfl, hb⟩
      refine ⟨_, rfl, ?_⟩
      replace BK538 := bB BK538 hb
      replace BK539 := bB BK539 hb
      replace BK540 := bB BK540 hb
      replace BK541 := bB BK541 hb
      replace BK542 := bB BK542 hb
      replace HB := bS HB hb
      (try clear hb)
      refine hK.out _ _ ⟨bc BK541 0, bc BK541 1, bc BK542 0, bc BK542 1, bc BK542 2, bc BK538 0, bc BK538 1, bc BK538 2, bc BK539 0, bc BK539 1, bc BK539 2⟩ (fun hHeld => ?_)
      clear hK K
      refine nO (some 35) ?_
      refine last_ (i := 6) (N := none) #[true, true, true, true, true, true, true] rfl rfl (by kernel_rfl) (by decide) (fun K hK => ?_)
      have hs49 : w48.cell? ⟨gb541, 0, none⟩ = some (.int .i64 t547) := bc BK541 0
      have hfs49 := blk_frozen BK541.out 0
      have hns49_0 := NB538_541.out
      have hns49_1 := NB539_541.out
      have hns49_2 := NB540_541.out
      have hns49_4 := NB542_541.out
      have hms49_0 := NB541_538.out
      have hms49_1 := NB541_539.out
      have hms49_2 := NB541_540.out
      have hms49_4 := NB541_542.out
      have hs50 : w48.cell? ⟨gb541, 1, none⟩ = some (.int .i64 t548) := bc BK541 1
      have hfs50 := blk_frozen BK541.out 1
      have hns50_0 := NB538_541.out
      have hns50_1 := NB539_541.out
      have hns50_2 := NB540_541.out
      have hns50_4 := NB542_541.out
      have hms50_0 := NB541_538.out
      have hms50_1 := NB541_539.out
      have hms50_2 := NB541_540.out
      have hms50_4 := NB541_542.out
      refine skip_ (w1 := ?_) (by rfl) rfl ?_ ?_
      rotate_left
      ·go_simp
       rfl
      refine hK.out _ _ ?_
      clear hK K
      refine done_ (by kernel_rfl) ?_
      obtain ⟨hcz51_0, hcz51_1, hcz51_2, hfz51_0, hfz51_1, hfz51_2⟩ := bK3 (w := w48) BK542
      have hnb52 := NB538_539.out
      have hnc52 := NB539_538.out
      have hnb53 := NB538_540.out
      have hnc53 := NB540_538.out
      have hnb54 := NB538_541.out
      have hnc54 := NB541_538.out
      obtain ⟨hcz55_0, hcz55_1, hcz55_2, hfz55_0, hfz55_1, hfz55_2⟩ := bK3 (w := w48) BK538
      try go_wp2_with (first | ((with_reducible refine gate_callee (f := 115) rfl ?_); refine gL (some 38) Tryd.func115 #[.agg #[.int .i64 t549, .int .i64 t550, .bool t551], .agg #[.int .i64 a0_0, .int .i64 a0_1, .bool a0_2]] ?_; (with_reducible refine (spec_PointAdd.calls k1 t549 t550 t551 a0_0 a0_1 a0_2 t556 t557 t558 _ A31.out).mono ?_); rintro e w56 ⟨rfl, hb⟩; refine ⟨_, rfl, ?_⟩; replace BK538 := bB BK538 hb; replace BK539 := bB BK539 hb; replace BK540 := bB BK540 hb; replace BK541 := bV 80 #[.int .i64 t554, .int .i64 t555] BK541 hb; replace BK542 := bB BK542 hb; replace HB := bS HB hb; (try clear hb); obtain ⟨hcz57_0, hcz57_1, hcz57_2, hfz57_0, hfz57_1, hfz57_2⟩ := bK3 (w := w56) BK542))
      go_roundg k1
      case measure => have := HK1.out; omega
      case rel => exact ⟨(wrap64 (x7_1 - 1)), (t554), (t555), (t556), (t557), (t558), rS, H', ⟨by have := HK1.out; omega⟩, ⟨bP BK538⟩, ⟨bP BK539⟩, ⟨bP BK540⟩, ⟨bP BK541⟩, ⟨bU BK542⟩, ⟨bZ HB⟩⟩
     ·rw [if_neg c28] at H
      have c28b0 : (((ji27) % 2) == 1) = false := beq_eq_false_iff_ne.mpr c28
      have c28b1 : (((ji27) % 2) != 1) = true := bne_iff_ne.mpr c28
      have H' := Aside0.mk H
      clear H
      try go_wp2
      replace BK538 := Aside0.mk (blk_drew BK538.out)
      replace BK539 := Aside0.mk (blk_drew BK539.out)
      replace BK540 := Aside0.mk (blk_drew BK540.out)
      replace BK541 := Aside0.mk (blk_drew BK541.out)
      replace BK542 := Aside0.mk (blk_drew BK542.out)
      replace HB := Aside0.mk (below_drew1 HB.out)
      refine start_ (n := 9) (S := fun w' => w'.cell? ⟨gb541, 0, none⟩ = some (.int .i64 x542000_1) ∧ w'.cell? ⟨gb541, 1, none⟩ = some (.int .i64 x542001_1) ∧ w'.cell? ⟨gb542, 0, none⟩ = some (.int .i64 x543000_1) ∧ w'.cell? ⟨gb542, 1, none⟩ = some (.int .i64 x543001_1) ∧ w'.cell? ⟨gb542, 2, none⟩ = some (.bool x543002_1) ∧ w'.cell? ⟨gb539, 0, none⟩ = some (.int .i64 a1_0) ∧ w'.cell? ⟨gb539, 1, none⟩ = some (.int .i64 a1_1) ∧ w'.cell? ⟨gb539, 2, none⟩ = some (.bool a1_2)) (ds := [8]) #[false, false, false, false, false, false, false, false, false] (by kernel_rfl) rfl rfl ⟨bc BK541 0, bc BK541 1, bc BK542 0, bc BK542 1, bc BK542 2, bc BK539 0, bc BK539 1, bc BK539 2⟩ (fun hHeld => ?_); refine with_tabW spec_Miller.tab6 spec_Miller.bits6 (fun HT_ HW_ => ?_)
      generalize wr.drew = w58 at BK538 BK539 BK540 BK541 BK542 HB hHeld ⊢
      refine tI8 0 (some 14) HT_.out HW_.out hHeld ?_
      refine tI8 1 (some 15) HT_.out HW_.out hHeld ?_
      refine tI8 3 (some 17) HT_.out HW_.out hHeld ?_
      refine tI8 4 (some 18) HT_.out HW_.out hHeld ?_
      refine tI8 5 (some 19) HT_.out HW_.out hHeld ?_
      refine oI 2 (some 16) HT_.out (fun K hK => ?_)
      refine gO Tryd.func104 #[.agg #[.int .i64 x542000_1, .int .i64 x542001_1], .agg #[.int .i64 x542000_1, .int .i64 x542001_1]] ?_
      with_reducible refine (spec_TwoMul.calls x542000_1 x542001_1 x542000_1 x542001_1 t543 t544 _ A21.out).mono ?_
      rintro e w59 ⟨rfl, hb⟩
      refine ⟨_, rfl, ?_⟩
      replace BK538 := bB BK538 hb
      replace BK539 := bB BK539 hb
      replace BK540 := bB BK540 hb
      replace BK541 := bB BK541 hb
      replace BK542 := bB BK542 hb
      replace HB := bS HB hb
      (try clear hb)
      refine hK.out _ _ ⟨bc BK541 0, bc BK541 1, bc BK542 0, bc BK542 1, bc BK542 2, bc BK539 0, bc BK539 1, bc BK539 2⟩ (fun hHeld => ?_)
      clear hK K
      refine nO (some 16) ?_
      refine oI 6 (some 20) HT_.out (fun K hK => ?_)
      refine gO Tryd.func130 #[.agg #[.int .i64 x543000_1, .int .i64 x543001_1, .bool x543002_1], .agg #[.int .i64 x543000_1, .int .i64 x543001_1, .bool x543002_1], .agg #[.int .i64 a1_0, .int .i64 a1_1, .bool a1_2]] ?_
      with_reducible refine (spec_PairLine.calls k1 x543000_1 x543001_1 x543002_1 x543000_1 x543001_1 x543002_1 a1_0 a1_1 a1_2 t545 t546 _ A22.out).mono ?_
      rintro e w60 ⟨rfl, hb⟩
      refine ⟨_, rfl, ?_⟩
      replace BK538 := bB BK538 hb
      replace BK539 := bB BK539 hb
      replace BK540 := bB BK540 hb
      replace BK541 := bB BK541 hb
      replace BK542 := bB BK542 hb
      replace HB := bS HB hb
      (try clear hb)
      refine hK.out _ _ ⟨bc BK541 0, bc BK541 1, bc BK542 0, bc BK542 1, bc BK542 2, bc BK539 0, bc BK539 1, bc BK539 2⟩ (fun hHeld => ?_)
      clear hK K
      refine nO (some 20) ?_
      refine oI 7 (some 21) HT_.out (fun K hK => ?_)
      refine gO Tryd.func104 #[.agg #[.int .i64 t543, .int .i64 t544], .agg #[.int .i64 t545, .int .i64 t546]] ?_
      with_reducible refine (spec_TwoMul.calls t543 t544 t545 t546 t547 t548 _ A23.out).mono ?_
      rintro e w61 ⟨rfl, hb⟩
      refine ⟨_, rfl, ?_⟩
      replace BK538 := bB BK538 hb
      replace BK539 := bB BK539 hb
      replace BK540 := bB BK540 hb
      replace BK541 := bB BK541 hb
      replace BK542 := bB BK542 hb
      replace HB := bS HB hb
      (try clear hb)
      refine hK.out _ _ ⟨bc BK541 0, bc BK541 1, bc BK542 0, bc BK542 1, bc BK542 2, bc BK539 0, bc BK539 1, bc BK539 2⟩ (fun hHeld => ?_)
      clear hK K
      refine nO (some 21) ?_
      refine last_ (i := 8) (N := none) #[true, true, true, true, true, true, true, true, true] rfl rfl (one_of HT_.out (by kernel_rfl)) (by decide) (fun K hK => ?_)
      have hs62 : w61.cell? ⟨gb541, 0, none⟩ = some (.int .i64 x542000_1) := bc BK541 0
      have hfs62 := blk_frozen BK541.out 0
      have hns62_0 := NB538_541.out
      have hns62_1 := NB539_541.out
      have hns62_2 := NB540_541.out
      have hns62_4 := NB542_541.out
      have hms62_0 := NB541_538.out
      have hms62_1 := NB541_539.out
      have hms62_2 := NB541_540.out
      have hms62_4 := NB541_542.out
      have hs63 : w61.cell? ⟨gb541, 1, none⟩ = some (.int .i64 x542001_1) := bc BK541 1
      have hfs63 := blk_frozen BK541.out 1
      have hns63_0 := NB538_541.out
      have hns63_1 := NB539_541.out
      have hns63_2 := NB540_541.out
      have hns63_4 := NB542_541.out
      have hms63_0 := NB541_538.out
      have hms63_1 := NB541_539.out
      have hms63_2 := NB541_540.out
      have hms63_4 := NB541_542.out
      refine skip_ (w1 := ?_) (by rfl) rfl ?_ ?_
      rotate_left
      ·go_simp
       rfl
      refine hK.out _ _ ?_
      clear hK K
      refine done_ (done_of HT_.out (by kernel_rfl)) ?_
      have hnb64 := NB542_538.out
      have hnc64 := NB538_542.out
      have hnb65 := NB542_539.out
      have hnc65 := NB539_542.out
      have hnb66 := NB542_540.out
      have hnc66 := NB540_542.out
      have hnb67 := NB542_541.out
      have hnc67 := NB541_542.out
      obtain ⟨hcz68_0, hcz68_1, hcz68_2, hfz68_0, hfz68_1, hfz68_2⟩ := bK3 (w := w61) BK542
      try go_wp2_with (first | ((with_reducible refine gate_callee (f := 115) rfl ?_); refine gL (some 24) Tryd.func115 #[.agg #[.int .i64 x543000_1, .int .i64 x543001_1, .bool x543002_1], .agg #[.int .i64 x543000_1, .int .i64 x543001_1, .bool x543002_1]] ?_; (with_reducible refine (spec_PointAdd.calls k1 x543000_1 x543001_1 x543002_1 x543000_1 x543001_1 x543002_1 t549 t550 t551 _ A24.out).mono ?_); rintro e w69 ⟨rfl, hb⟩; refine ⟨_, rfl, ?_⟩; replace BK538 := bB BK538 hb; replace BK539 := bB BK539 hb; replace BK540 := bB BK540 hb; replace BK541 := bV 80 #[.int .i64 t547, .int .i64 t548] BK541 hb; replace BK542 := bB BK542 hb; replace HB := bS HB hb; (try clear hb); obtain ⟨hcz70_0, hcz70_1, hcz70_2, hfz70_0, hfz70_1, hfz70_2⟩ := bK3 (w := w69) BK542))
      go_roundg k1
      case measure => have := HK1.out; omega
      case rel => exact ⟨(wrap64 (x7_1 - 1)), (t547), (t548), (t549), (t550), (t551), rS, H', ⟨by have := HK1.out; omega⟩, ⟨bP BK538⟩, ⟨bP BK539⟩, ⟨bP BK540⟩, ⟨bP BK541⟩, ⟨bU BK542⟩, ⟨bZ HB⟩⟩
    ·rw [if_neg c26] at H
     exact absurd H (by simp)
   ·rw [if_neg c20] at H
    have c20b0 : decide (0 ≤ x7_1) = false := decide_eq_false c20
    clear c20
    simp only [Option.some.injEq, Prod.mk.injEq] at H
    obtain ⟨rfl, rfl⟩ := H
    have hnb71 := NB541_538.out
    have hnc71 := NB538_541.out
    have hnb72 := NB541_539.out
    have hnc72 := NB539_541.out
    have hnb73 := NB541_540.out
    have hnc73 := NB540_541.out
    have hnb74 := NB541_542.out
    have hnc74 := NB542_541.out
    obtain ⟨hcz75_0, hcz75_1, hfz75_0, hfz75_1⟩ := bK2 (w := wr) BK541
    have hnb76 := NB540_538.out
    have hnc76 := NB538_540.out
    have hnb77 := NB540_539.out
    have hnc77 := NB539_540.out
    have hnb78 := NB540_542.out
    have hnc78 := NB542_540.out
    obtain ⟨hcz79_0, hcz79_1, hfz79_0, hfz79_1⟩ := bK2 (w := wr) BK540
    go_wp2
    refine rC gb540 80 #[.int .i64 x542000_1, .int .i64 x542001_1] (bU BK540) Tryd.underlying80 ?_
    exact ⟨rR, bZ HB⟩
/-! ### spec_TwoPow: function 103 -/
def spec_TwoPow.l0 : Nat → Int → Int → Int → Int → Int → Option (Int × Int)
 | 0, _, _, _, _, _ => none
 | k + 1, x1, x562000, x562001, x565000, x565001 => if x1 > 0 then (if (Int.tmod x1 2) = 1 then ((spec_TwoMul.f x562000 x562001 x565000 x565001).bind fun bt565 => ((spec_TwoMul.f x565000 x565001 x565000 x565001).bind fun bt567 => (spec_TwoPow.l0 k (wrap64 (Int.tdiv x1 2)) bt565.1 bt565.2 bt567.1 bt567.2))) else ((spec_TwoMul.f x565000 x565001 x565000 x565001).bind fun bt569 => (spec_TwoPow.l0 k (wrap64 (Int.tdiv x1 2)) x562000 x562001 bt569.1 bt569.2))) else (some (x562000, x562001))
def spec_TwoPow.f (k : Nat) (a0_0 : Int) (a0_1 : Int) (a1 : Int) : Option (Int × Int) := if a1 < 0 then (some (0, 0)) else ((spec_FpOf.f a0_0).bind fun t562 => ((spec_FpOf.f a0_1).bind fun t563 => (spec_TwoPow.l0 k a1 1 0 t562 t563)))
theorem spec_TwoPow.mono_l : ∀ k, (∀ y0 y1 y2 y3 y4, LeO (spec_TwoPow.l0 k y0 y1 y2 y3 y4) (spec_TwoPow.l0 (k + 1) y0 y1 y2 y3 y4))
 | 0 => fun _ _ _ _ _ r h => by simp [spec_TwoPow.l0] at h
 | k + 1 => by
  have ih0 := spec_TwoPow.mono_l k
  ·intro y0 y1 y2 y3 y4
   unfold spec_TwoPow.l0
   repeat' first
   | (with_reducible exact ih0 _ _ _ _ _)
   | (with_reducible exact LeO.refl _)
   | (with_reducible exact LeO.none _)
   | (with_reducible refine LeO.ite ?_ ?_)
   | (with_reducible refine LeO.bind ?_ (fun _ => ?_))
   | exact ih0 _ _ _ _ _
   | exact LeO.none _
   | refine LeO.ite ?_ ?_
   | refine LeO.bind ?_ (fun _ => ?_)
theorem spec_TwoPow.mono : ∀ a0 a1 a2 k, LeO (spec_TwoPow.f k a0 a1 a2) (spec_TwoPow.f (k + 1) a0 a1 a2) := by
 intro a0 a1 a2 k
 have ih0 := spec_TwoPow.mono_l k
 unfold spec_TwoPow.f
 repeat' first
   | (with_reducible exact ih0 _ _ _ _ _)
   | (with_reducible exact LeO.refl _)
   | (with_reducible exact LeO.none _)
   | (with_reducible refine LeO.ite ?_ ?_)
   | (with_reducible refine LeO.bind ?_ (fun _ => ?_))
   | exact ih0 _ _ _ _ _
   | exact LeO.none _
   | refine LeO.ite ?_ ?_
   | refine LeO.bind ?_ (fun _ => ?_)
def spec_TwoPow.T4 : Bool × List (List Nat × List Nat) := (true, [([], []), ([0], [0]), ([1], [1]), ([], []), ([3], [3]), ([4, 2], [4]), ([2, 5], [2, 5]), ([], []), ([7, 6, 5, 0, 1, 2, 3, 4, 5, 6, 7], [6, 7])])
def spec_TwoPow.B4 : List Nat := [0, 1, 3, 0, 8, 31, 63, 0, 255]
theorem spec_TwoPow.tab4 : rtab .any (opsOf Tryd.f103 4) = spec_TwoPow.T4 := by kernel_rfl
theorem spec_TwoPow.bits4 : waitsOk spec_TwoPow.T4.2 spec_TwoPow.B4 = true := by kernel_rfl
set_option maxHeartbeats 8000000 in
set_option maxRecDepth 100000 in
theorem spec_TwoPow.calls (k : Nat) (a0_0 : Int) (a0_1 : Int) (a1 : Int) (r1 : Int) (r2 : Int) (w : World) (h : spec_TwoPow.f k a0_0 a0_1 a1 = some (r1, r2)) :
  Calls Tryd.prog 103 #[.agg #[.int .i64 a0_0, .int .i64 a0_1], .int .i64 a1] w fun e w' => e = .returned (.agg #[.int .i64 r1, .int .i64 r2]) ∧ Below w.heap.size w w' := by
 have hu80 := Tryd.underlying80
 have HB := Aside0.mk (Below.refl w.heap.size w)
 have H : (if a1 < 0 then (some (0, 0)) else ((spec_FpOf.f a0_0).bind fun t562 => ((spec_FpOf.f a0_1).bind fun t563 => (spec_TwoPow.l0 k a1 1 0 t562 t563)))) = some (r1, r2) := h
 clear h
 by_cases c3 : a1 < 0
 ·rw [if_pos c3] at H
  have c3b0 : decide (a1 < 0) = true := decide_eq_true c3
  clear c3
  simp only [Option.some.injEq, Prod.mk.injEq] at H
  obtain ⟨rfl, rfl⟩ := H
  go_enter Tryd.func103, Tryd.ntmps103
  go_wp2_with (first | ((with_reducible refine gate_dst (N := 2) rfl ?_); refine bE 2 #[.int .i64 a0_0, .int .i64 a0_1] 80 ?_; intro gb559 hg w4 hbox hb; have BK559 := Aside0.mk (hbox); have GW559 := bG HB hg; have GE559 := bG HB hg; replace HB := bS HB hb; clear hb hbox hg) | ((with_reducible refine gate_dst (N := 4) rfl ?_); refine bE 4 #[.int .i64 0, .int .i64 0] 80 ?_; intro gb560 hg w5 hbox hb; have BK560 := Aside0.mk (hbox); have GW560 := bG HB hg; have GE560 := bG HB hg; replace HB := bS HB hb; have NB559_560 := bL BK559 hg; have NB560_559 := bR BK559 hg; replace BK559 := bB BK559 hb; clear hb hbox hg; have hnb6 := NB560_559.out; have hnc6 := NB559_560.out; obtain ⟨hcz7_0, hcz7_1, hfz7_0, hfz7_1⟩ := bK2 (w := w5) BK560))
  refine rC gb560 80 #[.int .i64 0, .int .i64 0] (bU BK560) Tryd.underlying80 ?_
  exact ⟨rR, bZ HB⟩
 ·rw [if_neg c3] at H
  have c3b0 : decide (a1 < 0) = false := decide_eq_false c3
  clear c3
  replace H := Option.bind_eq_some_iff.mp H
  obtain ⟨t562, A80, H⟩ := H
  have A8 := Aside0.mk A80
  clear A80
  replace H := Option.bind_eq_some_iff.mp H
  obtain ⟨t563, A90, H⟩ := H
  have A9 := Aside0.mk A90
  clear A90
  have H' := Aside0.mk H
  clear H
  go_enter Tryd.func103, Tryd.ntmps103
  try go_wp2_with (first | ((with_reducible refine gate_dst (N := 2) rfl ?_); refine bE 2 #[.int .i64 a0_0, .int .i64 a0_1] 80 ?_; intro gb559 hg w10 hbox hb; have BK559 := Aside0.mk (hbox); have GW559 := bG HB hg; have GE559 := bG HB hg; replace HB := bS HB hb; clear hb hbox hg) | ((with_reducible refine gate_dst (N := 4) rfl ?_); refine bE 4 #[.int .i64 0, .int .i64 0] 80 ?_; intro gb560 hg w11 hbox hb; have BK560 := Aside0.mk (hbox); have GW560 := bG HB hg; have GE560 := bG HB hg; replace HB := bS HB hb; have NB559_560 := bL BK559 hg; have NB560_559 := bR BK559 hg; replace BK559 := bB BK559 hb; clear hb hbox hg) | ((with_reducible refine gate_dst (N := 5) rfl ?_); refine bE 5 #[.int .i64 0, .int .i64 0] 80 ?_; intro gb561 hg w12 hbox hb; have BK561 := Aside0.mk (hbox); have GW561 := bG HB hg; have GE561 := bG HB hg; replace HB := bS HB hb; have NB559_561 := bL BK559 hg; have NB561_559 := bR BK559 hg; replace BK559 := bB BK559 hb; have NB560_561 := bL BK560 hg; have NB561_560 := bR BK560 hg; replace BK560 := bB BK560 hb; clear hb hbox hg; have hnb13 := NB561_559.out; have hnc13 := NB559_561.out; have hnb14 := NB561_560.out; have hnc14 := NB560_561.out; obtain ⟨hcz15_0, hcz15_1, hfz15_0, hfz15_1⟩ := bK2 (w := w12) BK561))
  have n0_ : Aside0 (((w12.setCell ⟨gb561, 0, none⟩ (.int .i64 1)).setCell ⟨gb561, 1, none⟩ (.int .i64 0)).heap[gb559]? = some (.cells #[.int .i64 a0_0, .int .i64 a0_1] 80 (0, 0))) := ⟨bP BK559⟩
  have n1_ : Aside0 (((w12.setCell ⟨gb561, 0, none⟩ (.int .i64 1)).setCell ⟨gb561, 1, none⟩ (.int .i64 0)).heap[gb560]? = some (.cells #[.int .i64 0, .int .i64 0] 80 (0, 0))) := ⟨bP BK560⟩
  have n2_ : Aside0 (((w12.setCell ⟨gb561, 0, none⟩ (.int .i64 1)).setCell ⟨gb561, 1, none⟩ (.int .i64 0)).heap[gb561]? = some (.cells #[.int .i64 1, .int .i64 0] 80 (0, 0))) := ⟨bU BK561⟩
  have n3_ : Aside0 (Below w.heap.size w ((w12.setCell ⟨gb561, 0, none⟩ (.int .i64 1)).setCell ⟨gb561, 1, none⟩ (.int .i64 0))) := ⟨bZ HB⟩
  (try clear BK559)
  (try clear BK560)
  (try clear BK561)
  (try clear HB)
  generalize ((w12.setCell ⟨gb561, 0, none⟩ (.int .i64 1)).setCell ⟨gb561, 1, none⟩ (.int .i64 0)) = w16 at n0_ n1_ n2_ n3_ ⊢
  have BK559 := n0_
  have BK560 := n1_
  have BK561 := n2_
  have HB := n3_
  clear n0_ n1_ n2_ n3_
  replace BK559 := Aside0.mk (blk_drew BK559.out)
  replace BK560 := Aside0.mk (blk_drew BK560.out)
  replace BK561 := Aside0.mk (blk_drew BK561.out)
  replace HB := Aside0.mk (below_drew1 HB.out)
  refine start_ (n := 9) (S := fun w' => w'.cell? ⟨gb559, 0, none⟩ = some (.int .i64 a0_0) ∧ w'.cell? ⟨gb559, 1, none⟩ = some (.int .i64 a0_1)) (ds := []) #[false, false, false, false, false, false, false, false, false] (by kernel_rfl) rfl rfl ⟨bc BK559 0, bc BK559 1⟩ (fun hHeld => ?_); refine with_tabW spec_TwoPow.tab4 spec_TwoPow.bits4 (fun HT_ HW_ => ?_)
  generalize w16.drew = w17 at BK559 BK560 BK561 HB hHeld ⊢
  refine pI 0 (some 11) HT_.out ?_
  refine pI 3 (some 14) HT_.out ?_
  refine tI2 1 (some 12) HT_.out HW_.out hHeld ?_
  refine tI2 4 (some 15) HT_.out HW_.out hHeld ?_
  refine join_ (σ := Nat) 1 #[true, true, true, true, true, true, true, true, false] (fun s_ => [(13, .int .i64 t562), (16, .int .i64 t563), (6, .pointer (some ⟨s_, 0, none⟩)), (17, .agg #[.int .i64 t562, .int .i64 t563])]) (fun s_ w' => (w'.cell? ⟨gb559, 0, none⟩ = some (.int .i64 a0_0) ∧ w'.cell? ⟨gb559, 1, none⟩ = some (.int .i64 a0_1)) ∧ (w'.heap[gb559]? = some (.cells #[.int .i64 a0_0, .int .i64 a0_1] 80 (0, 0))) ∧ (w'.heap[gb560]? = some (.cells #[.int .i64 0, .int .i64 0] 80 (0, 0))) ∧ (w'.heap[gb561]? = some (.cells #[.int .i64 1, .int .i64 0] 80 (0, 0))) ∧ (w'.heap[s_]? = some (.cells #[.int .i64 0, .int .i64 0] 80 (0, 0))) ∧ (w.heap.size ≤ s_) ∧ (w.heap.size ≤ s_) ∧ (gb559 ≠ s_) ∧ (s_ ≠ gb559) ∧ (gb560 ≠ s_) ∧ (s_ ≠ gb560) ∧ (gb561 ≠ s_) ∧ (s_ ≠ gb561) ∧ (Below w.heap.size w w')) ?_ ?_
  rotate_left
  ·intro hCont
   refine two_ (i := 2) (j := 7) (Ni := some 13) (Nj := some 6) #[true, true, true, true, true, false, false, false, false] #[true, true, false, true, true, false, false, true, false] rfl rfl rfl rfl (two_of HT_.out (by kernel_rfl)) (by decide) (by decide) (fun K hK => ?_) (fun K hK => ?_)
   ·skip
    refine gO Tryd.func42 #[.int .i64 a0_0] ?_
    with_reducible refine (spec_FpOf.calls a0_0 t562 _ A8.out).mono ?_
    rintro e w' ⟨rfl, ⟨nd, rfl⟩⟩
    refine ⟨_, rfl, ?_⟩
    refine hK.out _ _ ⟨bc BK559 0, bc BK559 1⟩ (fun hHeld => ?_)
    clear hK K
    refine nO (some 13) ?_
    refine two_ (i := 5) (j := 7) (Ni := some 16) (Nj := some 6) #[true, true, true, true, true, true, false, false, false] #[true, true, true, true, true, false, false, true, false] rfl rfl rfl rfl (two_of HT_.out (by kernel_rfl)) (by decide) (by decide) (fun K hK => ?_) (fun K hK => ?_)
    ·skip
     refine gO Tryd.func42 #[.int .i64 a0_1] ?_
     with_reducible refine (spec_FpOf.calls a0_1 t563 _ A9.out).mono ?_
     rintro e w' ⟨rfl, ⟨nd, rfl⟩⟩
     refine ⟨_, rfl, ?_⟩
     refine hK.out _ _ ⟨bc BK559 0, bc BK559 1⟩ (fun hHeld => ?_)
     clear hK K
     refine nO (some 16) ?_
     refine pI 6 (some 17) HT_.out ?_
     refine oI 7 (some 6) HT_.out (fun K hK => ?_)
     refine box_step ?hg (N := 6) ?hd (cs := #[.int .i64 0, .int .i64 0]) (t := 80) ?hr ?_; (case hd => rfl); (case hg => rfl); (case hr => first | (go_simp; done) | (go_simp; rfl))
     intro gb564 hg w18 hbox hb
     have BK564 := Aside0.mk (hbox)
     have GW564 := bG HB hg
     have GE564 := bG HB hg
     replace HB := bS HB hb
     have NB559_564 := bL BK559 hg
     have NB564_559 := bR BK559 hg
     replace BK559 := bB BK559 hb
     have NB560_564 := bL BK560 hg
     have NB564_560 := bR BK560 hg
     replace BK560 := bB BK560 hb
     have NB561_564 := bL BK561 hg
     have NB564_561 := bR BK561 hg
     replace BK561 := bB BK561 hb
     clear hb hbox hg
     refine hK.out _ _ ⟨bc BK559 0, bc BK559 1⟩ (fun hHeld => ?_)
     clear hK K
     refine nO (some 6) ?_
     exact norm_ (by simp only [putAll, Act.put, List.setIfInBounds_toArray, List.set_cons_zero, List.set_cons_succ]) (hCont (gb564) _ ⟨hHeld, (bP BK559), (bP BK560), (bP BK561), (bP BK564), GW564.out, GE564.out, NB559_564.out, NB564_559.out, NB560_564.out, NB564_560.out, NB561_564.out, NB564_561.out, (bZ HB)⟩)
    ·skip
     refine box_step ?hg (N := 6) ?hd (cs := #[.int .i64 0, .int .i64 0]) (t := 80) ?hr ?_; (case hd => rfl); (case hg => rfl); (case hr => first | (go_simp; done) | (go_simp; rfl))
     intro gb564 hg w18 hbox hb
     have BK564 := Aside0.mk (hbox)
     have GW564 := bG HB hg
     have GE564 := bG HB hg
     replace HB := bS HB hb
     have NB559_564 := bL BK559 hg
     have NB564_559 := bR BK559 hg
     replace BK559 := bB BK559 hb
     have NB560_564 := bL BK560 hg
     have NB564_560 := bR BK560 hg
     replace BK560 := bB BK560 hb
     have NB561_564 := bL BK561 hg
     have NB564_561 := bR BK561 hg
     replace BK561 := bB BK561 hb
     clear hb hbox hg
     refine hK.out _ _ ⟨bc BK559 0, bc BK559 1⟩ (fun hHeld => ?_)
     clear hK K
     refine nO (some 6) ?_
     refine oI 5 (some 16) HT_.out (fun K hK => ?_)
     refine gO Tryd.func42 #[.int .i64 a0_1] ?_
     with_reducible refine (spec_FpOf.calls a0_1 t563 _ A9.out).mono ?_
     rintro e w' ⟨rfl, ⟨nd, rfl⟩⟩
     refine ⟨_, rfl, ?_⟩
     refine hK.out _ _ ⟨bc BK559 0, bc BK559 1⟩ (fun hHeld => ?_)
     clear hK K
     refine nO (some 16) ?_
     refine pI 6 (some 17) HT_.out ?_
     exact norm_ (by simp only [putAll, Act.put, List.setIfInBounds_toArray, List.set_cons_zero, List.set_cons_succ]) (hCont (gb564) _ ⟨hHeld, (bP BK559), (bP BK560), (bP BK561), (bP BK564), GW564.out, GE564.out, NB559_564.out, NB564_559.out, NB560_564.out, NB564_560.out, NB561_564.out, NB564_561.out, (bZ HB)⟩)
   ·skip
    refine box_step ?hg (N := 6) ?hd (cs := #[.int .i64 0, .int .i64 0]) (t := 80) ?hr ?_; (case hd => rfl); (case hg => rfl); (case hr => first | (go_simp; done) | (go_simp; rfl))
    intro gb564 hg w18 hbox hb
    have BK564 := Aside0.mk (hbox)
    have GW564 := bG HB hg
    have GE564 := bG HB hg
    replace HB := bS HB hb
    have NB559_564 := bL BK559 hg
    have NB564_559 := bR BK559 hg
    replace BK559 := bB BK559 hb
    have NB560_564 := bL BK560 hg
    have NB564_560 := bR BK560 hg
    replace BK560 := bB BK560 hb
    have NB561_564 := bL BK561 hg
    have NB564_561 := bR BK561 hg
    replace BK561 := bB BK561 hb
    clear hb hbox hg
    refine hK.out _ _ ⟨bc BK559 0, bc BK559 1⟩ (fun hHeld => ?_)
    clear hK K
    refine nO (some 6) ?_
    refine oI 2 (some 13) HT_.out (fun K hK => ?_)
    refine gO Tryd.func42 #[.int .i64 a0_0] ?_
    with_reducible refine (spec_FpOf.calls a0_0 t562 _ A8.out).mono ?_
    rintro e w' ⟨rfl, ⟨nd, rfl⟩⟩
    refine ⟨_, rfl, ?_⟩
    refine hK.out _ _ ⟨bc BK559 0, bc BK559 1⟩ (fun hHeld => ?_)
    clear hK K
    refine nO (some 13) ?_
    refine oI 5 (some 16) HT_.out (fun K hK => ?_)
    refine gO Tryd.func42 #[.int .i64 a0_1] ?_
    with_reducible refine (spec_FpOf.calls a0_1 t563 _ A9.out).mono ?_
    rintro e w' ⟨rfl, ⟨nd, rfl⟩⟩
    refine ⟨_, rfl, ?_⟩
    refine hK.out _ _ ⟨bc BK559 0, bc BK559 1⟩ (fun hHeld => ?_)
    clear hK K
    refine nO (some 16) ?_
    refine pI 6 (some 17) HT_.out ?_
    exact norm_ (by simp only [putAll, Act.put, List.setIfInBounds_toArray, List.set_cons_zero, List.set_cons_succ]) (hCont (gb564) _ ⟨hHeld, (bP BK559), (bP BK560), (bP BK561), (bP BK564), GW564.out, GE564.out, NB559_564.out, NB564_559.out, NB560_564.out, NB564_560.out, NB561_564.out, NB564_561.out, (bZ HB)⟩)
  rintro gb564 w19 ⟨hS_, h0_, h1_, h2_, h3_, h4_, h5_, h6_, h7_, h8_, h9_, h10_, h11_, h12_⟩
  replace BK559 : Aside0 (w19.heap[gb559]? = some (.cells #[.int .i64 a0_0, .int .i64 a0_1] 80 (0, 0))) := ⟨h0_⟩
  replace BK560 : Aside0 (w19.heap[gb560]? = some (.cells #[.int .i64 0, .int .i64 0] 80 (0, 0))) := ⟨h1_⟩
  replace BK561 : Aside0 (w19.heap[gb561]? = some (.cells #[.int .i64 1, .int .i64 0] 80 (0, 0))) := ⟨h2_⟩
  have BK564 : Aside0 (w19.heap[gb564]? = some (.cells #[.int .i64 0, .int .i64 0] 80 (0, 0))) := ⟨h3_⟩
  have GW564 : Aside0 (w.heap.size ≤ gb564) := ⟨h4_⟩
  have GE564 : Aside0 (w.heap.size ≤ gb564) := ⟨h5_⟩
  have NB559_564 : Aside0 (gb559 ≠ gb564) := ⟨h6_⟩
  have NB564_559 : Aside0 (gb564 ≠ gb559) := ⟨h7_⟩
  have NB560_564 : Aside0 (gb560 ≠ gb564) := ⟨h8_⟩
  have NB564_560 : Aside0 (gb564 ≠ gb560) := ⟨h9_⟩
  have NB561_564 : Aside0 (gb561 ≠ gb564) := ⟨h10_⟩
  have NB564_561 : Aside0 (gb564 ≠ gb561) := ⟨h11_⟩
  replace HB : Aside0 (Below w.heap.size w w19) := ⟨h12_⟩
  clear h0_ h1_ h2_ h3_ h4_ h5_ h6_ h7_ h8_ h9_ h10_ h11_ h12_
  have hHeld : w19.cell? ⟨gb559, 0, none⟩ = some (.int .i64 a0_0) ∧ w19.cell? ⟨gb559, 1, none⟩ = some (.int .i64 a0_1) := hS_
  refine norm_ (a' := ?_) ?_ ?_
  rotate_left
  ·simp only [putAll, Act.put, List.setIfInBounds_toArray, List.set_cons_zero, List.set_cons_succ]
   rfl
  refine oI 8 (none) HT_.out (fun K hK => ?_)
  have hs20 : w19.cell? ⟨gb564, 0, none⟩ = some (.int .i64 0) := bc BK564 0
  have hfs20 := blk_frozen BK564.out 0
  have hns20_0 := NB559_564.out
  have hns20_1 := NB560_564.out
  have hns20_2 := NB561_564.out
  have hms20_0 := NB564_559.out
  have hms20_1 := NB564_560.out
  have hms20_2 := NB564_561.out
  have hs21 : w19.cell? ⟨gb564, 1, none⟩ = some (.int .i64 0) := bc BK564 1
  have hfs21 := blk_frozen BK564.out 1
  have hns21_0 := NB559_564.out
  have hns21_1 := NB560_564.out
  have hns21_2 := NB561_564.out
  have hms21_0 := NB564_559.out
  have hms21_1 := NB564_560.out
  have hms21_2 := NB564_561.out
  refine skip_ (w1 := ?_) (by rfl) rfl ?_ ?_
  rotate_left
  ·go_simp
   rfl
  refine hK.out _ _ ⟨((cell_far (p := ⟨gb564, _, none⟩) NB559_564.out _).trans (((cell_far (p := ⟨gb564, _, none⟩) NB559_564.out _).trans (hHeld.1)))), ((cell_far (p := ⟨gb564, _, none⟩) NB559_564.out _).trans (((cell_far (p := ⟨gb564, _, none⟩) NB559_564.out _).trans (hHeld.2))))⟩ (fun hHeld => ?_)
  clear hK K
  refine done_ (done_of HT_.out (by kernel_rfl)) ?_
  try go_wp2
  go_loopg [1] k (fun kq v1 w' => ∃ (x1_1 : Int) (x562000_1 : Int) (x562001_1 : Int) (x565000_1 : Int) (x565001_1 : Int), v1 = .int .i64 x1_1 ∧ Aside0 (spec_TwoPow.l0 kq x1_1 x562000_1 x562001_1 x565000_1 x565001_1 = some (r1, r2)) ∧ Aside0 (kq ≤ k) ∧ Aside0 (w'.heap[gb559]? = some (.cells #[.int .i64 a0_0, .int .i64 a0_1] 80 (0, 0))) ∧ Aside0 (w'.heap[gb560]? = some (.cells #[.int .i64 0, .int .i64 0] 80 (0, 0))) ∧ Aside0 (w'.heap[gb561]? = some (.cells #[.int .i64 x562000_1, .int .i64 x562001_1] 80 (0, 0))) ∧ Aside0 (w'.heap[gb564]? = some (.cells #[.int .i64 x565000_1, .int .i64 x565001_1] 80 (0, 0))) ∧ Aside0 (Below w.heap.size w w'))
  case atStart => exact ⟨(a1), (1), (0), (t562), (t563), rS, H', ⟨Nat.le_refl _⟩, ⟨bP BK559⟩, ⟨bP BK560⟩, ⟨bP BK561⟩, ⟨bU BK564⟩, ⟨bZ HB⟩⟩
  case round =>
   clear H'
   try clear c1
   try clear p2
   try clear c3
   try clear c3b0
   try clear c4
   try clear c6
   try clear c10
   try clear c13
   try clear c14
   try clear hcz15_0
   try clear hcz15_1
   try clear hcz7_0
   try clear hcz7_1
   try clear hfz15_0
   try clear hfz15_1
   try clear hfz7_0
   try clear hfz7_1
   obtain ⟨x1_1, x562000_1, x562001_1, x565000_1, x565001_1, rfl, HA, HK1, BK559, BK560, BK561, BK564, HB⟩ := hrel
   cases gk with
   | zero => exact absurd HA.out (by simp [spec_TwoPow.l0])
   | succ k1 =>
    have H := HA.out
    clear HA
    simp only [spec_TwoPow.l0] at H
    by_cases c22 : x1_1 > 0
    ·rw [if_pos c22] at H
     have c22b0 : decide (0 < x1_1) = true := decide_eq_true c22
     clear c22
     by_cases c23 : (Int.tmod x1_1 2) = 1
     ·rw [if_pos c23] at H
      have c23b0 : ((Int.tmod x1_1 2) == 1) = true := beq_iff_eq.mpr c23
      have c23b1 : ((Int.tmod x1_1 2) != 1) = false := bne_eq_false_iff_eq.mpr c23
      clear c23
      replace H := Option.bind_eq_some_iff.mp H
      obtain ⟨⟨t565, t566⟩, A240, H⟩ := H
      have A24 := Aside0.mk A240
      clear A240
      replace H := Option.bind_eq_some_iff.mp H
      obtain ⟨⟨t567, t568⟩, A250, H⟩ := H
      have A25 := Aside0.mk A250
      clear A250
      have H' := Aside0.mk H
      clear H
      have hnb26 := NB561_559.out
      have hnc26 := NB559_561.out
      have hnb27 := NB561_560.out
      have hnc27 := NB560_561.out
      have hnb28 := NB561_564.out
      have hnc28 := NB564_561.out
      obtain ⟨hcz29_0, hcz29_1, hfz29_0, hfz29_1⟩ := bK2 (w := wr) BK561
      have hnb30 := NB564_559.out
      have hnc30 := NB559_564.out
      have hnb31 := NB564_560.out
      have hnc31 := NB560_564.out
      obtain ⟨hcz32_0, hcz32_1, hfz32_0, hfz32_1⟩ := bK2 (w := wr) BK564
      go_wp2_with (first | ((with_reducible refine gate_callee (f := 104) rfl ?_); refine gL (some 25) Tryd.func104 #[.agg #[.int .i64 x562000_1, .int .i64 x562001_1], .agg #[.int .i64 x565000_1, .int .i64 x565001_1]] ?_; (with_reducible refine (spec_TwoMul.calls x562000_1 x562001_1 x565000_1 x565001_1 t565 t566 _ A24.out).mono ?_); rintro e w33 ⟨rfl, hb⟩; refine ⟨_, rfl, ?_⟩; replace BK559 := bB BK559 hb; replace BK560 := bB BK560 hb; replace BK561 := bB BK561 hb; replace BK564 := bB BK564 hb; replace HB := bS HB hb; (try clear hb); obtain ⟨hcz34_0, hcz34_1, hfz34_0, hfz34_1⟩ := bK2 (w := w33) BK561; obtain ⟨hcz35_0, hcz35_1, hfz35_0, hfz35_1⟩ := bK2 (w := w33) BK564) | ((with_reducible refine gate_callee (f := 104) rfl ?_); refine gL (some 28) Tryd.func104 #[.agg #[.int .i64 x565000_1, .int .i64 x565001_1], .agg #[.int .i64 x565000_1, .int .i64 x565001_1]] ?_; (with_reducible refine (spec_TwoMul.calls x565000_1 x565001_1 x565000_1 x565001_1 t567 t568 _ A25.out).mono ?_); rintro e w36 ⟨rfl, hb⟩; refine ⟨_, rfl, ?_⟩; replace BK559 := bB BK559 hb; replace BK560 := bB BK560 hb; replace BK561 := bV 80 #[.int .i64 t565, .int .i64 t566] BK561 hb; replace BK564 := bB BK564 hb; replace HB := bS HB hb; (try clear hb); obtain ⟨hcz37_0, hcz37_1, hfz37_0, hfz37_1⟩ := bK2 (w := w36) BK564))
      go_roundg k1
      case measure => have := HK1.out; omega
      case rel => exact ⟨(wrap64 (Int.tdiv x1_1 2)), (t565), (t566), (t567), (t568), rS, H', ⟨by have := HK1.out; omega⟩, ⟨bP BK559⟩, ⟨bP BK560⟩, ⟨bP BK561⟩, ⟨bU BK564⟩, ⟨bZ HB⟩⟩
     ·rw [if_neg c23] at H
      have c23b0 : ((Int.tmod x1_1 2) == 1) = false := beq_eq_false_iff_ne.mpr c23
      have c23b1 : ((Int.tmod x1_1 2) != 1) = true := bne_iff_ne.mpr c23
      replace H := Option.bind_eq_some_iff.mp H
      obtain ⟨⟨t569, t570⟩, A380, H⟩ := H
      have A38 := Aside0.mk A380
      clear A380
      have H' := Aside0.mk H
      clear H
      have hnb39 := NB564_559.out
      have hnc39 := NB559_564.out
      have hnb40 := NB564_560.out
      have hnc40 := NB560_564.out
      have hnb41 := NB564_561.out
      have hnc41 := NB561_564.out
      obtain ⟨hcz42_0, hcz42_1, hfz42_0, hfz42_1⟩ := bK2 (w := wr) BK564
      go_wp2_with (first | ((with_reducible refine gate_callee (f := 104) rfl ?_); refine gL (some 28) Tryd.func104 #[.agg #[.int .i64 x565000_1, .int .i64 x565001_1], .agg #[.int .i64 x565000_1, .int .i64 x565001_1]] ?_; (with_reducible refine (spec_TwoMul.calls x565000_1 x565001_1 x565000_1 x565001_1 t569 t570 _ A38.out).mono ?_); rintro e w43 ⟨rfl, hb⟩; refine ⟨_, rfl, ?_⟩; replace BK559 := bB BK559 hb; replace BK560 := bB BK560 hb; replace BK561 := bB BK561 hb; replace BK564 := bB BK564 hb; replace HB := bS HB hb; (try clear hb); obtain ⟨hcz44_0, hcz44_1, hfz44_0, hfz44_1⟩ := bK2 (w := w43) BK564))
      go_roundg k1
      case measure => have := HK1.out; omega
      case rel => exact ⟨(wrap64 (Int.tdiv x1_1 2)), (x562000_1), (x562001_1), (t569), (t570), rS, H', ⟨by have := HK1.out; omega⟩, ⟨bP BK559⟩, ⟨bP BK560⟩, ⟨bP BK561⟩, ⟨bU BK564⟩, ⟨bZ HB⟩⟩
    ·rw [if_neg c22] at H
     have c22b0 : decide (0 < x1_1) = false := decide_eq_false c22
     clear c22
     simp only [Option.some.injEq, Prod.mk.injEq] at H
     obtain ⟨rfl, rfl⟩ := H
     have hnb45 := NB561_559.out
     have hnc45 := NB559_561.out
     have hnb46 := NB561_560.out
     have hnc46 := NB560_561.out
     have hnb47 := NB561_564.out
     have hnc47 := NB564_561.out
     obtain ⟨hcz48_0, hcz48_1, hfz48_0, hfz48_1⟩ := bK2 (w := wr) BK561
     have hnb49 := NB560_559.out
     have hnc49 := NB559_560.out
     have hnb50 := NB560_564.out
     have hnc50 := NB564_560.out
     obtain ⟨hcz51_0, hcz51_1, hfz51_0, hfz51_1⟩ := bK2 (w := wr) BK560
     go_wp2
     refine rC gb560 80 #[.int .i64 x562000_1, .int .i64 x562001_1] (bU BK560) Tryd.underlying80 ?_
     exact ⟨rR, bZ HB⟩
/-! ### spec_TwoTurn: function 105 -/
def spec_TwoTurn.f (a0_0 : Int) (a0_1 : Int) : Option (Int × Int) := (spec_FpOf.f a0_0).bind fun t573 => ((spec_FpSub.f 0 a0_1).bind fun t574 => (some (t573, t574)))
def spec_TwoTurn.T1 : Bool × List (List Nat × List Nat) := (true, [([], []), ([0], [0]), ([1], [1]), ([], []), ([3], [3]), ([4, 2], [4]), ([2, 5], [2, 5]), ([6, 5, 0, 1, 2, 3, 4, 5, 6], [6])])
def spec_TwoTurn.B1 : List Nat := [0, 1, 3, 0, 8, 31, 63, 127]
theorem spec_TwoTurn.tab1 : rtab .any (opsOf Tryd.f105 1) = spec_TwoTurn.T1 := by kernel_rfl
theorem spec_TwoTurn.bits1 : waitsOk spec_TwoTurn.T1.2 spec_TwoTurn.B1 = true := by kernel_rfl
set_option maxHeartbeats 8000000 in
set_option maxRecDepth 100000 in
theorem spec_TwoTurn.calls (a0_0 : Int) (a0_1 : Int) (r1 : Int) (r2 : Int) (w : World) (h : spec_TwoTurn.f a0_0 a0_1 = some (r1, r2)) :
  Calls Tryd.prog 105 #[.agg #[.int .i64 a0_0, .int .i64 a0_1]] w fun e w' => e = .returned (.agg #[.int .i64 r1, .int .i64 r2]) ∧ Below w.heap.size w w' := by
 have hu80 := Tryd.underlying80
 have HB := Aside0.mk (Below.refl w.heap.size w)
 have H : ((spec_FpOf.f a0_0).bind fun t573 => ((spec_FpSub.f 0 a0_1).bind fun t574 => (some (t573, t574)))) = some (r1, r2) := h
 clear h
 replace H := Option.bind_eq_some_iff.mp H
 obtain ⟨t573, A20, H⟩ := H
 have A2 := Aside0.mk A20
 clear A20
 replace H := Option.bind_eq_some_iff.mp H
 obtain ⟨t574, A30, H⟩ := H
 have A3 := Aside0.mk A30
 clear A30
 simp only [Option.some.injEq, Prod.mk.injEq] at H
 obtain ⟨rfl, rfl⟩ := H
 go_enter Tryd.func105, Tryd.ntmps105
 try go_wp2_with (first | ((with_reducible refine gate_dst (N := 1) rfl ?_); refine bE 1 #[.int .i64 a0_0, .int .i64 a0_1] 80 ?_; intro gb571 hg w4 hbox hb; have BK571 := Aside0.mk (hbox); have GW571 := bG HB hg; have GE571 := bG HB hg; replace HB := bS HB hb; clear hb hbox hg) | ((with_reducible refine gate_dst (N := 2) rfl ?_); refine bE 2 #[.int .i64 0, .int .i64 0] 80 ?_; intro gb572 hg w5 hbox hb; have BK572 := Aside0.mk (hbox); have GW572 := bG HB hg; have GE572 := bG HB hg; replace HB := bS HB hb; have NB571_572 := bL BK571 hg; have NB572_571 := bR BK571 hg; replace BK571 := bB BK571 hb; clear hb hbox hg))
 replace BK571 := Aside0.mk (blk_drew BK571.out)
 replace BK572 := Aside0.mk (blk_drew BK572.out)
 replace HB := Aside0.mk (below_drew1 HB.out)
 refine start_ (n := 8) (S := fun w' => w'.cell? ⟨gb571, 0, none⟩ = some (.int .i64 a0_0) ∧ w'.cell? ⟨gb571, 1, none⟩ = some (.int .i64 a0_1)) (ds := []) #[false, false, false, false, false, false, false, false] (by kernel_rfl) rfl rfl ⟨bc BK571 0, bc BK571 1⟩ (fun hHeld => ?_); refine with_tabW spec_TwoTurn.tab1 spec_TwoTurn.bits1 (fun HT_ HW_ => ?_)
 generalize w5.drew = w6 at BK571 BK572 HB hHeld ⊢
 refine pI 0 (some 3) HT_.out ?_
 refine pI 3 (some 6) HT_.out ?_
 refine tI2 1 (some 4) HT_.out HW_.out hHeld ?_
 refine tI2 4 (some 7) HT_.out HW_.out hHeld ?_
 refine oI 2 (some 5) HT_.out (fun K hK => ?_)
 refine gO Tryd.func42 #[.int .i64 a0_0] ?_
 with_reducible refine (spec_FpOf.calls a0_0 t573 _ A2.out).mono ?_
 rintro e w' ⟨rfl, ⟨nd, rfl⟩⟩
 refine ⟨_, rfl, ?_⟩
 refine hK.out _ _ ⟨bc BK571 0, bc BK571 1⟩ (fun hHeld => ?_)
 clear hK K
 refine nO (some 5) ?_
 refine oI 5 (some 8) HT_.out (fun K hK => ?_)
 refine gO Tryd.func85 #[.int .i64 0, .int .i64 a0_1] ?_
 with_reducible refine (spec_FpSub.calls 0 a0_1 t574 _ A3.out).mono ?_
 rintro e w' ⟨rfl, ⟨nd, rfl⟩⟩
 refine ⟨_, rfl, ?_⟩
 refine hK.out _ _ ⟨bc BK571 0, bc BK571 1⟩ (fun hHeld => ?_)
 clear hK K
 refine nO (some 8) ?_
 refine pI 6 (some 9) HT_.out ?_
 refine oI 7 (none) HT_.out (fun K hK => ?_)
 have hs7 : w6.cell? ⟨gb572, 0, none⟩ = some (.int .i64 0) := bc BK572 0
 have hfs7 := blk_frozen BK572.out 0
 have hns7_0 := NB571_572.out
 have hms7_0 := NB572_571.out
 have hs8 : w6.cell? ⟨gb572, 1, none⟩ = some (.int .i64 0) := bc BK572 1
 have hfs8 := blk_frozen BK572.out 1
 have hns8_0 := NB571_572.out
 have hms8_0 := NB572_571.out
 refine skip_ (w1 := ?_) (by rfl) rfl ?_ ?_
 rotate_left
 ·go_simp
  rfl
 refine hK.out _ _ ⟨((cell_far (p := ⟨gb572, _, none⟩) NB571_572.out _).trans (((cell_far (p := ⟨gb572, _, none⟩) NB571_572.out _).trans (hHeld.1)))), ((cell_far (p := ⟨gb572, _, none⟩) NB571_572.out _).trans (((cell_far (p := ⟨gb572, _, none⟩) NB571_572.out _).trans (hHeld.2))))⟩ (fun hHeld => ?_)
 clear hK K
 refine done_ (done_of HT_.out (by kernel_rfl)) ?_
 try go_wp2
 refine rC gb572 80 #[.int .i64 t573, .int .i64 t574] (bU BK572) Tryd.underlying80 ?_
 exact ⟨rR, bZ HB⟩
/-! ### spec_TwoInv: function 106 -/
def spec_TwoInv.f (k : Nat) (a0_0 : Int) (a0_1 : Int) : Option (Int × Int) := (spec_FpMul.f a0_0 a0_0).bind fun t577 => ((spec_FpMul.f a0_1 a0_1).bind fun t578 => ((spec_FpAdd.f t577 t578).bind fun t579 => ((spec_FpInv.f k t579).bind fun t580 => ((spec_FpMul.f a0_0 t580).bind fun t581 => ((spec_FpSub.f 0 a0_1).bind fun t582 => ((spec_FpMul.f t582 t580).bind fun t583 => (some (t581, t583))))))))
theorem spec_TwoInv.mono : ∀ a0 a1 k, LeO (spec_TwoInv.f k a0 a1) (spec_TwoInv.f (k + 1) a0 a1) := by
 intro a0 a1 k
 unfold spec_TwoInv.f
 repeat' first
   | (with_reducible exact spec_FpInv.mono _ _)
   | (with_reducible exact LeO.refl _)
   | (with_reducible exact LeO.none _)
   | (with_reducible refine LeO.ite ?_ ?_)
   | (with_reducible refine LeO.bind ?_ (fun _ => ?_))
   | exact spec_FpInv.mono _ _
   | exact LeO.none _
   | refine LeO.ite ?_ ?_
   | refine LeO.bind ?_ (fun _ => ?_)
def spec_TwoInv.T1 : Bool × List (List Nat × List Nat) := (true, [([], []), ([0], [0]), ([], []), ([2], [2]), ([1, 3], [1, 3]), ([], []), ([5], [5]), ([], []), ([7], [7]), ([6, 8, 4], [6, 8]), ([4, 9, 9], [4, 9]), ([10, 10], [10]), ([11, 11, 0, 1, 2, 3, 4, 5, 6, 7, 8, 9, 10, 11], [11])])
def spec_TwoInv.B1 : List Nat := [0, 1, 0, 4, 15, 0, 32, 0, 128, 511, 1023, 2047, 4095]
theorem spec_TwoInv.tab1 : rtab .any (opsOf Tryd.f106 1) = spec_TwoInv.T1 := by kernel_rfl
theorem spec_TwoInv.bits1 : waitsOk spec_TwoInv.T1.2 spec_TwoInv.B1 = true := by kernel_rfl
def spec_TwoInv.T2 : Bool × List (List Nat × List Nat) := (true, [([], []), ([0], [0]), ([], []), ([1, 2], [1, 2]), ([], []), ([4], [4]), ([5, 3], [5]), ([], []), ([6, 7, 6], [6, 7]), ([3, 8], [3, 8]), ([9, 8, 0, 1, 2, 3, 4, 5, 6, 7, 8, 9], [9])])
def spec_TwoInv.B2 : List Nat := [0, 1, 0, 7, 0, 16, 63, 0, 255, 511, 1023]
theorem spec_TwoInv.tab2 : rtab .any (opsOf Tryd.f106 2) = spec_TwoInv.T2 := by kernel_rfl
theorem spec_TwoInv.bits2 : waitsOk spec_TwoInv.T2.2 spec_TwoInv.B2 = true := by kernel_rfl
set_option maxHeartbeats 8000000 in
set_option maxRecDepth 100000 in
theorem spec_TwoInv.calls (k : Nat) (a0_0 : Int) (a0_1 : Int) (r1 : Int) (r2 : Int) (w : World) (h : spec_TwoInv.f k a0_0 a0_1 = some (r1, r2)) :
  Calls Tryd.prog 106 #[.agg #[.int .i64 a0_0, .int .i64 a0_1]] w fun e w' => e = .returned (.agg #[.int .i64 r1, .int .i64 r2]) ∧ Below w.heap.size w w' := by
 have hu80 := Tryd.underlying80
 have HB := Aside0.mk (Below.refl w.heap.size w)
 have H : ((spec_FpMul.f a0_0 a0_0).bind fun t577 => ((spec_FpMul.f a0_1 a0_1).bind fun t578 => ((spec_FpAdd.f t577 t578).bind fun t579 => ((spec_FpInv.f k t579).bind fun t580 => ((spec_FpMul.f a0_0 t580).bind fun t581 => ((spec_FpSub.f 0 a0_1).bind fun t582 => ((spec_FpMul.f t582 t580).bind fun t583 => (some (t581, t583))))))))) = some (r1, r2) := h
 clear h
 replace H := Option.bind_eq_some_iff.mp H
 obtain ⟨t577, A20, H⟩ := H
 have A2 := Aside0.mk A20
 clear A20
 replace H := Option.bind_eq_some_iff.mp H
 obtain ⟨t578, A30, H⟩ := H
 have A3 := Aside0.mk A30
 clear A30
 replace H := Option.bind_eq_some_iff.mp H
 obtain ⟨t579, A40, H⟩ := H
 have A4 := Aside0.mk A40
 clear A40
 replace H := Option.bind_eq_some_iff.mp H
 obtain ⟨t580, A50, H⟩ := H
 have A5 := Aside0.mk A50
 clear A50
 replace H := Option.bind_eq_some_iff.mp H
 obtain ⟨t581, A60, H⟩ := H
 have A6 := Aside0.mk A60
 clear A60
 replace H := Option.bind_eq_some_iff.mp H
 obtain ⟨t582, A70, H⟩ := H
 have A7 := Aside0.mk A70
 clear A70
 replace H := Option.bind_eq_some_iff.mp H
 obtain ⟨t583, A80, H⟩ := H
 have A8 := Aside0.mk A80
 clear A80
 simp only [Option.some.injEq, Prod.mk.injEq] at H
 obtain ⟨rfl, rfl⟩ := H
 go_enter Tryd.func106, Tryd.ntmps106
 try go_wp2_with (first | ((with_reducible refine gate_dst (N := 1) rfl ?_); refine bE 1 #[.int .i64 a0_0, .int .i64 a0_1] 80 ?_; intro gb575 hg w9 hbox hb; have BK575 := Aside0.mk (hbox); have GW575 := bG HB hg; have GE575 := bG HB hg; replace HB := bS HB hb; clear hb hbox hg) | ((with_reducible refine gate_dst (N := 2) rfl ?_); refine bE 2 #[.int .i64 0, .int .i64 0] 80 ?_; intro gb576 hg w10 hbox hb; have BK576 := Aside0.mk (hbox); have GW576 := bG HB hg; have GE576 := bG HB hg; replace HB := bS HB hb; have NB575_576 := bL BK575 hg; have NB576_575 := bR BK575 hg; replace BK575 := bB BK575 hb; clear hb hbox hg))
 replace BK575 := Aside0.mk (blk_drew BK575.out)
 replace BK576 := Aside0.mk (blk_drew BK576.out)
 replace HB := Aside0.mk (below_drew1 HB.out)
 refine start_ (n := 13) (S := fun w' => w'.cell? ⟨gb575, 0, none⟩ = some (.int .i64 a0_0) ∧ w'.cell? ⟨gb575, 1, none⟩ = some (.int .i64 a0_1)) (ds := []) #[false, false, false, false, false, false, false, false, false, false, false, false, false] (by kernel_rfl) rfl rfl ⟨bc BK575 0, bc BK575 1⟩ (fun hHeld => ?_); refine with_tabW spec_TwoInv.tab1 spec_TwoInv.bits1 (fun HT_ HW_ => ?_)
 generalize w10.drew = w11 at BK575 BK576 HB hHeld ⊢
 refine pI 0 (some 4) HT_.out ?_
 refine pI 2 (some 6) HT_.out ?_
 refine pI 5 (some 9) HT_.out ?_
 refine pI 7 (some 11) HT_.out ?_
 refine tI2 1 (some 5) HT_.out HW_.out hHeld ?_
 refine tI2 3 (some 7) HT_.out HW_.out hHeld ?_
 refine tI2 6 (some 10) HT_.out HW_.out hHeld ?_
 refine tI2 8 (some 12) HT_.out HW_.out hHeld ?_
 refine oI 4 (some 8) HT_.out (fun K hK => ?_)
 refine gO Tryd.func84 #[.int .i64 a0_0, .int .i64 a0_0] ?_
 with_reducible refine (spec_FpMul.calls a0_0 a0_0 t577 _ A2.out).mono ?_
 rintro e w' ⟨rfl, ⟨nd, rfl⟩⟩
 refine ⟨_, rfl, ?_⟩
 refine hK.out _ _ ⟨bc BK575 0, bc BK575 1⟩ (fun hHeld => ?_)
 clear hK K
 refine nO (some 8) ?_
 refine oI 9 (some 13) HT_.out (fun K hK => ?_)
 refine gO Tryd.func84 #[.int .i64 a0_1, .int .i64 a0_1] ?_
 with_reducible refine (spec_FpMul.calls a0_1 a0_1 t578 _ A3.out).mono ?_
 rintro e w' ⟨rfl, ⟨nd, rfl⟩⟩
 refine ⟨_, rfl, ?_⟩
 refine hK.out _ _ ⟨bc BK575 0, bc BK575 1⟩ (fun hHeld => ?_)
 clear hK K
 refine nO (some 13) ?_
 refine oI 10 (some 14) HT_.out (fun K hK => ?_)
 refine gO Tryd.func86 #[.int .i64 t577, .int .i64 t578] ?_
 with_reducible refine (spec_FpAdd.calls t577 t578 t579 _ A4.out).mono ?_
 rintro e w' ⟨rfl, ⟨nd, rfl⟩⟩
 refine ⟨_, rfl, ?_⟩
 refine hK.out _ _ ⟨bc BK575 0, bc BK575 1⟩ (fun hHeld => ?_)
 clear hK K
 refine nO (some 14) ?_
 refine oI 11 (some 15) HT_.out (fun K hK => ?_)
 refine gO Tryd.func131 #[.int .i64 t579] ?_
 with_reducible refine (spec_FpInv.calls k t579 t580 _ A5.out).mono ?_
 rintro e w' ⟨rfl, ⟨nd, rfl⟩⟩
 refine ⟨_, rfl, ?_⟩
 refine hK.out _ _ ⟨bc BK575 0, bc BK575 1⟩ (fun hHeld => ?_)
 clear hK K
 refine nO (some 15) ?_
 refine pI 12 (some 3) HT_.out ?_
 refine done_ (done_of HT_.out (by kernel_rfl)) ?_
 try go_wp2
 (try simp only [World.drewN_drewN]); (try (rw [drewN_self w11]; generalize hq_ : World.drewN w11 _ = w11; replace BK575 : Aside0 (w11.heap[gb575]? = some (.cells #[.int .i64 a0_0, .int .i64 a0_1] 80 (0, 0))) := ⟨by rw [← hq_]; exact (bP BK575)⟩; replace BK576 : Aside0 (w11.heap[gb576]? = some (.cells #[.int .i64 0, .int .i64 0] 80 (0, 0))) := ⟨by rw [← hq_]; exact (bP BK576)⟩; replace HB : Aside0 (Below w.heap.size w w11) := ⟨by rw [← hq_]; exact (bZ HB)⟩; clear hq_))
 replace BK575 := Aside0.mk (blk_drew BK575.out)
 replace BK576 := Aside0.mk (blk_drew BK576.out)
 replace HB := Aside0.mk (below_drew1 HB.out)
 refine start_ (n := 11) (S := fun w' => w'.cell? ⟨gb575, 0, none⟩ = some (.int .i64 a0_0) ∧ w'.cell? ⟨gb575, 1, none⟩ = some (.int .i64 a0_1)) (ds := []) #[false, false, false, false, false, false, false, false, false, false, false] (by kernel_rfl) rfl rfl ⟨bc BK575 0, bc BK575 1⟩ (fun hHeld => ?_); refine with_tabW spec_TwoInv.tab2 spec_TwoInv.bits2 (fun HT_ HW_ => ?_)
 generalize w11.drew = w12 at BK575 BK576 HB hHeld ⊢
 refine pI 0 (some 16) HT_.out ?_
 refine pI 2 (some 18) HT_.out ?_
 refine pI 4 (some 20) HT_.out ?_
 refine pI 7 (some 23) HT_.out ?_
 refine tI2 1 (some 17) HT_.out HW_.out hHeld ?_
 refine tI2 5 (some 21) HT_.out HW_.out hHeld ?_
 refine oI 3 (some 19) HT_.out (fun K hK => ?_)
 refine gO Tryd.func84 #[.int .i64 a0_0, .int .i64 t580] ?_
 with_reducible refine (spec_FpMul.calls a0_0 t580 t581 _ A6.out).mono ?_
 rintro e w' ⟨rfl, ⟨nd, rfl⟩⟩
 refine ⟨_, rfl, ?_⟩
 refine hK.out _ _ ⟨bc BK575 0, bc BK575 1⟩ (fun hHeld => ?_)
 clear hK K
 refine nO (some 19) ?_
 refine oI 6 (some 22) HT_.out (fun K hK => ?_)
 refine gO Tryd.func85 #[.int .i64 0, .int .i64 a0_1] ?_
 with_reducible refine (spec_FpSub.calls 0 a0_1 t582 _ A7.out).mono ?_
 rintro e w' ⟨rfl, ⟨nd, rfl⟩⟩
 refine ⟨_, rfl, ?_⟩
 refine hK.out _ _ ⟨bc BK575 0, bc BK575 1⟩ (fun hHeld => ?_)
 clear hK K
 refine nO (some 22) ?_
 refine oI 8 (some 24) HT_.out (fun K hK => ?_)
 refine gO Tryd.func84 #[.int .i64 t582, .int .i64 t580] ?_
 with_reducible refine (spec_FpMul.calls t582 t580 t583 _ A8.out).mono ?_
 rintro e w' ⟨rfl, ⟨nd, rfl⟩⟩
 refine ⟨_, rfl, ?_⟩
 refine hK.out _ _ ⟨bc BK575 0, bc BK575 1⟩ (fun hHeld => ?_)
 clear hK K
 refine nO (some 24) ?_
 refine pI 9 (some 25) HT_.out ?_
 refine oI 10 (none) HT_.out (fun K hK => ?_)
 have hs13 : w12.cell? ⟨gb576, 0, none⟩ = some (.int .i64 0) := bc BK576 0
 have hfs13 := blk_frozen BK576.out 0
 have hns13_0 := NB575_576.out
 have hms13_0 := NB576_575.out
 have hs14 : w12.cell? ⟨gb576, 1, none⟩ = some (.int .i64 0) := bc BK576 1
 have hfs14 := blk_frozen BK576.out 1
 have hns14_0 := NB575_576.out
 have hms14_0 := NB576_575.out
 refine skip_ (w1 := ?_) (by rfl) rfl ?_ ?_
 rotate_left
 ·go_simp
  rfl
 refine hK.out _ _ ⟨((cell_far (p := ⟨gb576, _, none⟩) NB575_576.out _).trans (((cell_far (p := ⟨gb576, _, none⟩) NB575_576.out _).trans (hHeld.1)))), ((cell_far (p := ⟨gb576, _, none⟩) NB575_576.out _).trans (((cell_far (p := ⟨gb576, _, none⟩) NB575_576.out _).trans (hHeld.2))))⟩ (fun hHeld => ?_)
 clear hK K
 refine done_ (done_of HT_.out (by kernel_rfl)) ?_
 try go_wp2
 refine rC gb576 80 #[.int .i64 t581, .int .i64 t583] (bU BK576) Tryd.underlying80 ?_
 exact ⟨rR, bZ HB⟩
/-! ### spec_Pairing: function 66 -/
def spec_Pairing.j0 : Nat → Bool → Int → Int → Bool → Int → Int → Bool → Option (Int × Int)
 | 0, _, _, _, _, _, _, _ => none
 | k + 1, x21, x585000, x585001, x585002, x586000, x586001, x586002 => if x21 = true then (some (1, 0)) else ((spec_Miller.f k x585000 x585001 x585002 x586000 x586001 x586002).bind fun bt589 => ((spec_TwoTurn.f bt589.1 bt589.2).bind fun bt592 => ((spec_TwoInv.f k bt589.1 bt589.2).bind fun bt594 => ((spec_TwoMul.f bt592.1 bt592.2 bt594.1 bt594.2).bind fun bt596 => ((spec_TwoPow.f k bt596.1 bt596.2 12).bind fun bt598 => (some (bt598.1, bt598.2)))))))
def spec_Pairing.f (k : Nat) (a0_0 : Int) (a0_1 : Int) (a0_2 : Bool) (a1_0 : Int) (a1_1 : Int) (a1_2 : Bool) : Option (Int × Int) := (spec_InGroup.f k a0_0 a0_1 a0_2).bind fun t587 => (if t587 = true then ((spec_InGroup.f k a1_0 a1_1 a1_2).bind fun t588 => (if t588 = true then (if a0_2 = true then (spec_Pairing.j0 k true a0_0 a0_1 a0_2 a1_0 a1_1 a1_2) else (spec_Pairing.j0 k a1_2 a0_0 a0_1 a0_2 a1_0 a1_1 a1_2)) else (spec_Pairing.j0 k true a0_0 a0_1 a0_2 a1_0 a1_1 a1_2))) else (spec_Pairing.j0 k true a0_0 a0_1 a0_2 a1_0 a1_1 a1_2))
theorem spec_Pairing.mono_l : ∀ k, (∀ y0 y1 y2 y3 y4 y5 y6, LeO (spec_Pairing.j0 k y0 y1 y2 y3 y4 y5 y6) (spec_Pairing.j0 (k + 1) y0 y1 y2 y3 y4 y5 y6))
 | 0 => fun _ _ _ _ _ _ _ r h => by simp [spec_Pairing.j0] at h
 | k + 1 => by
  have ih0 := spec_Pairing.mono_l k
  ·intro y0 y1 y2 y3 y4 y5 y6
   unfold spec_Pairing.j0
   repeat' first
   | (with_reducible exact ih0 _ _ _ _ _ _ _)
   | (with_reducible exact spec_InGroup.mono _ _ _ _)
   | (with_reducible exact spec_Miller.mono _ _ _ _ _ _ _)
   | (with_reducible exact spec_TwoInv.mono _ _ _)
   | (with_reducible exact spec_TwoPow.mono _ _ _ _)
   | (with_reducible exact LeO.refl _)
   | (with_reducible exact LeO.none _)
   | (with_reducible refine LeO.ite ?_ ?_)
   | (with_reducible refine LeO.bind ?_ (fun _ => ?_))
   | exact ih0 _ _ _ _ _ _ _
   | exact spec_InGroup.mono _ _ _ _
   | exact spec_Miller.mono _ _ _ _ _ _ _
   | exact spec_TwoInv.mono _ _ _
   | exact spec_TwoPow.mono _ _ _ _
   | exact LeO.none _
   | refine LeO.ite ?_ ?_
   | refine LeO.bind ?_ (fun _ => ?_)
theorem spec_Pairing.mono : ∀ a0 a1 a2 a3 a4 a5 k, LeO (spec_Pairing.f k a0 a1 a2 a3 a4 a5) (spec_Pairing.f (k + 1) a0 a1 a2 a3 a4 a5) := by
 intro a0 a1 a2 a3 a4 a5 k
 have ih0 := spec_Pairing.mono_l k
 unfold spec_Pairing.f
 repeat' first
   | (with_reducible exact ih0 _ _ _ _ _ _ _)
   | (with_reducible exact spec_InGroup.mono _ _ _ _)
   | (with_reducible exact spec_Miller.mono _ _ _ _ _ _ _)
   | (with_reducible exact spec_TwoInv.mono _ _ _)
   | (with_reducible exact spec_TwoPow.mono _ _ _ _)
   | (with_reducible exact LeO.refl _)
   | (with_reducible exact LeO.none _)
   | (with_reducible refine LeO.ite ?_ ?_)
   | (with_reducible refine LeO.bind ?_ (fun _ => ?_))
   | exact ih0 _ _ _ _ _ _ _
   | exact spec_InGroup.mono _ _ _ _
   | exact spec_Miller.mono _ _ _ _ _ _ _
   | exact spec_TwoInv.mono _ _ _
   | exact spec_TwoPow.mono _ _ _ _
   | exact LeO.none _
   | refine LeO.ite ?_ ?_
   | refine LeO.bind ?_ (fun _ => ?_)
set_option maxHeartbeats 8000000 in
set_option maxRecDepth 100000 in
theorem spec_Pairing.calls (k : Nat) (a0_0 : Int) (a0_1 : Int) (a0_2 : Bool) (a1_0 : Int) (a1_1 : Int) (a1_2 : Bool) (r1 : Int) (r2 : Int) (w : World) (h : spec_Pairing.f k a0_0 a0_1 a0_2 a1_0 a1_1 a1_2 = some (r1, r2)) :
  Calls Tryd.prog 66 #[.agg #[.int .i64 a0_0, .int .i64 a0_1, .bool a0_2], .agg #[.int .i64 a1_0, .int .i64 a1_1, .bool a1_2]] w fun e w' => e = .returned (.agg #[.int .i64 r1, .int .i64 r2]) ∧ Below w.heap.size w w' := by
 have hu23 := Tryd.underlying23
 have hu80 := Tryd.underlying80
 have HB := Aside0.mk (Below.refl w.heap.size w)
 have H : ((spec_InGroup.f k a0_0 a0_1 a0_2).bind fun t587 => (if t587 = true then ((spec_InGroup.f k a1_0 a1_1 a1_2).bind fun t588 => (if t588 = true then (if a0_2 = true then (spec_Pairing.j0 k true a0_0 a0_1 a0_2 a1_0 a1_1 a1_2) else (spec_Pairing.j0 k a1_2 a0_0 a0_1 a0_2 a1_0 a1_1 a1_2)) else (spec_Pairing.j0 k true a0_0 a0_1 a0_2 a1_0 a1_1 a1_2))) else (spec_Pairing.j0 k true a0_0 a0_1 a0_2 a1_0 a1_1 a1_2))) = some (r1, r2) := h
 clear h
 have HC3 := Aside0.mk H
 clear H
 go_enter Tryd.func66, Tryd.ntmps66
 go_upto_region 1 with (first | ((with_reducible refine gate_dst (N := 2) rfl ?_); refine bE 2 #[.int .i64 a0_0, .int .i64 a0_1, .bool a0_2] 23 ?_; intro gb584 hg w4 hbox hb; have BK584 := Aside0.mk (hbox); have GW584 := bG HB hg; have GE584 := bG HB hg; replace HB := bS HB hb; clear hb hbox hg) | ((with_reducible refine gate_dst (N := 3) rfl ?_); refine bE 3 #[.int .i64 a1_0, .int .i64 a1_1, .bool a1_2] 23 ?_; intro gb585 hg w5 hbox hb; have BK585 := Aside0.mk (hbox); have GW585 := bG HB hg; have GE585 := bG HB hg; replace HB := bS HB hb; have NB584_585 := bL BK584 hg; have NB585_584 := bR BK584 hg; replace BK584 := bB BK584 hb; clear hb hbox hg) | ((with_reducible refine gate_dst (N := 4) rfl ?_); refine bE 4 #[.int .i64 0, .int .i64 0] 80 ?_; intro gb586 hg w6 hbox hb; have BK586 := Aside0.mk (hbox); have GW586 := bG HB hg; have GE586 := bG HB hg; replace HB := bS HB hb; have NB584_586 := bL BK584 hg; have NB586_584 := bR BK584 hg; replace BK584 := bB BK584 hb; have NB585_586 := bL BK585 hg; have NB586_585 := bR BK585 hg; replace BK585 := bB BK585 hb; clear hb hbox hg))
 (try simp only [Act.put, List.setIfInBounds_toArray, List.set_cons_zero, List.set_cons_succ])
 go_cut [21] (fun v21 wc => ∃ (kq : Nat) (x21_2 : Bool), v21 = .bool x21_2 ∧ Aside0 (spec_Pairing.j0 kq x21_2 a0_0 a0_1 a0_2 a1_0 a1_1 a1_2 = some (r1, r2)) ∧ Aside0 (kq ≤ k) ∧ Aside0 (wc.heap[gb584]? = some (.cells #[.int .i64 a0_0, .int .i64 a0_1, .bool a0_2] 23 (0, 0))) ∧ Aside0 (wc.heap[gb585]? = some (.cells #[.int .i64 a1_0, .int .i64 a1_1, .bool a1_2] 23 (0, 0))) ∧ Aside0 (wc.heap[gb586]? = some (.cells #[.int .i64 0, .int .i64 0] 80 (0, 0))) ∧ Aside0 (Below w.heap.size w wc))
 case first =>
  have H := HC3.out
  clear HC3
  replace H := Option.bind_eq_some_iff.mp H
  obtain ⟨t587, A70, H⟩ := H
  have A7 := Aside0.mk A70
  clear A70
  by_cases c8 : t587 = true
  ·subst c8
   rw [if_pos rfl] at H
   replace H := Option.bind_eq_some_iff.mp H
   obtain ⟨t588, A90, H⟩ := H
   have A9 := Aside0.mk A90
   clear A90
   by_cases c10 : t588 = true
   ·subst c10
    rw [if_pos rfl] at H
    by_cases c11 : a0_2 = true
    ·subst c11
     rw [if_pos rfl] at H
     have H' := Aside0.mk H
     clear H
     have hnb12 := NB584_585.out
     have hnc12 := NB585_584.out
     have hnb13 := NB584_586.out
     have hnc13 := NB586_584.out
     obtain ⟨hcz14_0, hcz14_1, hcz14_2, hfz14_0, hfz14_1, hfz14_2⟩ := bK3 (w := w6) BK584
     go_wp2_with (first | ((with_reducible refine gate_callee (f := 65) rfl ?_); refine gL (some 7) Tryd.func65 #[.agg #[.int .i64 a0_0, .int .i64 a0_1, .bool true]] ?_; (with_reducible refine (spec_InGroup.calls k a0_0 a0_1 true true _ A7.out).mono ?_); rintro e w15 ⟨rfl, hb⟩; refine ⟨_, rfl, ?_⟩; replace BK584 := bB BK584 hb; replace BK585 := bB BK585 hb; replace BK586 := bB BK586 hb; replace HB := bS HB hb; (try clear hb); have hnb16 := NB585_586.out; have hnc16 := NB586_585.out; obtain ⟨hcz17_0, hcz17_1, hcz17_2, hfz17_0, hfz17_1, hfz17_2⟩ := bK3 (w := w15) BK585) | (go_at_call 65; (with_reducible refine (spec_InGroup.calls k a1_0 a1_1 a1_2 true _ A9.out).mono ?_); rintro e w18 ⟨rfl, hb⟩; replace BK584 := bB BK584 hb; replace BK585 := bB BK585 hb; replace BK586 := bB BK586 hb; replace HB := bS HB hb; (try clear hb); obtain ⟨hcz19_0, hcz19_1, hcz19_2, hfz19_0, hfz19_1, hfz19_2⟩ := bK3 (w := w18) BK584))
     go_meet
     case rel => exact ⟨_, (true), rS, H', ⟨by first | omega | exact Nat.le_refl _⟩, ⟨bP BK584⟩, ⟨bP BK585⟩, ⟨bP BK586⟩, ⟨bZ HB⟩⟩
    ·replace c11 := Bool.eq_false_iff.mpr c11
     subst c11
     rw [if_neg (show ¬ (false = true) by decide)] at H
     have H' := Aside0.mk H
     clear H
     have hnb20 := NB584_585.out
     have hnc20 := NB585_584.out
     have hnb21 := NB584_586.out
     have hnc21 := NB586_584.out
     obtain ⟨hcz22_0, hcz22_1, hcz22_2, hfz22_0, hfz22_1, hfz22_2⟩ := bK3 (w := w6) BK584
     go_wp2_with (first | ((with_reducible refine gate_callee (f := 65) rfl ?_); refine gL (some 7) Tryd.func65 #[.agg #[.int .i64 a0_0, .int .i64 a0_1, .bool false]] ?_; (with_reducible refine (spec_InGroup.calls k a0_0 a0_1 false true _ A7.out).mono ?_); rintro e w23 ⟨rfl, hb⟩; refine ⟨_, rfl, ?_⟩; replace BK584 := bB BK584 hb; replace BK585 := bB BK585 hb; replace BK586 := bB BK586 hb; replace HB := bS HB hb; (try clear hb); have hnb24 := NB585_586.out; have hnc24 := NB586_585.out; obtain ⟨hcz25_0, hcz25_1, hcz25_2, hfz25_0, hfz25_1, hfz25_2⟩ := bK3 (w := w23) BK585) | (go_at_call 65; (with_reducible refine (spec_InGroup.calls k a1_0 a1_1 a1_2 true _ A9.out).mono ?_); rintro e w26 ⟨rfl, hb⟩; replace BK584 := bB BK584 hb; replace BK585 := bB BK585 hb; replace BK586 := bB BK586 hb; replace HB := bS HB hb; (try clear hb); obtain ⟨hcz27_0, hcz27_1, hcz27_2, hfz27_0, hfz27_1, hfz27_2⟩ := bK3 (w := w26) BK584; obtain ⟨hcz28_0, hcz28_1, hcz28_2, hfz28_0, hfz28_1, hfz28_2⟩ := bK3 (w := w26) BK585))
     go_meet
     case rel => exact ⟨_, (a1_2), rS, H', ⟨by first | omega | exact Nat.le_refl _⟩, ⟨bP BK584⟩, ⟨bP BK585⟩, ⟨bP BK586⟩, ⟨bZ HB⟩⟩
   ·replace c10 := Bool.eq_false_iff.mpr c10
    subst c10
    rw [if_neg (show ¬ (false = true) by decide)] at H
    have H' := Aside0.mk H
    clear H
    have hnb29 := NB584_585.out
    have hnc29 := NB585_584.out
    have hnb30 := NB584_586.out
    have hnc30 := NB586_584.out
    obtain ⟨hcz31_0, hcz31_1, hcz31_2, hfz31_0, hfz31_1, hfz31_2⟩ := bK3 (w := w6) BK584
    go_wp2_with (first | ((with_reducible refine gate_callee (f := 65) rfl ?_); refine gL (some 7) Tryd.func65 #[.agg #[.int .i64 a0_0, .int .i64 a0_1, .bool a0_2]] ?_; (with_reducible refine (spec_InGroup.calls k a0_0 a0_1 a0_2 true _ A7.out).mono ?_); rintro e w32 ⟨rfl, hb⟩; refine ⟨_, rfl, ?_⟩; replace BK584 := bB BK584 hb; replace BK585 := bB BK585 hb; replace BK586 := bB BK586 hb; replace HB := bS HB hb; (try clear hb); have hnb33 := NB585_586.out; have hnc33 := NB586_585.out; obtain ⟨hcz34_0, hcz34_1, hcz34_2, hfz34_0, hfz34_1, hfz34_2⟩ := bK3 (w := w32) BK585) | (go_at_call 65; (with_reducible refine (spec_InGroup.calls k a1_0 a1_1 a1_2 false _ A9.out).mono ?_); rintro e w35 ⟨rfl, hb⟩; replace BK584 := bB BK584 hb; replace BK585 := bB BK585 hb; replace BK586 := bB BK586 hb; replace HB := bS HB hb; (try clear hb)))
    go_meet
    case rel => exact ⟨_, (true), rS, H', ⟨by first | omega | exact Nat.le_refl _⟩, ⟨bP BK584⟩, ⟨bP BK585⟩, ⟨bP BK586⟩, ⟨bZ HB⟩⟩
  ·replace c8 := Bool.eq_false_iff.mpr c8
   subst c8
   rw [if_neg (show ¬ (false = true) by decide)] at H
   have H' := Aside0.mk H
   clear H
   have hnb36 := NB584_585.out
   have hnc36 := NB585_584.out
   have hnb37 := NB584_586.out
   have hnc37 := NB586_584.out
   obtain ⟨hcz38_0, hcz38_1, hcz38_2, hfz38_0, hfz38_1, hfz38_2⟩ := bK3 (w := w6) BK584
   go_wp2_with (first | ((with_reducible refine gate_callee (f := 65) rfl ?_); refine gL (some 7) Tryd.func65 #[.agg #[.int .i64 a0_0, .int .i64 a0_1, .bool a0_2]] ?_; (with_reducible refine (spec_InGroup.calls k a0_0 a0_1 a0_2 false _ A7.out).mono ?_); rintro e w39 ⟨rfl, hb⟩; refine ⟨_, rfl, ?_⟩; replace BK584 := bB BK584 hb; replace BK585 := bB BK585 hb; replace BK586 := bB BK586 hb; replace HB := bS HB hb; (try clear hb)))
   go_meet
   case rel => exact ⟨_, (true), rS, H', ⟨by first | omega | exact Nat.le_refl _⟩, ⟨bP BK584⟩, ⟨bP BK585⟩, ⟨bP BK586⟩, ⟨bZ HB⟩⟩
 case rest =>
  clear HC3
  try clear c1
  try clear c2
  try clear p2
  try clear c3
  try clear c6
  try clear c8
  try clear c10
  try clear c11
  try clear c12
  try clear c13
  try clear c16
  try clear c20
  try clear c21
  try clear c24
  try clear c29
  try clear c30
  try clear c33
  try clear c36
  try clear c37
  try clear hcz14_0
  try clear hcz14_1
  try clear hcz14_2
  try clear hcz17_0
  try clear hcz17_1
  try clear hcz17_2
  try clear hcz19_0
  try clear hcz19_1
  try clear hcz19_2
  try clear hcz22_0
  try clear hcz22_1
  try clear hcz22_2
  try clear hcz25_0
  try clear hcz25_1
  try clear hcz25_2
  try clear hcz27_0
  try clear hcz27_1
  try clear hcz27_2
  try clear hcz28_0
  try clear hcz28_1
  try clear hcz28_2
  try clear hcz31_0
  try clear hcz31_1
  try clear hcz31_2
  try clear hcz34_0
  try clear hcz34_1
  try clear hcz34_2
  try clear hcz38_0
  try clear hcz38_1
  try clear hcz38_2
  try clear hfz14_0
  try clear hfz14_1
  try clear hfz14_2
  try clear hfz17_0
  try clear hfz17_1
  try clear hfz17_2
  try clear hfz19_0
  try clear hfz19_1
  try clear hfz19_2
  try clear hfz22_0
  try clear hfz22_1
  try clear hfz22_2
  try clear hfz25_0
  try clear hfz25_1
  try clear hfz25_2
  try clear hfz27_0
  try clear hfz27_1
  try clear hfz27_2
  try clear hfz28_0
  try clear hfz28_1
  try clear hfz28_2
  try clear hfz31_0
  try clear hfz31_1
  try clear hfz31_2
  try clear hfz34_0
  try clear hfz34_1
  try clear hfz34_2
  try clear hfz38_0
  try clear hfz38_1
  try clear hfz38_2
  obtain ⟨kq, x21_2, rfl, HA, HJ2, BK584, BK585, BK586, HB⟩ := hcut
  cases kq with
  | zero => exact absurd HA.out (by simp [spec_Pairing.j0])
  | succ kj2 =>
   have H := HA.out
   clear HA
   simp only [spec_Pairing.j0] at H
   by_cases c40 : x21_2 = true
   ·subst c40
    rw [if_pos rfl] at H
    simp only [Option.some.injEq, Prod.mk.injEq] at H
    obtain ⟨rfl, rfl⟩ := H
    have hnb41 := NB586_584.out
    have hnc41 := NB584_586.out
    have hnb42 := NB586_585.out
    have hnc42 := NB585_586.out
    obtain ⟨hcz43_0, hcz43_1, hfz43_0, hfz43_1⟩ := bK2 (w := wc) BK586
    go_wp2
    refine rC gb586 80 #[.int .i64 1, .int .i64 0] (bU BK586) Tryd.underlying80 ?_
    exact ⟨rR, bZ HB⟩
   ·replace c40 := Bool.eq_false_iff.mpr c40
    subst c40
    rw [if_neg (show ¬ (false = true) by decide)] at H
    replace H := Option.bind_eq_some_iff.mp H
    obtain ⟨⟨t589, t590⟩, A440, H⟩ := H
    have A44 := Aside0.mk A440
    clear A440
    replace H := Option.bind_eq_some_iff.mp H
    obtain ⟨⟨t592, t593⟩, A450, H⟩ := H
    have A45 := Aside0.mk A450
    clear A450
    replace H := Option.bind_eq_some_iff.mp H
    obtain ⟨⟨t594, t595⟩, A460, H⟩ := H
    have A46 := Aside0.mk A460
    clear A460
    replace H := Option.bind_eq_some_iff.mp H
    obtain ⟨⟨t596, t597⟩, A470, H⟩ := H
    have A47 := Aside0.mk A470
    clear A470
    replace H := Option.bind_eq_some_iff.mp H
    obtain ⟨⟨t598, t599⟩, A480, H⟩ := H
    have A48 := Aside0.mk A480
    clear A480
    simp only [Option.some.injEq, Prod.mk.injEq] at H
    obtain ⟨rfl, rfl⟩ := H
    have hnb49 := NB584_585.out
    have hnc49 := NB585_584.out
    have hnb50 := NB584_586.out
    have hnc50 := NB586_584.out
    obtain ⟨hcz51_0, hcz51_1, hcz51_2, hfz51_0, hfz51_1, hfz51_2⟩ := bK3 (w := wc) BK584
    have hnb52 := NB585_586.out
    have hnc52 := NB586_585.out
    obtain ⟨hcz53_0, hcz53_1, hcz53_2, hfz53_0, hfz53_1, hfz53_2⟩ := bK3 (w := wc) BK585
    try go_wp2_with (first | ((with_reducible refine gate_callee (f := 102) rfl ?_); refine gL (some 25) Tryd.func102 #[.agg #[.int .i64 a0_0, .int .i64 a0_1, .bool a0_2], .agg #[.int .i64 a1_0, .int .i64 a1_1, .bool a1_2]] ?_; (with_reducible refine (spec_Miller.calls kj2 a0_0 a0_1 a0_2 a1_0 a1_1 a1_2 t589 t590 _ A44.out).mono ?_); rintro e w54 ⟨rfl, hb⟩; refine ⟨_, rfl, ?_⟩; replace BK584 := bB BK584 hb; replace BK585 := bB BK585 hb; replace BK586 := bB BK586 hb; replace HB := bS HB hb; (try clear hb)) | ((with_reducible refine gate_dst (N := 5) rfl ?_); refine bE 5 #[.int .i64 0, .int .i64 0] 80 ?_; intro gb591 hg w55 hbox hb; have BK591 := Aside0.mk (hbox); have GW591 := bG HB hg; have GE591 := bG HB hg; replace HB := bS HB hb; have NB584_591 := bL BK584 hg; have NB591_584 := bR BK584 hg; replace BK584 := bB BK584 hb; have NB585_591 := bL BK585 hg; have NB591_585 := bR BK585 hg; replace BK585 := bB BK585 hb; have NB586_591 := bL BK586 hg; have NB591_586 := bR BK586 hg; replace BK586 := bB BK586 hb; clear hb hbox hg; have hnb56 := NB591_584.out; have hnc56 := NB584_591.out; have hnb57 := NB591_585.out; have hnc57 := NB585_591.out; have hnb58 := NB591_586.out; have hnc58 := NB586_591.out; obtain ⟨hcz59_0, hcz59_1, hfz59_0, hfz59_1⟩ := bK2 (w := w55) BK591))
    have n0_ : Aside0 (((w55.setCell ⟨gb591, 0, none⟩ (.int .i64 t589)).setCell ⟨gb591, 1, none⟩ (.int .i64 t590)).heap[gb584]? = some (.cells #[.int .i64 a0_0, .int .i64 a0_1, .bool a0_2] 23 (0, 0))) := ⟨bP BK584⟩
    have n1_ : Aside0 (((w55.setCell ⟨gb591, 0, none⟩ (.int .i64 t589)).setCell ⟨gb591, 1, none⟩ (.int .i64 t590)).heap[gb585]? = some (.cells #[.int .i64 a1_0, .int .i64 a1_1, .bool a1_2] 23 (0, 0))) := ⟨bP BK585⟩
    have n2_ : Aside0 (((w55.setCell ⟨gb591, 0, none⟩ (.int .i64 t589)).setCell ⟨gb591, 1, none⟩ (.int .i64 t590)).heap[gb586]? = some (.cells #[.int .i64 0, .int .i64 0] 80 (0, 0))) := ⟨bP BK586⟩
    have n3_ : Aside0 (((w55.setCell ⟨gb591, 0, none⟩ (.int .i64 t589)).setCell ⟨gb591, 1, none⟩ (.int .i64 t590)).heap[gb591]? = some (.cells #[.int .i64 t589, .int .i64 t590] 80 (0, 0))) := ⟨bU BK591⟩
    have n4_ : Aside0 (Below w.heap.size w ((w55.setCell ⟨gb591, 0, none⟩ (.int .i64 t589)).setCell ⟨gb591, 1, none⟩ (.int .i64 t590))) := ⟨bZ HB⟩
    (try clear BK584)
    (try clear BK585)
    (try clear BK586)
    (try clear BK591)
    (try clear HB)
    generalize ((w55.setCell ⟨gb591, 0, none⟩ (.int .i64 t589)).setCell ⟨gb591, 1, none⟩ (.int .i64 t590)) = w60 at n0_ n1_ n2_ n3_ n4_ ⊢
    have BK584 := n0_
    have BK585 := n1_
    have BK586 := n2_
    have BK591 := n3_
    have HB := n4_
    clear n0_ n1_ n2_ n3_ n4_
    replace BK584 := Aside0.mk (blk_drew BK584.out)
    replace BK585 := Aside0.mk (blk_drew BK585.out)
    replace BK586 := Aside0.mk (blk_drew BK586.out)
    replace BK591 := Aside0.mk (blk_drew BK591.out)
    replace HB := Aside0.mk (below_drew1 HB.out)
    refine start_ (n := 7) (S := fun w' => w'.cell? ⟨gb591, 0, none⟩ = some (.int .i64 t589) ∧ w'.cell? ⟨gb591, 1, none⟩ = some (.int .i64 t590)) (ds := []) #[false, false, false, false, false, false, false] (by kernel_rfl) rfl rfl ⟨bc BK591 0, bc BK591 1⟩ (fun hHeld => ?_)
    generalize w60.drew = w61 at BK584 BK585 BK586 BK591 HB hHeld ⊢
    refine take_ (i := 0) (N := some 26) (v := ?_) (a' := ?_) #[true, false, false, false, false, false, false] rfl rfl (by kernel_rfl) (fun _ _ _ h => h) (Or.inl ⟨by rfl, ?_⟩) hHeld ?_ ?_
    rotate_left
    ·rintro w' ⟨s0, s1⟩
     go_simp
     with_reducible rfl
    rotate_left
    ·simp only [Act.put, List.setIfInBounds_toArray, List.set_cons_zero, List.set_cons_succ, i64_w, i32_w]
     rfl
    refine take_ (i := 2) (N := some 28) (v := ?_) (a' := ?_) #[true, false, true, false, false, false, false] rfl rfl (by kernel_rfl) (fun _ _ _ h => h) (Or.inl ⟨by rfl, ?_⟩) hHeld ?_ ?_
    rotate_left
    ·rintro w' ⟨s0, s1⟩
     go_simp
     with_reducible rfl
    rotate_left
    ·simp only [Act.put, List.setIfInBounds_toArray, List.set_cons_zero, List.set_cons_succ, i64_w, i32_w]
     rfl
    refine one_ (i := 1) (N := some 27) #[true, true, true, false, false, false, false] rfl rfl (by kernel_rfl) (by decide) (fun K hK => ?_)
    refine gO Tryd.func105 #[.agg #[.int .i64 t589, .int .i64 t590]] ?_
    with_reducible refine (spec_TwoTurn.calls t589 t590 t592 t593 _ A45.out).mono ?_
    rintro e w62 ⟨rfl, hb⟩
    refine ⟨_, rfl, ?_⟩
    replace BK584 := bB BK584 hb
    replace BK585 := bB BK585 hb
    replace BK586 := bB BK586 hb
    replace BK591 := bB BK591 hb
    replace HB := bS HB hb
    (try clear hb)
    refine hK.out _ _ ⟨bc BK591 0, bc BK591 1⟩ (fun hHeld => ?_)
    clear hK K
    refine nO (some 27) ?_
    refine one_ (i := 3) (N := some 29) #[true, true, true, true, false, false, false] rfl rfl (by kernel_rfl) (by decide) (fun K hK => ?_)
    refine gO Tryd.func106 #[.agg #[.int .i64 t589, .int .i64 t590]] ?_
    with_reducible refine (spec_TwoInv.calls kj2 t589 t590 t594 t595 _ A46.out).mono ?_
    rintro e w63 ⟨rfl, hb⟩
    refine ⟨_, rfl, ?_⟩
    replace BK584 := bB BK584 hb
    replace BK585 := bB BK585 hb
    replace BK586 := bB BK586 hb
    replace BK591 := bB BK591 hb
    replace HB := bS HB hb
    (try clear hb)
    refine hK.out _ _ ⟨bc BK591 0, bc BK591 1⟩ (fun hHeld => ?_)
    clear hK K
    refine nO (some 29) ?_
    refine one_ (i := 4) (N := some 30) #[true, true, true, true, true, false, false] rfl rfl (by kernel_rfl) (by decide) (fun K hK => ?_)
    refine gO Tryd.func104 #[.agg #[.int .i64 t592, .int .i64 t593], .agg #[.int .i64 t594, .int .i64 t595]] ?_
    with_reducible refine (spec_TwoMul.calls t592 t593 t594 t595 t596 t597 _ A47.out).mono ?_
    rintro e w64 ⟨rfl, hb⟩
    refine ⟨_, rfl, ?_⟩
    replace BK584 := bB BK584 hb
    replace BK585 := bB BK585 hb
    replace BK586 := bB BK586 hb
    replace BK591 := bB BK591 hb
    replace HB := bS HB hb
    (try clear hb)
    refine hK.out _ _ ⟨bc BK591 0, bc BK591 1⟩ (fun hHeld => ?_)
    clear hK K
    refine nO (some 30) ?_
    refine one_ (i := 5) (N := some 31) #[true, true, true, true, true, true, false] rfl rfl (by kernel_rfl) (by decide) (fun K hK => ?_)
    refine gO Tryd.func103 #[.agg #[.int .i64 t596, .int .i64 t597], .int .i64 12] ?_
    with_reducible refine (spec_TwoPow.calls kj2 t596 t597 12 t598 t599 _ A48.out).mono ?_
    rintro e w65 ⟨rfl, hb⟩
    refine ⟨_, rfl, ?_⟩
    replace BK584 := bB BK584 hb
    replace BK585 := bB BK585 hb
    replace BK586 := bB BK586 hb
    replace BK591 := bB BK591 hb
    replace HB := bS HB hb
    (try clear hb)
    refine hK.out _ _ ⟨bc BK591 0, bc BK591 1⟩ (fun hHeld => ?_)
    clear hK K
    refine nO (some 31) ?_
    refine one_ (i := 6) (N := none) #[true, true, true, true, true, true, true] rfl rfl (by kernel_rfl) (by decide) (fun K hK => ?_)
    have hs66 : w65.cell? ⟨gb586, 0, none⟩ = some (.int .i64 0) := bc BK586 0
    have hfs66 := blk_frozen BK586.out 0
    have hns66_0 := NB584_586.out
    have hns66_1 := NB585_586.out
    have hns66_3 := NB591_586.out
    have hms66_0 := NB586_584.out
    have hms66_1 := NB586_585.out
    have hms66_3 := NB586_591.out
    have hs67 : w65.cell? ⟨gb586, 1, none⟩ = some (.int .i64 0) := bc BK586 1
    have hfs67 := blk_frozen BK586.out 1
    have hns67_0 := NB584_586.out
    have hns67_1 := NB585_586.out
    have hns67_3 := NB591_586.out
    have hms67_0 := NB586_584.out
    have hms67_1 := NB586_585.out
    have hms67_3 := NB586_591.out
    refine skip_ (w1 := ?_) (by rfl) rfl ?_ ?_
    rotate_left
    ·go_simp
     rfl
    refine hK.out _ _ ⟨((cell_far (p := ⟨gb586, _, none⟩) NB591_586.out _).trans (((cell_far (p := ⟨gb586, _, none⟩) NB591_586.out _).trans (hHeld.1)))), ((cell_far (p := ⟨gb586, _, none⟩) NB591_586.out _).trans (((cell_far (p := ⟨gb586, _, none⟩) NB591_586.out _).trans (hHeld.2))))⟩ (fun hHeld => ?_)
    clear hK K
    refine done_ (by kernel_rfl) ?_
    try go_wp2
    refine rC gb586 80 #[.int .i64 t598, .int .i64 t599] (bU BK586) Tryd.underlying80 ?_
    exact ⟨rR, bZ HB⟩
end Go.Proofs.YtkdmplfldfagnaaDoor.Pf
end
section
namespace Go.Proofs.YtkdmplfldfagnaaDoor.Pf
open Go.RowKit Go.Proofs.YtkdmplfldfagnaaDoorW.PrintWords Go.Proofs.YtkdmplfldfagnaaDoorW.PrintLast Go.Proofs.YtkdmplfldfagnaaDoorW.PrintMore
attribute [local go_sem] max2_int min2_int max_two min_two max_three min_three max_four min_four   -- for this text's walks alone
set_option linter.unusedVariables false
set_option linter.unusedSimpArgs false
attribute [local go_sem high] eqA80
/-! ### spec_SigOk: function 22 -/
def spec_SigOk.j0 : Nat → ByteArray → Bool → Int → Int → Bool → Int → Int → Bool → Option (Bool)
 | 0, _, _, _, _, _, _, _, _ => none
 | k + 1, x1, x22, x601000, x601001, x601002, x602000, x602001, x602002 => if x22 = true then (some false) else ((spec_Base.f).bind fun bt604 => ((spec_Pairing.f k x602000 x602001 x602002 bt604.1 bt604.2.1 bt604.2.2).bind fun bt607 => ((spec_HashPoint.f k x1).bind fun bt609 => ((spec_Pairing.f k bt609.1 bt609.2.1 bt609.2.2 x601000 x601001 x601002).bind fun bt612 => (some (bt607.1 == bt612.1 && (bt607.2 == bt612.2)))))))
def spec_SigOk.f (k : Nat) (a0_0 : Int) (a0_1 : Int) (a0_2 : Bool) (a1 : ByteArray) (a2_0 : Int) (a2_1 : Int) (a2_2 : Bool) : Option (Bool) := (spec_InGroup.f k a0_0 a0_1 a0_2).bind fun t602 => (if t602 = true then ((spec_InGroup.f k a2_0 a2_1 a2_2).bind fun t603 => (if t603 = true then (if a0_2 = true then (spec_SigOk.j0 k a1 true a0_0 a0_1 a0_2 a2_0 a2_1 a2_2) else (spec_SigOk.j0 k a1 a2_2 a0_0 a0_1 a0_2 a2_0 a2_1 a2_2)) else (spec_SigOk.j0 k a1 true a0_0 a0_1 a0_2 a2_0 a2_1 a2_2))) else (spec_SigOk.j0 k a1 true a0_0 a0_1 a0_2 a2_0 a2_1 a2_2))
theorem spec_SigOk.mono_l : ∀ k, (∀ y0 y1 y2 y3 y4 y5 y6 y7, LeO (spec_SigOk.j0 k y0 y1 y2 y3 y4 y5 y6 y7) (spec_SigOk.j0 (k + 1) y0 y1 y2 y3 y4 y5 y6 y7))
 | 0 => fun _ _ _ _ _ _ _ _ r h => by simp [spec_SigOk.j0] at h
 | k + 1 => by
  have ih0 := spec_SigOk.mono_l k
  ·intro y0 y1 y2 y3 y4 y5 y6 y7
   unfold spec_SigOk.j0
   repeat' first
   | (with_reducible exact ih0 _ _ _ _ _ _ _ _)
   | (with_reducible exact spec_HashPoint.mono _ _)
   | (with_reducible exact spec_InGroup.mono _ _ _ _)
   | (with_reducible exact spec_Pairing.mono _ _ _ _ _ _ _)
   | (with_reducible exact LeO.refl _)
   | (with_reducible exact LeO.none _)
   | (with_reducible refine LeO.ite ?_ ?_)
   | (with_reducible refine LeO.bind ?_ (fun _ => ?_))
   | exact ih0 _ _ _ _ _ _ _ _
   | exact spec_HashPoint.mono _ _
   | exact spec_InGroup.mono _ _ _ _
   | exact spec_Pairing.mono _ _ _ _ _ _ _
   | exact LeO.none _
   | refine LeO.ite ?_ ?_
   | refine LeO.bind ?_ (fun _ => ?_)
theorem spec_SigOk.mono : ∀ a0 a1 a2 a3 a4 a5 a6 k, LeO (spec_SigOk.f k a0 a1 a2 a3 a4 a5 a6) (spec_SigOk.f (k + 1) a0 a1 a2 a3 a4 a5 a6) := by
 intro a0 a1 a2 a3 a4 a5 a6 k
 have ih0 := spec_SigOk.mono_l k
 unfold spec_SigOk.f
 repeat' first
   | (with_reducible exact ih0 _ _ _ _ _ _ _ _)
   | (with_reducible exact spec_HashPoint.mono _ _)
   | (with_reducible exact spec_InGroup.mono _ _ _ _)
   | (with_reducible exact spec_Pairing.mono _ _ _ _ _ _ _)
   | (with_reducible exact LeO.refl _)
   | (with_reducible exact LeO.none _)
   | (with_reducible refine LeO.ite ?_ ?_)
   | (with_reducible refine LeO.bind ?_ (fun _ => ?_))
   | exact ih0 _ _ _ _ _ _ _ _
   | exact spec_HashPoint.mono _ _
   | exact spec_InGroup.mono _ _ _ _
   | exact spec_Pairing.mono _ _ _ _ _ _ _
   | exact LeO.none _
   | refine LeO.ite ?_ ?_
   | refine LeO.bind ?_ (fun _ => ?_)
def spec_SigOk.T3 : Bool × List (List Nat × List Nat) := (true, [([], []), ([], []), ([0, 1, 1], [0, 1]), ([], []), ([3, 2], [3]), ([], []), ([4, 5, 4], [4, 5]), ([2, 6], [2, 6]), ([7, 6, 0, 1, 2, 3, 4, 5, 6, 7], [7])])
def spec_SigOk.B3 : List Nat := [0, 0, 3, 0, 15, 0, 63, 127, 255]
theorem spec_SigOk.tab3 : rtab .any (opsOf Tryd.f22 3) = spec_SigOk.T3 := by kernel_rfl
theorem spec_SigOk.bits3 : waitsOk spec_SigOk.T3.2 spec_SigOk.B3 = true := by kernel_rfl
set_option maxHeartbeats 8000000 in
set_option maxRecDepth 100000 in
theorem spec_SigOk.calls (k : Nat) (a0_0 : Int) (a0_1 : Int) (a0_2 : Bool) (a1 : ByteArray) (a2_0 : Int) (a2_1 : Int) (a2_2 : Bool) (r : Bool) (w : World) (h : spec_SigOk.f k a0_0 a0_1 a0_2 a1 a2_0 a2_1 a2_2 = some r) :
  Calls Tryd.prog 22 #[.agg #[.int .i64 a0_0, .int .i64 a0_1, .bool a0_2], .string a1, .agg #[.int .i64 a2_0, .int .i64 a2_1, .bool a2_2]] w fun e w' => e = .returned (.bool r) ∧ Below w.heap.size w w' := by
 have hu23 := Tryd.underlying23
 have HB := Aside0.mk (Below.refl w.heap.size w)
 have H : ((spec_InGroup.f k a0_0 a0_1 a0_2).bind fun t602 => (if t602 = true then ((spec_InGroup.f k a2_0 a2_1 a2_2).bind fun t603 => (if t603 = true then (if a0_2 = true then (spec_SigOk.j0 k a1 true a0_0 a0_1 a0_2 a2_0 a2_1 a2_2) else (spec_SigOk.j0 k a1 a2_2 a0_0 a0_1 a0_2 a2_0 a2_1 a2_2)) else (spec_SigOk.j0 k a1 true a0_0 a0_1 a0_2 a2_0 a2_1 a2_2))) else (spec_SigOk.j0 k a1 true a0_0 a0_1 a0_2 a2_0 a2_1 a2_2))) = some r := h
 clear h
 have HC4 := Aside0.mk H
 clear H
 go_enter Tryd.func22, Tryd.ntmps22
 go_upto_region 1 with (first | ((with_reducible refine gate_dst (N := 3) rfl ?_); refine bE 3 #[.int .i64 a0_0, .int .i64 a0_1, .bool a0_2] 23 ?_; intro gb600 hg w5 hbox hb; have BK600 := Aside0.mk (hbox); have GW600 := bG HB hg; have GE600 := bG HB hg; replace HB := bS HB hb; clear hb hbox hg) | ((with_reducible refine gate_dst (N := 5) rfl ?_); refine bE 5 #[.int .i64 a2_0, .int .i64 a2_1, .bool a2_2] 23 ?_; intro gb601 hg w6 hbox hb; have BK601 := Aside0.mk (hbox); have GW601 := bG HB hg; have GE601 := bG HB hg; replace HB := bS HB hb; have NB600_601 := bL BK600 hg; have NB601_600 := bR BK600 hg; replace BK600 := bB BK600 hb; clear hb hbox hg))
 (try simp only [Act.put, List.setIfInBounds_toArray, List.set_cons_zero, List.set_cons_succ])
 go_cut [22] (fun v22 wc => ∃ (kq : Nat) (x22_3 : Bool), v22 = .bool x22_3 ∧ Aside0 (spec_SigOk.j0 kq a1 x22_3 a0_0 a0_1 a0_2 a2_0 a2_1 a2_2 = some r) ∧ Aside0 (kq ≤ k) ∧ Aside0 (wc.heap[gb600]? = some (.cells #[.int .i64 a0_0, .int .i64 a0_1, .bool a0_2] 23 (0, 0))) ∧ Aside0 (wc.heap[gb601]? = some (.cells #[.int .i64 a2_0, .int .i64 a2_1, .bool a2_2] 23 (0, 0))) ∧ Aside0 (Below w.heap.size w wc))
 case first =>
  have H := HC4.out
  clear HC4
  replace H := Option.bind_eq_some_iff.mp H
  obtain ⟨t602, A70, H⟩ := H
  have A7 := Aside0.mk A70
  clear A70
  by_cases c8 : t602 = true
  ·subst c8
   rw [if_pos rfl] at H
   replace H := Option.bind_eq_some_iff.mp H
   obtain ⟨t603, A90, H⟩ := H
   have A9 := Aside0.mk A90
   clear A90
   by_cases c10 : t603 = true
   ·subst c10
    rw [if_pos rfl] at H
    by_cases c11 : a0_2 = true
    ·subst c11
     rw [if_pos rfl] at H
     have H' := Aside0.mk H
     clear H
     have hnb12 := NB600_601.out
     have hnc12 := NB601_600.out
     obtain ⟨hcz13_0, hcz13_1, hcz13_2, hfz13_0, hfz13_1, hfz13_2⟩ := bK3 (w := w6) BK600
     go_wp2_with (first | ((with_reducible refine gate_callee (f := 65) rfl ?_); refine gL (some 8) Tryd.func65 #[.agg #[.int .i64 a0_0, .int .i64 a0_1, .bool true]] ?_; (with_reducible refine (spec_InGroup.calls k a0_0 a0_1 true true _ A7.out).mono ?_); rintro e w14 ⟨rfl, hb⟩; refine ⟨_, rfl, ?_⟩; replace BK600 := bB BK600 hb; replace BK601 := bB BK601 hb; replace HB := bS HB hb; (try clear hb); obtain ⟨hcz15_0, hcz15_1, hcz15_2, hfz15_0, hfz15_1, hfz15_2⟩ := bK3 (w := w14) BK601) | (go_at_call 65; (with_reducible refine (spec_InGroup.calls k a2_0 a2_1 a2_2 true _ A9.out).mono ?_); rintro e w16 ⟨rfl, hb⟩; replace BK600 := bB BK600 hb; replace BK601 := bB BK601 hb; replace HB := bS HB hb; (try clear hb); obtain ⟨hcz17_0, hcz17_1, hcz17_2, hfz17_0, hfz17_1, hfz17_2⟩ := bK3 (w := w16) BK600))
     go_meet
     case rel => exact ⟨_, (true), rS, H', ⟨by first | omega | exact Nat.le_refl _⟩, ⟨bP BK600⟩, ⟨bP BK601⟩, ⟨bZ HB⟩⟩
    ·replace c11 := Bool.eq_false_iff.mpr c11
     subst c11
     rw [if_neg (show ¬ (false = true) by decide)] at H
     have H' := Aside0.mk H
     clear H
     have hnb18 := NB600_601.out
     have hnc18 := NB601_600.out
     obtain ⟨hcz19_0, hcz19_1, hcz19_2, hfz19_0, hfz19_1, hfz19_2⟩ := bK3 (w := w6) BK600
     go_wp2_with (first | ((with_reducible refine gate_callee (f := 65) rfl ?_); refine gL (some 8) Tryd.func65 #[.agg #[.int .i64 a0_0, .int .i64 a0_1, .bool false]] ?_; (with_reducible refine (spec_InGroup.calls k a0_0 a0_1 false true _ A7.out).mono ?_); rintro e w20 ⟨rfl, hb⟩; refine ⟨_, rfl, ?_⟩; replace BK600 := bB BK600 hb; replace BK601 := bB BK601 hb; replace HB := bS HB hb; (try clear hb); obtain ⟨hcz21_0, hcz21_1, hcz21_2, hfz21_0, hfz21_1, hfz21_2⟩ := bK3 (w := w20) BK601) | (go_at_call 65; (with_reducible refine (spec_InGroup.calls k a2_0 a2_1 a2_2 true _ A9.out).mono ?_); rintro e w22 ⟨rfl, hb⟩; replace BK600 := bB BK600 hb; replace BK601 := bB BK601 hb; replace HB := bS HB hb; (try clear hb); obtain ⟨hcz23_0, hcz23_1, hcz23_2, hfz23_0, hfz23_1, hfz23_2⟩ := bK3 (w := w22) BK600; obtain ⟨hcz24_0, hcz24_1, hcz24_2, hfz24_0, hfz24_1, hfz24_2⟩ := bK3 (w := w22) BK601))
     go_meet
     case rel => exact ⟨_, (a2_2), rS, H', ⟨by first | omega | exact Nat.le_refl _⟩, ⟨bP BK600⟩, ⟨bP BK601⟩, ⟨bZ HB⟩⟩
   ·replace c10 := Bool.eq_false_iff.mpr c10
    subst c10
    rw [if_neg (show ¬ (false = true) by decide)] at H
    have H' := Aside0.mk H
    clear H
    have hnb25 := NB600_601.out
    have hnc25 := NB601_600.out
    obtain ⟨hcz26_0, hcz26_1, hcz26_2, hfz26_0, hfz26_1, hfz26_2⟩ := bK3 (w := w6) BK600
    go_wp2_with (first | ((with_reducible refine gate_callee (f := 65) rfl ?_); refine gL (some 8) Tryd.func65 #[.agg #[.int .i64 a0_0, .int .i64 a0_1, .bool a0_2]] ?_; (with_reducible refine (spec_InGroup.calls k a0_0 a0_1 a0_2 true _ A7.out).mono ?_); rintro e w27 ⟨rfl, hb⟩; refine ⟨_, rfl, ?_⟩; replace BK600 := bB BK600 hb; replace BK601 := bB BK601 hb; replace HB := bS HB hb; (try clear hb); obtain ⟨hcz28_0, hcz28_1, hcz28_2, hfz28_0, hfz28_1, hfz28_2⟩ := bK3 (w := w27) BK601) | (go_at_call 65; (with_reducible refine (spec_InGroup.calls k a2_0 a2_1 a2_2 false _ A9.out).mono ?_); rintro e w29 ⟨rfl, hb⟩; replace BK600 := bB BK600 hb; replace BK601 := bB BK601 hb; replace HB := bS HB hb; (try clear hb)))
    go_meet
    case rel => exact ⟨_, (true), rS, H', ⟨by first | omega | exact Nat.le_refl _⟩, ⟨bP BK600⟩, ⟨bP BK601⟩, ⟨bZ HB⟩⟩
  ·replace c8 := Bool.eq_false_iff.mpr c8
   subst c8
   rw [if_neg (show ¬ (false = true) by decide)] at H
   have H' := Aside0.mk H
   clear H
   have hnb30 := NB600_601.out
   have hnc30 := NB601_600.out
   obtain ⟨hcz31_0, hcz31_1, hcz31_2, hfz31_0, hfz31_1, hfz31_2⟩ := bK3 (w := w6) BK600
   go_wp2_with (first | ((with_reducible refine gate_callee (f := 65) rfl ?_); refine gL (some 8) Tryd.func65 #[.agg #[.int .i64 a0_0, .int .i64 a0_1, .bool a0_2]] ?_; (with_reducible refine (spec_InGroup.calls k a0_0 a0_1 a0_2 false _ A7.out).mono ?_); rintro e w32 ⟨rfl, hb⟩; refine ⟨_, rfl, ?_⟩; replace BK600 := bB BK600 hb; replace BK601 := bB BK601 hb; replace HB := bS HB hb; (try clear hb)))
   go_meet
   case rel => exact ⟨_, (true), rS, H', ⟨by first | omega | exact Nat.le_refl _⟩, ⟨bP BK600⟩, ⟨bP BK601⟩, ⟨bZ HB⟩⟩
 case rest =>
  clear HC4
  try clear c1
  try clear c2
  try clear p2
  try clear c3
  try clear c6
  try clear c8
  try clear c10
  try clear c11
  try clear c12
  try clear c18
  try clear c22
  try clear c25
  try clear c30
  try clear hcz13_0
  try clear hcz13_1
  try clear hcz13_2
  try clear hcz15_0
  try clear hcz15_1
  try clear hcz15_2
  try clear hcz17_0
  try clear hcz17_1
  try clear hcz17_2
  try clear hcz19_0
  try clear hcz19_1
  try clear hcz19_2
  try clear hcz21_0
  try clear hcz21_1
  try clear hcz21_2
  try clear hcz23_0
  try clear hcz23_1
  try clear hcz23_2
  try clear hcz24_0
  try clear hcz24_1
  try clear hcz24_2
  try clear hcz26_0
  try clear hcz26_1
  try clear hcz26_2
  try clear hcz28_0
  try clear hcz28_1
  try clear hcz28_2
  try clear hcz31_0
  try clear hcz31_1
  try clear hcz31_2
  try clear hfz13_0
  try clear hfz13_1
  try clear hfz13_2
  try clear hfz15_0
  try clear hfz15_1
  try clear hfz15_2
  try clear hfz17_0
  try clear hfz17_1
  try clear hfz17_2
  try clear hfz19_0
  try clear hfz19_1
  try clear hfz19_2
  try clear hfz21_0
  try clear hfz21_1
  try clear hfz21_2
  try clear hfz23_0
  try clear hfz23_1
  try clear hfz23_2
  try clear hfz24_0
  try clear hfz24_1
  try clear hfz24_2
  try clear hfz26_0
  try clear hfz26_1
  try clear hfz26_2
  try clear hfz28_0
  try clear hfz28_1
  try clear hfz28_2
  try clear hfz31_0
  try clear hfz31_1
  try clear hfz31_2
  obtain ⟨kq, x22_3, rfl, HA, HJ3, BK600, BK601, HB⟩ := hcut
  cases kq with
  | zero => exact absurd HA.out (by simp [spec_SigOk.j0])
  | succ kj3 =>
   have H := HA.out
   clear HA
   simp only [spec_SigOk.j0] at H
   by_cases c33 : x22_3 = true
   ·subst c33
    rw [if_pos rfl] at H
    obtain rfl := Option.some.inj H
    go_wp2
    go_ret
    exact ⟨rR, bZ HB⟩
   ·replace c33 := Bool.eq_false_iff.mpr c33
    subst c33
    rw [if_neg (show ¬ (false = true) by decide)] at H
    replace H := Option.bind_eq_some_iff.mp H
    obtain ⟨⟨t604, t605, t606⟩, A340, H⟩ := H
    have A34 := Aside0.mk A340
    clear A340
    replace H := Option.bind_eq_some_iff.mp H
    obtain ⟨⟨t607, t608⟩, A350, H⟩ := H
    have A35 := Aside0.mk A350
    clear A350
    replace H := Option.bind_eq_some_iff.mp H
    obtain ⟨⟨t609, t610, t611⟩, A360, H⟩ := H
    have A36 := Aside0.mk A360
    clear A360
    replace H := Option.bind_eq_some_iff.mp H
    obtain ⟨⟨t612, t613⟩, A370, H⟩ := H
    have A37 := Aside0.mk A370
    clear A370
    obtain rfl := Option.some.inj H
    try go_wp2
    replace BK600 := Aside0.mk (blk_drew BK600.out)
    replace BK601 := Aside0.mk (blk_drew BK601.out)
    replace HB := Aside0.mk (below_drew1 HB.out)
    refine start_ (n := 9) (S := fun w' => w'.cell? ⟨gb601, 0, none⟩ = some (.int .i64 a2_0) ∧ w'.cell? ⟨gb601, 1, none⟩ = some (.int .i64 a2_1) ∧ w'.cell? ⟨gb601, 2, none⟩ = some (.bool a2_2) ∧ w'.cell? ⟨gb600, 0, none⟩ = some (.int .i64 a0_0) ∧ w'.cell? ⟨gb600, 1, none⟩ = some (.int .i64 a0_1) ∧ w'.cell? ⟨gb600, 2, none⟩ = some (.bool a0_2)) (ds := []) #[false, false, false, false, false, false, false, false, false] (by kernel_rfl) rfl rfl ⟨bc BK601 0, bc BK601 1, bc BK601 2, bc BK600 0, bc BK600 1, bc BK600 2⟩ (fun hHeld => ?_); refine with_tabW spec_SigOk.tab3 spec_SigOk.bits3 (fun HT_ HW_ => ?_)
    generalize wc.drew = w38 at BK600 BK601 HB hHeld ⊢
    refine pI 3 (some 26) HT_.out ?_
    refine tI6 0 (some 23) HT_.out HW_.out hHeld ?_
    refine tI6 5 (some 28) HT_.out HW_.out hHeld ?_
    refine oI 1 (some 24) HT_.out (fun K hK => ?_)
    refine gO Tryd.func46 #[] ?_
    with_reducible refine (spec_Base.calls  t604 t605 t606 _ A34.out).mono ?_
    rintro e w39 ⟨rfl, hb⟩
    refine ⟨_, rfl, ?_⟩
    replace BK600 := bB BK600 hb
    replace BK601 := bB BK601 hb
    replace HB := bS HB hb
    (try clear hb)
    refine hK.out _ _ ⟨bc BK601 0, bc BK601 1, bc BK601 2, bc BK600 0, bc BK600 1, bc BK600 2⟩ (fun hHeld => ?_)
    clear hK K
    refine nO (some 24) ?_
    refine oI 2 (some 25) HT_.out (fun K hK => ?_)
    refine gO Tryd.func66 #[.agg #[.int .i64 a2_0, .int .i64 a2_1, .bool a2_2], .agg #[.int .i64 t604, .int .i64 t605, .bool t606]] ?_
    with_reducible refine (spec_Pairing.calls kj3 a2_0 a2_1 a2_2 t604 t605 t606 t607 t608 _ A35.out).mono ?_
    rintro e w40 ⟨rfl, hb⟩
    refine ⟨_, rfl, ?_⟩
    replace BK600 := bB BK600 hb
    replace BK601 := bB BK601 hb
    replace HB := bS HB hb
    (try clear hb)
    refine hK.out _ _ ⟨bc BK601 0, bc BK601 1, bc BK601 2, bc BK600 0, bc BK600 1, bc BK600 2⟩ (fun hHeld => ?_)
    clear hK K
    refine nO (some 25) ?_
    refine oI 4 (some 27) HT_.out (fun K hK => ?_)
    refine gO Tryd.func10 #[.string a1] ?_
    with_reducible refine (spec_HashPoint.calls kj3 a1 t609 t610 t611 _ A36.out).mono ?_
    rintro e w41 ⟨rfl, hb⟩
    refine ⟨_, rfl, ?_⟩
    replace BK600 := bB BK600 hb
    replace BK601 := bB BK601 hb
    replace HB := bS HB hb
    (try clear hb)
    refine hK.out _ _ ⟨bc BK601 0, bc BK601 1, bc BK601 2, bc BK600 0, bc BK600 1, bc BK600 2⟩ (fun hHeld => ?_)
    clear hK K
    refine nO (some 27) ?_
    refine oI 6 (some 29) HT_.out (fun K hK => ?_)
    refine gO Tryd.func66 #[.agg #[.int .i64 t609, .int .i64 t610, .bool t611], .agg #[.int .i64 a0_0, .int .i64 a0_1, .bool a0_2]] ?_
    with_reducible refine (spec_Pairing.calls kj3 t609 t610 t611 a0_0 a0_1 a0_2 t612 t613 _ A37.out).mono ?_
    rintro e w42 ⟨rfl, hb⟩
    refine ⟨_, rfl, ?_⟩
    replace BK600 := bB BK600 hb
    replace BK601 := bB BK601 hb
    replace HB := bS HB hb
    (try clear hb)
    refine hK.out _ _ ⟨bc BK601 0, bc BK601 1, bc BK601 2, bc BK600 0, bc BK600 1, bc BK600 2⟩ (fun hHeld => ?_)
    clear hK K
    refine nO (some 29) ?_
    refine pI 7 (some 30) HT_.out ?_
    refine pI 8 (some 6) HT_.out ?_
    refine done_ (done_of HT_.out (by kernel_rfl)) ?_
    try go_wp2
    go_ret
    exact ⟨rR, bZ HB⟩
end Go.Proofs.YtkdmplfldfagnaaDoor.Pf
end
section
namespace Go.Proofs.YtkdmplfldfagnaaDoor.Pf
open Go.RowKit Go.Proofs.YtkdmplfldfagnaaDoorW.PrintWords Go.Proofs.YtkdmplfldfagnaaDoorW.PrintLast Go.Proofs.YtkdmplfldfagnaaDoorW.PrintMore
attribute [local go_sem] max2_int min2_int max_two min_two max_three min_three max_four min_four   -- for this text's walks alone
set_option linter.unusedVariables false
set_option linter.unusedSimpArgs false
/-! ### impl_Base: function 52 -/
def impl_Base.f  : Option (Int × Int × Bool) := some (8445, 859, false)
set_option maxHeartbeats 8000000 in
set_option maxRecDepth 100000 in
theorem impl_Base.calls  (r1 : Int) (r2 : Int) (r3 : Bool) (w : World) (h : impl_Base.f  = some (r1, r2, r3)) :
  Calls Tryd.prog 52 #[] w fun e w' => e = .returned (.agg #[.int .i64 r1, .int .i64 r2, .bool r3]) ∧ Below w.heap.size w w' := by
 have hu23 := Tryd.underlying23
 have HB := Aside0.mk (Below.refl w.heap.size w)
 have H : (some (8445, 859, false)) = some (r1, r2, r3) := h
 clear h
 simp only [Option.some.injEq, Prod.mk.injEq] at H
 obtain ⟨rfl, rfl, rfl⟩ := H
 go_enter Tryd.func52, Tryd.ntmps52
 go_wp2_with (first | ((with_reducible refine gate_dst (N := 0) rfl ?_); refine bE 0 #[.int .i64 0, .int .i64 0, .bool false] 23 ?_; intro gb264 hg w1 hbox hb; have BK264 := Aside0.mk (hbox); have GW264 := bG HB hg; have GE264 := bG HB hg; replace HB := bS HB hb; clear hb hbox hg; obtain ⟨hcz2_0, hcz2_1, hcz2_2, hfz2_0, hfz2_1, hfz2_2⟩ := bK3 (w := w1) BK264))
 refine rC gb264 23 #[.int .i64 8445, .int .i64 859, .bool false] (bU BK264) Tryd.underlying23 ?_
 exact ⟨rR, bZ HB⟩
/-! ### impl_Digest: function 47 -/
def impl_Digest.f (a0 : ByteArray) : Option ByteArray := Kp.impl_Digest.f a0
theorem impl_Digest.calls (a0 : ByteArray) (r : ByteArray) (w : World) (hT : Kp.Tab w) (h : impl_Digest.f a0 = some r) :
  Calls Tryd.prog 47 #[.string a0] w fun e w' => e = .returned (.string r) ∧ Below w.heap.size w w' :=
 Kp.impl_Digest.calls a0 r w hT h
/-! ### impl_remainder: function 76 -/
def impl_remainder.f (a0 : Int) (a1 : Int) : Option (Int) := if a1 = 0 then (none) else (if (Int.tmod a0 a1) < 0 then (some (wrap64 ((Int.tmod a0 a1) + a1))) else (some (Int.tmod a0 a1)))
set_option maxHeartbeats 8000000 in
set_option maxRecDepth 100000 in
theorem impl_remainder.calls (a0 : Int) (a1 : Int) (r : Int) (w : World) (h : impl_remainder.f a0 a1 = some r) :
  Calls Tryd.prog 76 #[.int .i64 a0, .int .i64 a1] w fun e w' => e = .returned (.int .i64 r) ∧ Drawn0 w w' := by
 have H : (if a1 = 0 then (none) else (if (Int.tmod a0 a1) < 0 then (some (wrap64 ((Int.tmod a0 a1) + a1))) else (some (Int.tmod a0 a1)))) = some r := h
 clear h
 by_cases c3 : a1 = 0
 ·rw [if_pos c3] at H
  exact absurd H (by simp)
 ·rw [if_neg c3] at H
  have c3b0 : (a1 == 0) = false := beq_eq_false_iff_ne.mpr c3
  have c3b1 : (a1 != 0) = true := bne_iff_ne.mpr c3
  by_cases c4 : (Int.tmod a0 a1) < 0
  ·rw [if_pos c4] at H
   have c4b0 : decide ((Int.tmod a0 a1) < 0) = true := decide_eq_true c4
   clear c4
   obtain rfl := Option.some.inj H
   go_enter Tryd.func76, Tryd.ntmps76
   go_wp2
   go_ret
   exact ⟨rS, rD⟩
  ·rw [if_neg c4] at H
   have c4b0 : decide ((Int.tmod a0 a1) < 0) = false := decide_eq_false c4
   clear c4
   obtain rfl := Option.some.inj H
   go_enter Tryd.func76, Tryd.ntmps76
   go_wp2
   go_ret
   exact ⟨rS, rD⟩
/-! ### impl_FpOf: function 48 -/
def impl_FpOf.f (a0 : Int) : Option (Int) := (impl_remainder.f a0 12107).bind fun t203 => (some t203)
set_option maxHeartbeats 8000000 in
set_option maxRecDepth 100000 in
theorem impl_FpOf.calls (a0 : Int) (r : Int) (w : World) (h : impl_FpOf.f a0 = some r) :
  Calls Tryd.prog 48 #[.int .i64 a0] w fun e w' => e = .returned (.int .i64 r) ∧ Drawn0 w w' := by
 have H : ((impl_remainder.f a0 12107).bind fun t203 => (some t203)) = some r := h
 clear h
 replace H := Option.bind_eq_some_iff.mp H
 obtain ⟨t203, A20, H⟩ := H
 have A2 := Aside0.mk A20
 clear A20
 obtain rfl := Option.some.inj H
 go_enter Tryd.func48, Tryd.ntmps48
 go_wp2_with (first | ((with_reducible refine gate_callee (f := 76) rfl ?_); refine gL (some 4) Tryd.func76 #[.int .i64 a0, .int .i64 12107] ?_; (with_reducible refine (impl_remainder.calls a0 12107 t203 _ A2.out).mono ?_); rintro e w' ⟨rfl, ⟨nd, rfl⟩⟩; refine ⟨_, rfl, ?_⟩))
 go_ret
 exact ⟨rS, rD⟩
/-! ### impl_powerMod: function 94 -/
def impl_powerMod.l0 : Nat → Int → Int → Int → Int → Option (Int)
 | 0, _, _, _, _ => none
 | k + 1, x0, x1, x2, x7 => if x1 > 0 then (if (Int.tmod x1 2) = 1 then (if x2 = 0 then (none) else (impl_powerMod.l0 k (Int.tmod (wrap64 (x0 * x0)) x2) (wrap64 (Int.tdiv x1 2)) x2 (Int.tmod (wrap64 (x7 * x0)) x2))) else (if x2 = 0 then (none) else (impl_powerMod.l0 k (Int.tmod (wrap64 (x0 * x0)) x2) (wrap64 (Int.tdiv x1 2)) x2 x7))) else (some x7)
def impl_powerMod.f (k : Nat) (a0 : Int) (a1 : Int) (a2 : Int) : Option (Int) := (impl_remainder.f a0 a2).bind fun t204 => (impl_powerMod.l0 k t204 a1 a2 1)
theorem impl_powerMod.mono_l : ∀ k, (∀ y0 y1 y2 y3, LeO (impl_powerMod.l0 k y0 y1 y2 y3) (impl_powerMod.l0 (k + 1) y0 y1 y2 y3))
 | 0 => fun _ _ _ _ r h => by simp [impl_powerMod.l0] at h
 | k + 1 => by
  have ih0 := impl_powerMod.mono_l k
  ·intro y0 y1 y2 y3
   unfold impl_powerMod.l0
   repeat' first
   | (with_reducible exact ih0 _ _ _ _)
   | (with_reducible exact LeO.refl _)
   | (with_reducible exact LeO.none _)
   | (with_reducible refine LeO.ite ?_ ?_)
   | (with_reducible refine LeO.bind ?_ (fun _ => ?_))
   | exact ih0 _ _ _ _
   | exact LeO.none _
   | refine LeO.ite ?_ ?_
   | refine LeO.bind ?_ (fun _ => ?_)
theorem impl_powerMod.mono : ∀ a0 a1 a2 k, LeO (impl_powerMod.f k a0 a1 a2) (impl_powerMod.f (k + 1) a0 a1 a2) := by
 intro a0 a1 a2 k
 have ih0 := impl_powerMod.mono_l k
 unfold impl_powerMod.f
 repeat' first
   | (with_reducible exact ih0 _ _ _ _)
   | (with_reducible exact LeO.refl _)
   | (with_reducible exact LeO.none _)
   | (with_reducible refine LeO.ite ?_ ?_)
   | (with_reducible refine LeO.bind ?_ (fun _ => ?_))
   | exact ih0 _ _ _ _
   | exact LeO.none _
   | refine LeO.ite ?_ ?_
   | refine LeO.bind ?_ (fun _ => ?_)
set_option maxHeartbeats 8000000 in
set_option maxRecDepth 100000 in
theorem impl_powerMod.calls (k : Nat) (a0 : Int) (a1 : Int) (a2 : Int) (r : Int) (w : World) (h : impl_powerMod.f k a0 a1 a2 = some r) :
  Calls Tryd.prog 94 #[.int .i64 a0, .int .i64 a1, .int .i64 a2] w fun e w' => e = .returned (.int .i64 r) ∧ Drawn0 w w' := by
 have H : ((impl_remainder.f a0 a2).bind fun t204 => (impl_powerMod.l0 k t204 a1 a2 1)) = some r := h
 clear h
 replace H := Option.bind_eq_some_iff.mp H
 obtain ⟨t204, A40, H⟩ := H
 have A4 := Aside0.mk A40
 clear A40
 have H' := Aside0.mk H
 clear H
 go_enter Tryd.func94, Tryd.ntmps94
 go_wp2_with (first | ((with_reducible refine gate_callee (f := 76) rfl ?_); refine gL (some 10) Tryd.func76 #[.int .i64 a0, .int .i64 a2] ?_; (with_reducible refine (impl_remainder.calls a0 a2 t204 _ A4.out).mono ?_); rintro e w' ⟨rfl, ⟨nd, rfl⟩⟩; refine ⟨_, rfl, ?_⟩))
 go_loopg [0, 1, 7] k (fun kq v0 v1 v7 w' => ∃ (x0_1 : Int) (x1_1 : Int) (x7_1 : Int), v0 = .int .i64 x0_1 ∧ v1 = .int .i64 x1_1 ∧ v7 = .int .i64 x7_1 ∧ Aside0 (impl_powerMod.l0 kq x0_1 x1_1 a2 x7_1 = some r) ∧ Aside0 (kq ≤ k) ∧ Drawn0 w w')
 case atStart => exact ⟨(t204), (a1), (1), rS, rS, rS, H', ⟨Nat.le_refl _⟩, by repeat (first | exact Drawn0.refl _ | apply Drawn0.step)⟩
 case round =>
  clear H'
  try clear p2
  obtain ⟨x0_1, x1_1, x7_1, rfl, rfl, rfl, HA, HK1, ⟨m1, rfl⟩⟩ := hrel
  cases gk with
  | zero => exact absurd HA.out (by simp [impl_powerMod.l0])
  | succ k1 =>
   have H := HA.out
   clear HA
   simp only [impl_powerMod.l0] at H
   by_cases c5 : x1_1 > 0
   ·rw [if_pos c5] at H
    have c5b0 : decide (0 < x1_1) = true := decide_eq_true c5
    clear c5
    by_cases c6 : (Int.tmod x1_1 2) = 1
    ·rw [if_pos c6] at H
     have c6b0 : ((Int.tmod x1_1 2) == 1) = true := beq_iff_eq.mpr c6
     have c6b1 : ((Int.tmod x1_1 2) != 1) = false := bne_eq_false_iff_eq.mpr c6
     clear c6
     by_cases c7 : a2 = 0
     ·rw [if_pos c7] at H
      exact absurd H (by simp)
     ·rw [if_neg c7] at H
      have c7b0 : (a2 == 0) = false := beq_eq_false_iff_ne.mpr c7
      have c7b1 : (a2 != 0) = true := bne_iff_ne.mpr c7
      have H' := Aside0.mk H
      clear H
      go_wp2
      go_roundg k1
      case measure => have := HK1.out; omega
      case rel => exact ⟨(Int.tmod (wrap64 (x0_1 * x0_1)) a2), (wrap64 (Int.tdiv x1_1 2)), (Int.tmod (wrap64 (x7_1 * x0_1)) a2), rS, rS, rS, H', ⟨by have := HK1.out; omega⟩, by repeat (first | exact Drawn0.refl _ | apply Drawn0.step)⟩
    ·rw [if_neg c6] at H
     have c6b0 : ((Int.tmod x1_1 2) == 1) = false := beq_eq_false_iff_ne.mpr c6
     have c6b1 : ((Int.tmod x1_1 2) != 1) = true := bne_iff_ne.mpr c6
     by_cases c8 : a2 = 0
     ·rw [if_pos c8] at H
      exact absurd H (by simp)
     ·rw [if_neg c8] at H
      have c8b0 : (a2 == 0) = false := beq_eq_false_iff_ne.mpr c8
      have c8b1 : (a2 != 0) = true := bne_iff_ne.mpr c8
      have H' := Aside0.mk H
      clear H
      go_wp2
      go_roundg k1
      case measure => have := HK1.out; omega
      case rel => exact ⟨(Int.tmod (wrap64 (x0_1 * x0_1)) a2), (wrap64 (Int.tdiv x1_1 2)), (x7_1), rS, rS, rS, H', ⟨by have := HK1.out; omega⟩, by repeat (first | exact Drawn0.refl _ | apply Drawn0.step)⟩
   ·rw [if_neg c5] at H
    have c5b0 : decide (0 < x1_1) = false := decide_eq_false c5
    clear c5
    obtain rfl := Option.some.inj H
    go_wp2
    go_ret
    exact ⟨rS, rD⟩
/-! ### impl_FpMul: function 95 -/
def impl_FpMul.f (a0 : Int) (a1 : Int) : Option (Int) := (impl_FpOf.f a0).bind fun t205 => ((impl_FpOf.f a1).bind fun t206 => ((impl_FpOf.f (wrap64 (t205 * t206))).bind fun t207 => (some t207)))
set_option maxHeartbeats 8000000 in
set_option maxRecDepth 100000 in
theorem impl_FpMul.calls (a0 : Int) (a1 : Int) (r : Int) (w : World) (h : impl_FpMul.f a0 a1 = some r) :
  Calls Tryd.prog 95 #[.int .i64 a0, .int .i64 a1] w fun e w' => e = .returned (.int .i64 r) ∧ Drawn0 w w' := by
 have H : ((impl_FpOf.f a0).bind fun t205 => ((impl_FpOf.f a1).bind fun t206 => ((impl_FpOf.f (wrap64 (t205 * t206))).bind fun t207 => (some t207)))) = some r := h
 clear h
 replace H := Option.bind_eq_some_iff.mp H
 obtain ⟨t205, A30, H⟩ := H
 have A3 := Aside0.mk A30
 clear A30
 replace H := Option.bind_eq_some_iff.mp H
 obtain ⟨t206, A40, H⟩ := H
 have A4 := Aside0.mk A40
 clear A40
 replace H := Option.bind_eq_some_iff.mp H
 obtain ⟨t207, A50, H⟩ := H
 have A5 := Aside0.mk A50
 clear A50
 obtain rfl := Option.some.inj H
 go_enter Tryd.func95, Tryd.ntmps95
 go_wp2_with (first | ((with_reducible refine gate_callee (f := 48) rfl ?_); refine gL (some 6) Tryd.func48 #[.int .i64 a0] ?_; (with_reducible refine (impl_FpOf.calls a0 t205 _ A3.out).mono ?_); rintro e w' ⟨rfl, ⟨nd, rfl⟩⟩; refine ⟨_, rfl, ?_⟩) | ((with_reducible refine gate_callee (f := 48) rfl ?_); refine gL (some 8) Tryd.func48 #[.int .i64 a1] ?_; (with_reducible refine (impl_FpOf.calls a1 t206 _ A4.out).mono ?_); rintro e w' ⟨rfl, ⟨nd, rfl⟩⟩; refine ⟨_, rfl, ?_⟩) | ((with_reducible refine gate_callee (f := 48) rfl ?_); refine gL (some 10) Tryd.func48 #[.int .i64 (wrap64 (t205 * t206))] ?_; (with_reducible refine (impl_FpOf.calls (wrap64 (t205 * t206)) t207 _ A5.out).mono ?_); rintro e w' ⟨rfl, ⟨nd, rfl⟩⟩; refine ⟨_, rfl, ?_⟩))
 go_ret
 exact ⟨rS, rD⟩
/-! ### impl_FpRoot: function 49 -/
def impl_FpRoot.f (k : Nat) (a0 : Int) : Option (Int × Bool) := (impl_powerMod.f k a0 3027 12107).bind fun t208 => ((impl_FpMul.f t208 t208).bind fun t209 => ((impl_FpOf.f a0).bind fun t210 => (if t209 = t210 then ((impl_FpOf.f (wrap64 (-t208))).bind fun t211 => (some (mn t208 t211, true))) else (some (0, false)))))
theorem impl_FpRoot.mono : ∀ a0 k, LeO (impl_FpRoot.f k a0) (impl_FpRoot.f (k + 1) a0) := by
 intro a0 k
 unfold impl_FpRoot.f
 repeat' first
   | (with_reducible exact impl_powerMod.mono _ _ _ _)
   | (with_reducible exact LeO.refl _)
   | (with_reducible exact LeO.none _)
   | (with_reducible refine LeO.ite ?_ ?_)
   | (with_reducible refine LeO.bind ?_ (fun _ => ?_))
   | exact impl_powerMod.mono _ _ _ _
   | exact LeO.none _
   | refine LeO.ite ?_ ?_
   | refine LeO.bind ?_ (fun _ => ?_)
set_option maxHeartbeats 8000000 in
set_option maxRecDepth 100000 in
theorem impl_FpRoot.calls (k : Nat) (a0 : Int) (r1 : Int) (r2 : Bool) (w : World) (h : impl_FpRoot.f k a0 = some (r1, r2)) :
  Calls Tryd.prog 49 #[.int .i64 a0] w fun e w' => e = .returned (.tuple #[.int .i64 r1, .bool r2]) ∧ Below w.heap.size w w' := by
 have HB := Aside0.mk (Below.refl w.heap.size w)
 have H : ((impl_powerMod.f k a0 3027 12107).bind fun t208 => ((impl_FpMul.f t208 t208).bind fun t209 => ((impl_FpOf.f a0).bind fun t210 => (if t209 = t210 then ((impl_FpOf.f (wrap64 (-t208))).bind fun t211 => (some (mn t208 t211, true))) else (some (0, false)))))) = some (r1, r2) := h
 clear h
 replace H := Option.bind_eq_some_iff.mp H
 obtain ⟨t208, A20, H⟩ := H
 have A2 := Aside0.mk A20
 clear A20
 replace H := Option.bind_eq_some_iff.mp H
 obtain ⟨t209, A30, H⟩ := H
 have A3 := Aside0.mk A30
 clear A30
 replace H := Option.bind_eq_some_iff.mp H
 obtain ⟨t210, A40, H⟩ := H
 have A4 := Aside0.mk A40
 clear A40
 by_cases c5 : t209 = t210
 ·rw [if_pos c5] at H
  have c5b0 : (t209 == t210) = true := beq_iff_eq.mpr c5
  have c5b1 : (t209 != t210) = false := bne_eq_false_iff_eq.mpr c5
  clear c5
  replace H := Option.bind_eq_some_iff.mp H
  obtain ⟨t211, A60, H⟩ := H
  have A6 := Aside0.mk A60
  clear A60
  obtain ⟨ji7, hji7⟩ : ∃ j_ : Int, (mn t208 t211) = j_ := ⟨_, rfl⟩
  replace H : (some (ji7, true)) = some (r1, r2) := by first | (rw [hji7] at H; exact H) | (simp only [hji7] at H ⊢; exact H)
  (try rw [hji7] at A2)
  (try rw [hji7] at A3)
  (try rw [hji7] at A4)
  (try rw [hji7] at A6)
  have hji7_ : (if t211 < t208 then t211 else t208) = ji7 := hji7
  try (have hji7n_ := hji7_; simp only [Int.ofNat_lt] at hji7n_)
  simp only [Option.some.injEq, Prod.mk.injEq] at H
  obtain ⟨rfl, rfl⟩ := H
  go_enter Tryd.func49, Tryd.ntmps49
  go_wp2_with (first | ((with_reducible refine gate_callee (f := 94) rfl ?_); refine gL (some 6) Tryd.func94 #[.int .i64 a0, .int .i64 3027, .int .i64 12107] ?_; (with_reducible refine (impl_powerMod.calls k a0 3027 12107 t208 _ A2.out).mono ?_); rintro e w' ⟨rfl, ⟨nd, rfl⟩⟩; refine ⟨_, rfl, ?_⟩) | ((with_reducible refine gate_callee (f := 95) rfl ?_); refine gL (some 9) Tryd.func95 #[.int .i64 t208, .int .i64 t208] ?_; (with_reducible refine (impl_FpMul.calls t208 t208 t209 _ A3.out).mono ?_); rintro e w' ⟨rfl, ⟨nd, rfl⟩⟩; refine ⟨_, rfl, ?_⟩) | ((with_reducible refine gate_callee (f := 48) rfl ?_); refine gL (some 11) Tryd.func48 #[.int .i64 a0] ?_; (with_reducible refine (impl_FpOf.calls a0 t210 _ A4.out).mono ?_); rintro e w' ⟨rfl, ⟨nd, rfl⟩⟩; refine ⟨_, rfl, ?_⟩) | ((with_reducible refine gate_callee (f := 48) rfl ?_); refine gL (some 16) Tryd.func48 #[.int .i64 (wrap64 (-t208))] ?_; (with_reducible refine (impl_FpOf.calls (wrap64 (-t208)) t211 _ A6.out).mono ?_); rintro e w' ⟨rfl, ⟨nd, rfl⟩⟩; refine ⟨_, rfl, ?_⟩))
  go_ret2
  exact ⟨by first | rfl | (simp [errW_none, errW_some] <;> rfl) | (simp only [← hji7]; first | rfl | (simp [errW_none, errW_some] <;> rfl)) | (simp [*, errW_none, errW_some] <;> rfl), bZ HB⟩
 ·rw [if_neg c5] at H
  have c5b0 : (t209 == t210) = false := beq_eq_false_iff_ne.mpr c5
  have c5b1 : (t209 != t210) = true := bne_iff_ne.mpr c5
  simp only [Option.some.injEq, Prod.mk.injEq] at H
  obtain ⟨rfl, rfl⟩ := H
  go_enter Tryd.func49, Tryd.ntmps49
  go_wp2_with (first | ((with_reducible refine gate_callee (f := 94) rfl ?_); refine gL (some 6) Tryd.func94 #[.int .i64 a0, .int .i64 3027, .int .i64 12107] ?_; (with_reducible refine (impl_powerMod.calls k a0 3027 12107 t208 _ A2.out).mono ?_); rintro e w' ⟨rfl, ⟨nd, rfl⟩⟩; refine ⟨_, rfl, ?_⟩) | ((with_reducible refine gate_callee (f := 95) rfl ?_); refine gL (some 9) Tryd.func95 #[.int .i64 t208, .int .i64 t208] ?_; (with_reducible refine (impl_FpMul.calls t208 t208 t209 _ A3.out).mono ?_); rintro e w' ⟨rfl, ⟨nd, rfl⟩⟩; refine ⟨_, rfl, ?_⟩) | ((with_reducible refine gate_callee (f := 48) rfl ?_); refine gL (some 11) Tryd.func48 #[.int .i64 a0] ?_; (with_reducible refine (impl_FpOf.calls a0 t210 _ A4.out).mono ?_); rintro e w' ⟨rfl, ⟨nd, rfl⟩⟩; refine ⟨_, rfl, ?_⟩))
  go_ret2
  exact ⟨rR, bZ HB⟩
/-! ### impl_FpAdd: function 96 -/
def impl_FpAdd.f (a0 : Int) (a1 : Int) : Option (Int) := (impl_FpOf.f a0).bind fun t212 => ((impl_FpOf.f a1).bind fun t213 => ((impl_FpOf.f (wrap64 (t212 + t213))).bind fun t214 => (some t214)))
set_option maxHeartbeats 8000000 in
set_option maxRecDepth 100000 in
theorem impl_FpAdd.calls (a0 : Int) (a1 : Int) (r : Int) (w : World) (h : impl_FpAdd.f a0 a1 = some r) :
  Calls Tryd.prog 96 #[.int .i64 a0, .int .i64 a1] w fun e w' => e = .returned (.int .i64 r) ∧ Drawn0 w w' := by
 have H : ((impl_FpOf.f a0).bind fun t212 => ((impl_FpOf.f a1).bind fun t213 => ((impl_FpOf.f (wrap64 (t212 + t213))).bind fun t214 => (some t214)))) = some r := h
 clear h
 replace H := Option.bind_eq_some_iff.mp H
 obtain ⟨t212, A30, H⟩ := H
 have A3 := Aside0.mk A30
 clear A30
 replace H := Option.bind_eq_some_iff.mp H
 obtain ⟨t213, A40, H⟩ := H
 have A4 := Aside0.mk A40
 clear A40
 replace H := Option.bind_eq_some_iff.mp H
 obtain ⟨t214, A50, H⟩ := H
 have A5 := Aside0.mk A50
 clear A50
 obtain rfl := Option.some.inj H
 go_enter Tryd.func96, Tryd.ntmps96
 go_wp2_with (first | ((with_reducible refine gate_callee (f := 48) rfl ?_); refine gL (some 6) Tryd.func48 #[.int .i64 a0] ?_; (with_reducible refine (impl_FpOf.calls a0 t212 _ A3.out).mono ?_); rintro e w' ⟨rfl, ⟨nd, rfl⟩⟩; refine ⟨_, rfl, ?_⟩) | ((with_reducible refine gate_callee (f := 48) rfl ?_); refine gL (some 8) Tryd.func48 #[.int .i64 a1] ?_; (with_reducible refine (impl_FpOf.calls a1 t213 _ A4.out).mono ?_); rintro e w' ⟨rfl, ⟨nd, rfl⟩⟩; refine ⟨_, rfl, ?_⟩) | ((with_reducible refine gate_callee (f := 48) rfl ?_); refine gL (some 10) Tryd.func48 #[.int .i64 (wrap64 (t212 + t213))] ?_; (with_reducible refine (impl_FpOf.calls (wrap64 (t212 + t213)) t214 _ A5.out).mono ?_); rintro e w' ⟨rfl, ⟨nd, rfl⟩⟩; refine ⟨_, rfl, ?_⟩))
 go_ret
 exact ⟨rS, rD⟩
/-! ### impl_curveAt: function 50 -/
def impl_curveAt.f (a0 : Int) : Option (Int) := (impl_FpMul.f a0 a0).bind fun t215 => ((impl_FpMul.f t215 a0).bind fun t216 => ((impl_FpAdd.f t216 a0).bind fun t217 => (some t217)))
set_option maxHeartbeats 8000000 in
set_option maxRecDepth 100000 in
theorem impl_curveAt.calls (a0 : Int) (r : Int) (w : World) (h : impl_curveAt.f a0 = some r) :
  Calls Tryd.prog 50 #[.int .i64 a0] w fun e w' => e = .returned (.int .i64 r) ∧ Drawn0 w w' := by
 have H : ((impl_FpMul.f a0 a0).bind fun t215 => ((impl_FpMul.f t215 a0).bind fun t216 => ((impl_FpAdd.f t216 a0).bind fun t217 => (some t217)))) = some r := h
 clear h
 replace H := Option.bind_eq_some_iff.mp H
 obtain ⟨t215, A20, H⟩ := H
 have A2 := Aside0.mk A20
 clear A20
 replace H := Option.bind_eq_some_iff.mp H
 obtain ⟨t216, A30, H⟩ := H
 have A3 := Aside0.mk A30
 clear A30
 replace H := Option.bind_eq_some_iff.mp H
 obtain ⟨t217, A40, H⟩ := H
 have A4 := Aside0.mk A40
 clear A40
 obtain rfl := Option.some.inj H
 go_enter Tryd.func50, Tryd.ntmps50
 go_wp2_with (first | ((with_reducible refine gate_callee (f := 95) rfl ?_); refine gL (some 5) Tryd.func95 #[.int .i64 a0, .int .i64 a0] ?_; (with_reducible refine (impl_FpMul.calls a0 a0 t215 _ A2.out).mono ?_); rintro e w' ⟨rfl, ⟨nd, rfl⟩⟩; refine ⟨_, rfl, ?_⟩) | ((with_reducible refine gate_callee (f := 95) rfl ?_); refine gL (some 7) Tryd.func95 #[.int .i64 t215, .int .i64 a0] ?_; (with_reducible refine (impl_FpMul.calls t215 a0 t216 _ A3.out).mono ?_); rintro e w' ⟨rfl, ⟨nd, rfl⟩⟩; refine ⟨_, rfl, ?_⟩) | ((with_reducible refine gate_callee (f := 96) rfl ?_); refine gL (some 9) Tryd.func96 #[.int .i64 t216, .int .i64 a0] ?_; (with_reducible refine (impl_FpAdd.calls t216 a0 t217 _ A4.out).mono ?_); rintro e w' ⟨rfl, ⟨nd, rfl⟩⟩; refine ⟨_, rfl, ?_⟩))
 go_ret
 exact ⟨rS, rD⟩
/-! ### impl_FpOk: function 124 -/
def impl_FpOk.f (a0 : Int) : Option (Bool) := if a0 ≥ 0 then (some (decide (a0 < 12107))) else (some false)
set_option maxHeartbeats 8000000 in
set_option maxRecDepth 100000 in
theorem impl_FpOk.calls (a0 : Int) (r : Bool) (w : World) (h : impl_FpOk.f a0 = some r) :
  Calls Tryd.prog 124 #[.int .i64 a0] w fun e w' => e = .returned (.bool r) ∧ Drawn0 w w' := by
 have H : (if a0 ≥ 0 then (some (decide (a0 < 12107))) else (some false)) = some r := h
 clear h
 by_cases c2 : a0 ≥ 0
 ·rw [if_pos c2] at H
  have c2b0 : decide (0 ≤ a0) = true := decide_eq_true c2
  clear c2
  obtain rfl := Option.some.inj H
  go_enter Tryd.func124, Tryd.ntmps124
  go_wp2
  go_ret
  exact ⟨rS, rD⟩
 ·rw [if_neg c2] at H
  have c2b0 : decide (0 ≤ a0) = false := decide_eq_false c2
  clear c2
  obtain rfl := Option.some.inj H
  go_enter Tryd.func124, Tryd.ntmps124
  go_wp2
  go_ret
  exact ⟨rS, rD⟩
/-! ### impl_PointOk: function 97 -/
def impl_PointOk.f (a0_0 : Int) (a0_1 : Int) (a0_2 : Bool) : Option (Bool) := if a0_2 = true then (if a0_0 = 0 then (some (a0_1 == 0)) else (some false)) else ((impl_FpOk.f a0_0).bind fun t219 => (if t219 = true then ((impl_FpOk.f a0_1).bind fun t220 => (if t220 = true then ((impl_FpMul.f a0_1 a0_1).bind fun t221 => ((impl_curveAt.f a0_0).bind fun t222 => (some (t221 == t222)))) else (some false))) else (some false)))
set_option maxHeartbeats 8000000 in
set_option maxRecDepth 100000 in
theorem impl_PointOk.calls (a0_0 : Int) (a0_1 : Int) (a0_2 : Bool) (r : Bool) (w : World) (h : impl_PointOk.f a0_0 a0_1 a0_2 = some r) :
  Calls Tryd.prog 97 #[.agg #[.int .i64 a0_0, .int .i64 a0_1, .bool a0_2]] w fun e w' => e = .returned (.bool r) ∧ Below w.heap.size w w' := by
 have hu23 := Tryd.underlying23
 have HB := Aside0.mk (Below.refl w.heap.size w)
 have H : (if a0_2 = true then (if a0_0 = 0 then (some (a0_1 == 0)) else (some false)) else ((impl_FpOk.f a0_0).bind fun t219 => (if t219 = true then ((impl_FpOk.f a0_1).bind fun t220 => (if t220 = true then ((impl_FpMul.f a0_1 a0_1).bind fun t221 => ((impl_curveAt.f a0_0).bind fun t222 => (some (t221 == t222)))) else (some false))) else (some false)))) = some r := h
 clear h
 by_cases c2 : a0_2 = true
 ·subst c2
  rw [if_pos rfl] at H
  by_cases c3 : a0_0 = 0
  ·rw [if_pos c3] at H
   have c3b0 : (a0_0 == 0) = true := beq_iff_eq.mpr c3
   have c3b1 : (a0_0 != 0) = false := bne_eq_false_iff_eq.mpr c3
   clear c3
   obtain rfl := Option.some.inj H
   go_enter Tryd.func97, Tryd.ntmps97
   go_wp2_with (first | ((with_reducible refine gate_dst (N := 1) rfl ?_); refine bE 1 #[.int .i64 a0_0, .int .i64 a0_1, .bool true] 23 ?_; intro gb218 hg w4 hbox hb; have BK218 := Aside0.mk (hbox); have GW218 := bG HB hg; have GE218 := bG HB hg; replace HB := bS HB hb; clear hb hbox hg; obtain ⟨hcz5_0, hcz5_1, hcz5_2, hfz5_0, hfz5_1, hfz5_2⟩ := bK3 (w := w4) BK218))
   repeat (go_quiet (first | ((with_reducible refine gate_dst (N := 1) rfl ?_); refine bE 1 #[.int .i64 a0_0, .int .i64 a0_1, .bool true] 23 ?_; intro gb218 hg w4 hbox hb; have BK218 := Aside0.mk (hbox); have GW218 := bG HB hg; have GE218 := bG HB hg; replace HB := bS HB hb; clear hb hbox hg; obtain ⟨hcz5_0, hcz5_1, hcz5_2, hfz5_0, hfz5_1, hfz5_2⟩ := bK3 (w := w4) BK218)); try go_wp2_with (first | ((with_reducible refine gate_dst (N := 1) rfl ?_); refine bE 1 #[.int .i64 a0_0, .int .i64 a0_1, .bool true] 23 ?_; intro gb218 hg w4 hbox hb; have BK218 := Aside0.mk (hbox); have GW218 := bG HB hg; have GE218 := bG HB hg; replace HB := bS HB hb; clear hb hbox hg; obtain ⟨hcz5_0, hcz5_1, hcz5_2, hfz5_0, hfz5_1, hfz5_2⟩ := bK3 (w := w4) BK218)))
   go_ret
   exact ⟨rR, bZ HB⟩
  ·rw [if_neg c3] at H
   have c3b0 : (a0_0 == 0) = false := beq_eq_false_iff_ne.mpr c3
   have c3b1 : (a0_0 != 0) = true := bne_iff_ne.mpr c3
   obtain rfl := Option.some.inj H
   go_enter Tryd.func97, Tryd.ntmps97
   go_wp2_with (first | ((with_reducible refine gate_dst (N := 1) rfl ?_); refine bE 1 #[.int .i64 a0_0, .int .i64 a0_1, .bool true] 23 ?_; intro gb218 hg w6 hbox hb; have BK218 := Aside0.mk (hbox); have GW218 := bG HB hg; have GE218 := bG HB hg; replace HB := bS HB hb; clear hb hbox hg; obtain ⟨hcz7_0, hcz7_1, hcz7_2, hfz7_0, hfz7_1, hfz7_2⟩ := bK3 (w := w6) BK218))
   repeat (go_quiet (first | ((with_reducible refine gate_dst (N := 1) rfl ?_); refine bE 1 #[.int .i64 a0_0, .int .i64 a0_1, .bool true] 23 ?_; intro gb218 hg w6 hbox hb; have BK218 := Aside0.mk (hbox); have GW218 := bG HB hg; have GE218 := bG HB hg; replace HB := bS HB hb; clear hb hbox hg; obtain ⟨hcz7_0, hcz7_1, hcz7_2, hfz7_0, hfz7_1, hfz7_2⟩ := bK3 (w := w6) BK218)); try go_wp2_with (first | ((with_reducible refine gate_dst (N := 1) rfl ?_); refine bE 1 #[.int .i64 a0_0, .int .i64 a0_1, .bool true] 23 ?_; intro gb218 hg w6 hbox hb; have BK218 := Aside0.mk (hbox); have GW218 := bG HB hg; have GE218 := bG HB hg; replace HB := bS HB hb; clear hb hbox hg; obtain ⟨hcz7_0, hcz7_1, hcz7_2, hfz7_0, hfz7_1, hfz7_2⟩ := bK3 (w := w6) BK218)))
   go_ret
   exact ⟨rR, bZ HB⟩
 ·replace c2 := Bool.eq_false_iff.mpr c2
  subst c2
  rw [if_neg (show ¬ (false = true) by decide)] at H
  replace H := Option.bind_eq_some_iff.mp H
  obtain ⟨t219, A80, H⟩ := H
  have A8 := Aside0.mk A80
  clear A80
  by_cases c9 : t219 = true
  ·subst c9
   rw [if_pos rfl] at H
   replace H := Option.bind_eq_some_iff.mp H
   obtain ⟨t220, A100, H⟩ := H
   have A10 := Aside0.mk A100
   clear A100
   by_cases c11 : t220 = true
   ·subst c11
    rw [if_pos rfl] at H
    replace H := Option.bind_eq_some_iff.mp H
    obtain ⟨t221, A120, H⟩ := H
    have A12 := Aside0.mk A120
    clear A120
    replace H := Option.bind_eq_some_iff.mp H
    obtain ⟨t222, A130, H⟩ := H
    have A13 := Aside0.mk A130
    clear A130
    obtain rfl := Option.some.inj H
    go_enter Tryd.func97, Tryd.ntmps97
    go_wp2_with (first | ((with_reducible refine gate_dst (N := 1) rfl ?_); refine bE 1 #[.int .i64 a0_0, .int .i64 a0_1, .bool false] 23 ?_; intro gb218 hg w14 hbox hb; have BK218 := Aside0.mk (hbox); have GW218 := bG HB hg; have GE218 := bG HB hg; replace HB := bS HB hb; clear hb hbox hg; obtain ⟨hcz15_0, hcz15_1, hcz15_2, hfz15_0, hfz15_1, hfz15_2⟩ := bK3 (w := w14) BK218) | (go_at_call 124; (with_reducible refine (impl_FpOk.calls a0_0 true _ A8.out).mono ?_); rintro e w' ⟨rfl, ⟨nd, rfl⟩⟩; (try exact tD)) | (go_at_call 124; (with_reducible refine (impl_FpOk.calls a0_1 true _ A10.out).mono ?_); rintro e w' ⟨rfl, ⟨nd, rfl⟩⟩; (try exact tD)) | (go_at_call 95; (with_reducible refine (impl_FpMul.calls a0_1 a0_1 t221 _ A12.out).mono ?_); rintro e w' ⟨rfl, ⟨nd, rfl⟩⟩; (try exact tD)) | (go_at_call 50; (with_reducible refine (impl_curveAt.calls a0_0 t222 _ A13.out).mono ?_); rintro e w' ⟨rfl, ⟨nd, rfl⟩⟩; (try exact tD)))
    repeat (go_quiet (first | ((with_reducible refine gate_dst (N := 1) rfl ?_); refine bE 1 #[.int .i64 a0_0, .int .i64 a0_1, .bool false] 23 ?_; intro gb218 hg w14 hbox hb; have BK218 := Aside0.mk (hbox); have GW218 := bG HB hg; have GE218 := bG HB hg; replace HB := bS HB hb; clear hb hbox hg; obtain ⟨hcz15_0, hcz15_1, hcz15_2, hfz15_0, hfz15_1, hfz15_2⟩ := bK3 (w := w14) BK218) | (go_at_call 124; (with_reducible refine (impl_FpOk.calls a0_0 true _ A8.out).mono ?_); rintro e w' ⟨rfl, ⟨nd, rfl⟩⟩; (try exact tD)) | (go_at_call 124; (with_reducible refine (impl_FpOk.calls a0_1 true _ A10.out).mono ?_); rintro e w' ⟨rfl, ⟨nd, rfl⟩⟩; (try exact tD)) | (go_at_call 95; (with_reducible refine (impl_FpMul.calls a0_1 a0_1 t221 _ A12.out).mono ?_); rintro e w' ⟨rfl, ⟨nd, rfl⟩⟩; (try exact tD)) | (go_at_call 50; (with_reducible refine (impl_curveAt.calls a0_0 t222 _ A13.out).mono ?_); rintro e w' ⟨rfl, ⟨nd, rfl⟩⟩; (try exact tD))); try go_wp2_with (first | ((with_reducible refine gate_dst (N := 1) rfl ?_); refine bE 1 #[.int .i64 a0_0, .int .i64 a0_1, .bool false] 23 ?_; intro gb218 hg w14 hbox hb; have BK218 := Aside0.mk (hbox); have GW218 := bG HB hg; have GE218 := bG HB hg; replace HB := bS HB hb; clear hb hbox hg; obtain ⟨hcz15_0, hcz15_1, hcz15_2, hfz15_0, hfz15_1, hfz15_2⟩ := bK3 (w := w14) BK218) | (go_at_call 124; (with_reducible refine (impl_FpOk.calls a0_0 true _ A8.out).mono ?_); rintro e w' ⟨rfl, ⟨nd, rfl⟩⟩; (try exact tD)) | (go_at_call 124; (with_reducible refine (impl_FpOk.calls a0_1 true _ A10.out).mono ?_); rintro e w' ⟨rfl, ⟨nd, rfl⟩⟩; (try exact tD)) | (go_at_call 95; (with_reducible refine (impl_FpMul.calls a0_1 a0_1 t221 _ A12.out).mono ?_); rintro e w' ⟨rfl, ⟨nd, rfl⟩⟩; (try exact tD)) | (go_at_call 50; (with_reducible refine (impl_curveAt.calls a0_0 t222 _ A13.out).mono ?_); rintro e w' ⟨rfl, ⟨nd, rfl⟩⟩; (try exact tD))))
    go_ret
    exact ⟨rR, bZ HB⟩
   ·replace c11 := Bool.eq_false_iff.mpr c11
    subst c11
    rw [if_neg (show ¬ (false = true) by decide)] at H
    obtain rfl := Option.some.inj H
    go_enter Tryd.func97, Tryd.ntmps97
    go_wp2_with (first | ((with_reducible refine gate_dst (N := 1) rfl ?_); refine bE 1 #[.int .i64 a0_0, .int .i64 a0_1, .bool false] 23 ?_; intro gb218 hg w16 hbox hb; have BK218 := Aside0.mk (hbox); have GW218 := bG HB hg; have GE218 := bG HB hg; replace HB := bS HB hb; clear hb hbox hg; obtain ⟨hcz17_0, hcz17_1, hcz17_2, hfz17_0, hfz17_1, hfz17_2⟩ := bK3 (w := w16) BK218) | (go_at_call 124; (with_reducible refine (impl_FpOk.calls a0_0 true _ A8.out).mono ?_); rintro e w' ⟨rfl, ⟨nd, rfl⟩⟩; (try exact tD)) | (go_at_call 124; (with_reducible refine (impl_FpOk.calls a0_1 false _ A10.out).mono ?_); rintro e w' ⟨rfl, ⟨nd, rfl⟩⟩; (try exact tD)))
    repeat (go_quiet (first | ((with_reducible refine gate_dst (N := 1) rfl ?_); refine bE 1 #[.int .i64 a0_0, .int .i64 a0_1, .bool false] 23 ?_; intro gb218 hg w16 hbox hb; have BK218 := Aside0.mk (hbox); have GW218 := bG HB hg; have GE218 := bG HB hg; replace HB := bS HB hb; clear hb hbox hg; obtain ⟨hcz17_0, hcz17_1, hcz17_2, hfz17_0, hfz17_1, hfz17_2⟩ := bK3 (w := w16) BK218) | (go_at_call 124; (with_reducible refine (impl_FpOk.calls a0_0 true _ A8.out).mono ?_); rintro e w' ⟨rfl, ⟨nd, rfl⟩⟩; (try exact tD)) | (go_at_call 124; (with_reducible refine (impl_FpOk.calls a0_1 false _ A10.out).mono ?_); rintro e w' ⟨rfl, ⟨nd, rfl⟩⟩; (try exact tD))); try go_wp2_with (first | ((with_reducible refine gate_dst (N := 1) rfl ?_); refine bE 1 #[.int .i64 a0_0, .int .i64 a0_1, .bool false] 23 ?_; intro gb218 hg w16 hbox hb; have BK218 := Aside0.mk (hbox); have GW218 := bG HB hg; have GE218 := bG HB hg; replace HB := bS HB hb; clear hb hbox hg; obtain ⟨hcz17_0, hcz17_1, hcz17_2, hfz17_0, hfz17_1, hfz17_2⟩ := bK3 (w := w16) BK218) | (go_at_call 124; (with_reducible refine (impl_FpOk.calls a0_0 true _ A8.out).mono ?_); rintro e w' ⟨rfl, ⟨nd, rfl⟩⟩; (try exact tD)) | (go_at_call 124; (with_reducible refine (impl_FpOk.calls a0_1 false _ A10.out).mono ?_); rintro e w' ⟨rfl, ⟨nd, rfl⟩⟩; (try exact tD))))
    go_ret
    exact ⟨rR, bZ HB⟩
  ·replace c9 := Bool.eq_false_iff.mpr c9
   subst c9
   rw [if_neg (show ¬ (false = true) by decide)] at H
   obtain rfl := Option.some.inj H
   go_enter Tryd.func97, Tryd.ntmps97
   go_wp2_with (first | ((with_reducible refine gate_dst (N := 1) rfl ?_); refine bE 1 #[.int .i64 a0_0, .int .i64 a0_1, .bool false] 23 ?_; intro gb218 hg w18 hbox hb; have BK218 := Aside0.mk (hbox); have GW218 := bG HB hg; have GE218 := bG HB hg; replace HB := bS HB hb; clear hb hbox hg; obtain ⟨hcz19_0, hcz19_1, hcz19_2, hfz19_0, hfz19_1, hfz19_2⟩ := bK3 (w := w18) BK218) | (go_at_call 124; (with_reducible refine (impl_FpOk.calls a0_0 false _ A8.out).mono ?_); rintro e w' ⟨rfl, ⟨nd, rfl⟩⟩; (try exact tD)))
   repeat (go_quiet (first | ((with_reducible refine gate_dst (N := 1) rfl ?_); refine bE 1 #[.int .i64 a0_0, .int .i64 a0_1, .bool false] 23 ?_; intro gb218 hg w18 hbox hb; have BK218 := Aside0.mk (hbox); have GW218 := bG HB hg; have GE218 := bG HB hg; replace HB := bS HB hb; clear hb hbox hg; obtain ⟨hcz19_0, hcz19_1, hcz19_2, hfz19_0, hfz19_1, hfz19_2⟩ := bK3 (w := w18) BK218) | (go_at_call 124; (with_reducible refine (impl_FpOk.calls a0_0 false _ A8.out).mono ?_); rintro e w' ⟨rfl, ⟨nd, rfl⟩⟩; (try exact tD))); try go_wp2_with (first | ((with_reducible refine gate_dst (N := 1) rfl ?_); refine bE 1 #[.int .i64 a0_0, .int .i64 a0_1, .bool false] 23 ?_; intro gb218 hg w18 hbox hb; have BK218 := Aside0.mk (hbox); have GW218 := bG HB hg; have GE218 := bG HB hg; replace HB := bS HB hb; clear hb hbox hg; obtain ⟨hcz19_0, hcz19_1, hcz19_2, hfz19_0, hfz19_1, hfz19_2⟩ := bK3 (w := w18) BK218) | (go_at_call 124; (with_reducible refine (impl_FpOk.calls a0_0 false _ A8.out).mono ?_); rintro e w' ⟨rfl, ⟨nd, rfl⟩⟩; (try exact tD))))
   go_ret
   exact ⟨rR, bZ HB⟩
/-! ### impl_FpSub: function 126 -/
def impl_FpSub.f (a0 : Int) (a1 : Int) : Option (Int) := (impl_FpOf.f a0).bind fun t223 => ((impl_FpOf.f a1).bind fun t224 => ((impl_FpOf.f (wrap64 (t223 - t224))).bind fun t225 => (some t225)))
set_option maxHeartbeats 8000000 in
set_option maxRecDepth 100000 in
theorem impl_FpSub.calls (a0 : Int) (a1 : Int) (r : Int) (w : World) (h : impl_FpSub.f a0 a1 = some r) :
  Calls Tryd.prog 126 #[.int .i64 a0, .int .i64 a1] w fun e w' => e = .returned (.int .i64 r) ∧ Drawn0 w w' := by
 have H : ((impl_FpOf.f a0).bind fun t223 => ((impl_FpOf.f a1).bind fun t224 => ((impl_FpOf.f (wrap64 (t223 - t224))).bind fun t225 => (some t225)))) = some r := h
 clear h
 replace H := Option.bind_eq_some_iff.mp H
 obtain ⟨t223, A30, H⟩ := H
 have A3 := Aside0.mk A30
 clear A30
 replace H := Option.bind_eq_some_iff.mp H
 obtain ⟨t224, A40, H⟩ := H
 have A4 := Aside0.mk A40
 clear A40
 replace H := Option.bind_eq_some_iff.mp H
 obtain ⟨t225, A50, H⟩ := H
 have A5 := Aside0.mk A50
 clear A50
 obtain rfl := Option.some.inj H
 go_enter Tryd.func126, Tryd.ntmps126
 go_wp2_with (first | ((with_reducible refine gate_callee (f := 48) rfl ?_); refine gL (some 6) Tryd.func48 #[.int .i64 a0] ?_; (with_reducible refine (impl_FpOf.calls a0 t223 _ A3.out).mono ?_); rintro e w' ⟨rfl, ⟨nd, rfl⟩⟩; refine ⟨_, rfl, ?_⟩) | ((with_reducible refine gate_callee (f := 48) rfl ?_); refine gL (some 8) Tryd.func48 #[.int .i64 a1] ?_; (with_reducible refine (impl_FpOf.calls a1 t224 _ A4.out).mono ?_); rintro e w' ⟨rfl, ⟨nd, rfl⟩⟩; refine ⟨_, rfl, ?_⟩) | ((with_reducible refine gate_callee (f := 48) rfl ?_); refine gL (some 10) Tryd.func48 #[.int .i64 (wrap64 (t223 - t224))] ?_; (with_reducible refine (impl_FpOf.calls (wrap64 (t223 - t224)) t225 _ A5.out).mono ?_); rintro e w' ⟨rfl, ⟨nd, rfl⟩⟩; refine ⟨_, rfl, ?_⟩))
 go_ret
 exact ⟨rS, rD⟩
/-! ### impl_FpInv: function 134 -/
def impl_FpInv.f (k : Nat) (a0 : Int) : Option (Int) := (impl_powerMod.f k a0 12105 12107).bind fun t226 => (some t226)
theorem impl_FpInv.mono : ∀ a0 k, LeO (impl_FpInv.f k a0) (impl_FpInv.f (k + 1) a0) := by
 intro a0 k
 unfold impl_FpInv.f
 repeat' first
   | (with_reducible exact impl_powerMod.mono _ _ _ _)
   | (with_reducible exact LeO.refl _)
   | (with_reducible exact LeO.none _)
   | (with_reducible refine LeO.ite ?_ ?_)
   | (with_reducible refine LeO.bind ?_ (fun _ => ?_))
   | exact impl_powerMod.mono _ _ _ _
   | exact LeO.none _
   | refine LeO.ite ?_ ?_
   | refine LeO.bind ?_ (fun _ => ?_)
set_option maxHeartbeats 8000000 in
set_option maxRecDepth 100000 in
theorem impl_FpInv.calls (k : Nat) (a0 : Int) (r : Int) (w : World) (h : impl_FpInv.f k a0 = some r) :
  Calls Tryd.prog 134 #[.int .i64 a0] w fun e w' => e = .returned (.int .i64 r) ∧ Drawn0 w w' := by
 have H : ((impl_powerMod.f k a0 12105 12107).bind fun t226 => (some t226)) = some r := h
 clear h
 replace H := Option.bind_eq_some_iff.mp H
 obtain ⟨t226, A20, H⟩ := H
 have A2 := Aside0.mk A20
 clear A20
 obtain rfl := Option.some.inj H
 go_enter Tryd.func134, Tryd.ntmps134
 go_wp2_with (first | ((with_reducible refine gate_callee (f := 94) rfl ?_); refine gL (some 4) Tryd.func94 #[.int .i64 a0, .int .i64 12105, .int .i64 12107] ?_; (with_reducible refine (impl_powerMod.calls k a0 12105 12107 t226 _ A2.out).mono ?_); rintro e w' ⟨rfl, ⟨nd, rfl⟩⟩; refine ⟨_, rfl, ?_⟩))
 go_ret
 exact ⟨rS, rD⟩
/-! ### impl_slopeOf: function 125 -/
def impl_slopeOf.j0 : Nat → Bool → Int → Int → Bool → Option (Int × Bool)
 | 0, _, _, _, _ => none
 | k + 1, x32, x228000, x228001, x228002 => if x32 = true then (some (0, false)) else ((impl_FpMul.f x228000 x228000).bind fun t233 => ((impl_FpMul.f 3 t233).bind fun t234 => ((impl_FpAdd.f t234 1).bind fun t235 => ((impl_FpMul.f 2 x228001).bind fun t236 => ((impl_FpInv.f k t236).bind fun t237 => ((impl_FpMul.f t235 t237).bind fun t238 => (some (t238, true))))))))
def impl_slopeOf.f (k : Nat) (a0_0 : Int) (a0_1 : Int) (a0_2 : Bool) (a1_0 : Int) (a1_1 : Int) (a1_2 : Bool) : Option (Int × Bool) := if a0_0 = a1_0 then (if a0_1 = a1_1 then (impl_slopeOf.j0 k (a0_1 == 0) a0_0 a0_1 a0_2) else (impl_slopeOf.j0 k true a0_0 a0_1 a0_2)) else ((impl_FpSub.f a1_1 a0_1).bind fun t229 => ((impl_FpSub.f a1_0 a0_0).bind fun t230 => ((impl_FpInv.f k t230).bind fun t231 => ((impl_FpMul.f t229 t231).bind fun t232 => (some (t232, true))))))
theorem impl_slopeOf.mono_l : ∀ k, (∀ y0 y1 y2 y3, LeO (impl_slopeOf.j0 k y0 y1 y2 y3) (impl_slopeOf.j0 (k + 1) y0 y1 y2 y3))
 | 0 => fun _ _ _ _ r h => by simp [impl_slopeOf.j0] at h
 | k + 1 => by
  have ih0 := impl_slopeOf.mono_l k
  ·intro y0 y1 y2 y3
   unfold impl_slopeOf.j0
   repeat' first
   | (with_reducible exact ih0 _ _ _ _)
   | (with_reducible exact impl_FpInv.mono _ _)
   | (with_reducible exact LeO.refl _)
   | (with_reducible exact LeO.none _)
   | (with_reducible refine LeO.ite ?_ ?_)
   | (with_reducible refine LeO.bind ?_ (fun _ => ?_))
   | exact ih0 _ _ _ _
   | exact impl_FpInv.mono _ _
   | exact LeO.none _
   | refine LeO.ite ?_ ?_
   | refine LeO.bind ?_ (fun _ => ?_)
theorem impl_slopeOf.mono : ∀ a0 a1 a2 a3 a4 a5 k, LeO (impl_slopeOf.f k a0 a1 a2 a3 a4 a5) (impl_slopeOf.f (k + 1) a0 a1 a2 a3 a4 a5) := by
 intro a0 a1 a2 a3 a4 a5 k
 have ih0 := impl_slopeOf.mono_l k
 unfold impl_slopeOf.f
 repeat' first
   | (with_reducible exact ih0 _ _ _ _)
   | (with_reducible exact impl_FpInv.mono _ _)
   | (with_reducible exact LeO.refl _)
   | (with_reducible exact LeO.none _)
   | (with_reducible refine LeO.ite ?_ ?_)
   | (with_reducible refine LeO.bind ?_ (fun _ => ?_))
   | exact ih0 _ _ _ _
   | exact impl_FpInv.mono _ _
   | exact LeO.none _
   | refine LeO.ite ?_ ?_
   | refine LeO.bind ?_ (fun _ => ?_)
set_option maxHeartbeats 8000000 in
set_option maxRecDepth 100000 in
theorem impl_slopeOf.calls (k : Nat) (a0_0 : Int) (a0_1 : Int) (a0_2 : Bool) (a1_0 : Int) (a1_1 : Int) (a1_2 : Bool) (r1 : Int) (r2 : Bool) (w : World) (h : impl_slopeOf.f k a0_0 a0_1 a0_2 a1_0 a1_1 a1_2 = some (r1, r2)) :
  Calls Tryd.prog 125 #[.agg #[.int .i64 a0_0, .int .i64 a0_1, .bool a0_2], .agg #[.int .i64 a1_0, .int .i64 a1_1, .bool a1_2]] w fun e w' => e = .returned (.tuple #[.int .i64 r1, .bool r2]) ∧ Below w.heap.size w w' := by
 have hu23 := Tryd.underlying23
 have HB := Aside0.mk (Below.refl w.heap.size w)
 have H : (if a0_0 = a1_0 then (if a0_1 = a1_1 then (impl_slopeOf.j0 k (a0_1 == 0) a0_0 a0_1 a0_2) else (impl_slopeOf.j0 k true a0_0 a0_1 a0_2)) else ((impl_FpSub.f a1_1 a0_1).bind fun t229 => ((impl_FpSub.f a1_0 a0_0).bind fun t230 => ((impl_FpInv.f k t230).bind fun t231 => ((impl_FpMul.f t229 t231).bind fun t232 => (some (t232, true))))))) = some (r1, r2) := h
 clear h
 by_cases c3 : a0_0 = a1_0
 ·rw [if_pos c3] at H
  have c3b0 : (a0_0 == a1_0) = true := beq_iff_eq.mpr c3
  have c3b1 : (a0_0 != a1_0) = false := bne_eq_false_iff_eq.mpr c3
  clear c3
  have HC4 := Aside0.mk H
  clear H
  go_enter Tryd.func125, Tryd.ntmps125
  go_upto_region 3 with (first | ((with_reducible refine gate_dst (N := 2) rfl ?_); refine bE 2 #[.int .i64 a0_0, .int .i64 a0_1, .bool a0_2] 23 ?_; intro gb227 hg w5 hbox hb; have BK227 := Aside0.mk (hbox); have GW227 := bG HB hg; have GE227 := bG HB hg; replace HB := bS HB hb; clear hb hbox hg) | ((with_reducible refine gate_dst (N := 3) rfl ?_); refine bE 3 #[.int .i64 a1_0, .int .i64 a1_1, .bool a1_2] 23 ?_; intro gb228 hg w6 hbox hb; have BK228 := Aside0.mk (hbox); have GW228 := bG HB hg; have GE228 := bG HB hg; replace HB := bS HB hb; have NB227_228 := bL BK227 hg; have NB228_227 := bR BK227 hg; replace BK227 := bB BK227 hb; clear hb hbox hg; have hnb7 := NB227_228.out; have hnc7 := NB228_227.out; obtain ⟨hcz8_0, hcz8_1, hcz8_2, hfz8_0, hfz8_1, hfz8_2⟩ := bK3 (w := w6) BK227; obtain ⟨hcz9_0, hcz9_1, hcz9_2, hfz9_0, hfz9_1, hfz9_2⟩ := bK3 (w := w6) BK228))
  repeat (go_quiet (first | ((with_reducible refine gate_dst (N := 2) rfl ?_); refine bE 2 #[.int .i64 a0_0, .int .i64 a0_1, .bool a0_2] 23 ?_; intro gb227 hg w5 hbox hb; have BK227 := Aside0.mk (hbox); have GW227 := bG HB hg; have GE227 := bG HB hg; replace HB := bS HB hb; clear hb hbox hg) | ((with_reducible refine gate_dst (N := 3) rfl ?_); refine bE 3 #[.int .i64 a1_0, .int .i64 a1_1, .bool a1_2] 23 ?_; intro gb228 hg w6 hbox hb; have BK228 := Aside0.mk (hbox); have GW228 := bG HB hg; have GE228 := bG HB hg; replace HB := bS HB hb; have NB227_228 := bL BK227 hg; have NB228_227 := bR BK227 hg; replace BK227 := bB BK227 hb; clear hb hbox hg; have hnb7 := NB227_228.out; have hnc7 := NB228_227.out; obtain ⟨hcz8_0, hcz8_1, hcz8_2, hfz8_0, hfz8_1, hfz8_2⟩ := bK3 (w := w6) BK227; obtain ⟨hcz9_0, hcz9_1, hcz9_2, hfz9_0, hfz9_1, hfz9_2⟩ := bK3 (w := w6) BK228)); go_upto_region 3 with (first | ((with_reducible refine gate_dst (N := 2) rfl ?_); refine bE 2 #[.int .i64 a0_0, .int .i64 a0_1, .bool a0_2] 23 ?_; intro gb227 hg w5 hbox hb; have BK227 := Aside0.mk (hbox); have GW227 := bG HB hg; have GE227 := bG HB hg; replace HB := bS HB hb; clear hb hbox hg) | ((with_reducible refine gate_dst (N := 3) rfl ?_); refine bE 3 #[.int .i64 a1_0, .int .i64 a1_1, .bool a1_2] 23 ?_; intro gb228 hg w6 hbox hb; have BK228 := Aside0.mk (hbox); have GW228 := bG HB hg; have GE228 := bG HB hg; replace HB := bS HB hb; have NB227_228 := bL BK227 hg; have NB228_227 := bR BK227 hg; replace BK227 := bB BK227 hb; clear hb hbox hg; have hnb7 := NB227_228.out; have hnc7 := NB228_227.out; obtain ⟨hcz8_0, hcz8_1, hcz8_2, hfz8_0, hfz8_1, hfz8_2⟩ := bK3 (w := w6) BK227; obtain ⟨hcz9_0, hcz9_1, hcz9_2, hfz9_0, hfz9_1, hfz9_2⟩ := bK3 (w := w6) BK228)))
  (try simp only [Act.put, List.setIfInBounds_toArray, List.set_cons_zero, List.set_cons_succ])
  go_cut [32] (fun v32 wc => ∃ (kq : Nat) (x32_3 : Bool), v32 = .bool x32_3 ∧ Aside0 (impl_slopeOf.j0 kq x32_3 a0_0 a0_1 a0_2 = some (r1, r2)) ∧ Aside0 (kq ≤ k) ∧ Aside0 (wc.heap[gb227]? = some (.cells #[.int .i64 a0_0, .int .i64 a0_1, .bool a0_2] 23 (0, 0))) ∧ Aside0 (wc.heap[gb228]? = some (.cells #[.int .i64 a1_0, .int .i64 a1_1, .bool a1_2] 23 (0, 0))) ∧ Aside0 (Below w.heap.size w wc))
  case first =>
   have H := HC4.out
   clear HC4
   by_cases c10 : a0_1 = a1_1
   ·rw [if_pos c10] at H
    have c10b0 : (a0_1 == a1_1) = true := beq_iff_eq.mpr c10
    have c10b1 : (a0_1 != a1_1) = false := bne_eq_false_iff_eq.mpr c10
    clear c10
    (first | rw [c10b0] | (simp only [i64_w, i32_w]; rw [c10b0]) | rw [c10b1] | skip)
    have H' := Aside0.mk H
    clear H
    have hnb11 := NB227_228.out
    have hnc11 := NB228_227.out
    obtain ⟨hcz12_0, hcz12_1, hcz12_2, hfz12_0, hfz12_1, hfz12_2⟩ := bK3 (w := w6) BK227
    obtain ⟨hcz13_0, hcz13_1, hcz13_2, hfz13_0, hfz13_1, hfz13_2⟩ := bK3 (w := w6) BK228
    go_wp2
    repeat (go_quiet (fail); try go_wp2)
    go_meet
    case rel => exact ⟨_, ((a0_1 == 0)), rS, H', ⟨by first | omega | exact Nat.le_refl _⟩, ⟨bP BK227⟩, ⟨bP BK228⟩, ⟨bZ HB⟩⟩
   ·rw [if_neg c10] at H
    have c10b0 : (a0_1 == a1_1) = false := beq_eq_false_iff_ne.mpr c10
    have c10b1 : (a0_1 != a1_1) = true := bne_iff_ne.mpr c10
    (first | rw [c10b0] | (simp only [i64_w, i32_w]; rw [c10b0]) | rw [c10b1] | skip)
    have H' := Aside0.mk H
    clear H
    have hnb14 := NB227_228.out
    have hnc14 := NB228_227.out
    obtain ⟨hcz15_0, hcz15_1, hcz15_2, hfz15_0, hfz15_1, hfz15_2⟩ := bK3 (w := w6) BK227
    obtain ⟨hcz16_0, hcz16_1, hcz16_2, hfz16_0, hfz16_1, hfz16_2⟩ := bK3 (w := w6) BK228
    go_wp2
    repeat (go_quiet (fail); try go_wp2)
    go_meet
    case rel => exact ⟨_, (true), rS, H', ⟨by first | omega | exact Nat.le_refl _⟩, ⟨bP BK227⟩, ⟨bP BK228⟩, ⟨bZ HB⟩⟩
  case rest =>
   clear HC4
   try clear c1
   try clear p2
   try clear c3
   try clear c3b0
   try clear c3b1
   try clear c7
   try clear c10
   try clear c10b0
   try clear c10b1
   try clear c11
   try clear c12
   try clear c14
   try clear hcz12_0
   try clear hcz12_1
   try clear hcz12_2
   try clear hcz13_0
   try clear hcz13_1
   try clear hcz13_2
   try clear hcz15_0
   try clear hcz15_1
   try clear hcz15_2
   try clear hcz16_0
   try clear hcz16_1
   try clear hcz16_2
   try clear hcz8_0
   try clear hcz8_1
   try clear hcz8_2
   try clear hcz9_0
   try clear hcz9_1
   try clear hcz9_2
   try clear hfz12_0
   try clear hfz12_1
   try clear hfz12_2
   try clear hfz13_0
   try clear hfz13_1
   try clear hfz13_2
   try clear hfz15_0
   try clear hfz15_1
   try clear hfz15_2
   try clear hfz16_0
   try clear hfz16_1
   try clear hfz16_2
   try clear hfz8_0
   try clear hfz8_1
   try clear hfz8_2
   try clear hfz9_0
   try clear hfz9_1
   try clear hfz9_2
   obtain ⟨kq, x32_3, rfl, HA, HJ3, BK227, BK228, HB⟩ := hcut
   cases kq with
   | zero => exact absurd HA.out (by simp [impl_slopeOf.j0])
   | succ kj3 =>
    have H := HA.out
    clear HA
    simp only [impl_slopeOf.j0] at H
    by_cases c17 : x32_3 = true
    ·subst c17
     rw [if_pos rfl] at H
     simp only [Option.some.injEq, Prod.mk.injEq] at H
     obtain ⟨rfl, rfl⟩ := H
     go_wp2
     repeat (go_quiet (fail); try go_wp2)
     go_ret2
     exact ⟨rR, bZ HB⟩
    ·replace c17 := Bool.eq_false_iff.mpr c17
     subst c17
     rw [if_neg (show ¬ (false = true) by decide)] at H
     replace H := Option.bind_eq_some_iff.mp H
     obtain ⟨t233, A180, H⟩ := H
     have A18 := Aside0.mk A180
     clear A180
     replace H := Option.bind_eq_some_iff.mp H
     obtain ⟨t234, A190, H⟩ := H
     have A19 := Aside0.mk A190
     clear A190
     replace H := Option.bind_eq_some_iff.mp H
     obtain ⟨t235, A200, H⟩ := H
     have A20 := Aside0.mk A200
     clear A200
     replace H := Option.bind_eq_some_iff.mp H
     obtain ⟨t236, A210, H⟩ := H
     have A21 := Aside0.mk A210
     clear A210
     replace H := Option.bind_eq_some_iff.mp H
     obtain ⟨t237, A220, H⟩ := H
     have A22 := Aside0.mk A220
     clear A220
     replace H := Option.bind_eq_some_iff.mp H
     obtain ⟨t238, A230, H⟩ := H
     have A23 := Aside0.mk A230
     clear A230
     simp only [Option.some.injEq, Prod.mk.injEq] at H
     obtain ⟨rfl, rfl⟩ := H
     have hnb24 := NB227_228.out
     have hnc24 := NB228_227.out
     obtain ⟨hcz25_0, hcz25_1, hcz25_2, hfz25_0, hfz25_1, hfz25_2⟩ := bK3 (w := wc) BK227
     go_wp2_with (first | (go_at_call 95; (with_reducible refine (impl_FpMul.calls a0_0 a0_0 t233 _ A18.out).mono ?_); rintro e w' ⟨rfl, ⟨nd, rfl⟩⟩; (try exact tD)) | (go_at_call 95; (with_reducible refine (impl_FpMul.calls 3 t233 t234 _ A19.out).mono ?_); rintro e w' ⟨rfl, ⟨nd, rfl⟩⟩; (try exact tD)) | (go_at_call 96; (with_reducible refine (impl_FpAdd.calls t234 1 t235 _ A20.out).mono ?_); rintro e w' ⟨rfl, ⟨nd, rfl⟩⟩; (try exact tD)) | (go_at_call 95; (with_reducible refine (impl_FpMul.calls 2 a0_1 t236 _ A21.out).mono ?_); rintro e w' ⟨rfl, ⟨nd, rfl⟩⟩; (try exact tD)) | (go_at_call 134; (with_reducible refine (impl_FpInv.calls kj3 t236 t237 _ A22.out).mono ?_); rintro e w' ⟨rfl, ⟨nd, rfl⟩⟩; (try exact tD)) | (go_at_call 95; (with_reducible refine (impl_FpMul.calls t235 t237 t238 _ A23.out).mono ?_); rintro e w' ⟨rfl, ⟨nd, rfl⟩⟩; (try exact tD)))
     repeat (go_quiet (first | (go_at_call 95; (with_reducible refine (impl_FpMul.calls a0_0 a0_0 t233 _ A18.out).mono ?_); rintro e w' ⟨rfl, ⟨nd, rfl⟩⟩; (try exact tD)) | (go_at_call 95; (with_reducible refine (impl_FpMul.calls 3 t233 t234 _ A19.out).mono ?_); rintro e w' ⟨rfl, ⟨nd, rfl⟩⟩; (try exact tD)) | (go_at_call 96; (with_reducible refine (impl_FpAdd.calls t234 1 t235 _ A20.out).mono ?_); rintro e w' ⟨rfl, ⟨nd, rfl⟩⟩; (try exact tD)) | (go_at_call 95; (with_reducible refine (impl_FpMul.calls 2 a0_1 t236 _ A21.out).mono ?_); rintro e w' ⟨rfl, ⟨nd, rfl⟩⟩; (try exact tD)) | (go_at_call 134; (with_reducible refine (impl_FpInv.calls kj3 t236 t237 _ A22.out).mono ?_); rintro e w' ⟨rfl, ⟨nd, rfl⟩⟩; (try exact tD)) | (go_at_call 95; (with_reducible refine (impl_FpMul.calls t235 t237 t238 _ A23.out).mono ?_); rintro e w' ⟨rfl, ⟨nd, rfl⟩⟩; (try exact tD))); try go_wp2_with (first | (go_at_call 95; (with_reducible refine (impl_FpMul.calls a0_0 a0_0 t233 _ A18.out).mono ?_); rintro e w' ⟨rfl, ⟨nd, rfl⟩⟩; (try exact tD)) | (go_at_call 95; (with_reducible refine (impl_FpMul.calls 3 t233 t234 _ A19.out).mono ?_); rintro e w' ⟨rfl, ⟨nd, rfl⟩⟩; (try exact tD)) | (go_at_call 96; (with_reducible refine (impl_FpAdd.calls t234 1 t235 _ A20.out).mono ?_); rintro e w' ⟨rfl, ⟨nd, rfl⟩⟩; (try exact tD)) | (go_at_call 95; (with_reducible refine (impl_FpMul.calls 2 a0_1 t236 _ A21.out).mono ?_); rintro e w' ⟨rfl, ⟨nd, rfl⟩⟩; (try exact tD)) | (go_at_call 134; (with_reducible refine (impl_FpInv.calls kj3 t236 t237 _ A22.out).mono ?_); rintro e w' ⟨rfl, ⟨nd, rfl⟩⟩; (try exact tD)) | (go_at_call 95; (with_reducible refine (impl_FpMul.calls t235 t237 t238 _ A23.out).mono ?_); rintro e w' ⟨rfl, ⟨nd, rfl⟩⟩; (try exact tD))))
     go_ret2
     exact ⟨rR, bZ HB⟩
 ·rw [if_neg c3] at H
  have c3b0 : (a0_0 == a1_0) = false := beq_eq_false_iff_ne.mpr c3
  have c3b1 : (a0_0 != a1_0) = true := bne_iff_ne.mpr c3
  replace H := Option.bind_eq_some_iff.mp H
  obtain ⟨t229, A260, H⟩ := H
  have A26 := Aside0.mk A260
  clear A260
  replace H := Option.bind_eq_some_iff.mp H
  obtain ⟨t230, A270, H⟩ := H
  have A27 := Aside0.mk A270
  clear A270
  replace H := Option.bind_eq_some_iff.mp H
  obtain ⟨t231, A280, H⟩ := H
  have A28 := Aside0.mk A280
  clear A280
  replace H := Option.bind_eq_some_iff.mp H
  obtain ⟨t232, A290, H⟩ := H
  have A29 := Aside0.mk A290
  clear A290
  simp only [Option.some.injEq, Prod.mk.injEq] at H
  obtain ⟨rfl, rfl⟩ := H
  go_enter Tryd.func125, Tryd.ntmps125
  go_wp2_with (first | ((with_reducible refine gate_dst (N := 2) rfl ?_); refine bE 2 #[.int .i64 a0_0, .int .i64 a0_1, .bool a0_2] 23 ?_; intro gb227 hg w30 hbox hb; have BK227 := Aside0.mk (hbox); have GW227 := bG HB hg; have GE227 := bG HB hg; replace HB := bS HB hb; clear hb hbox hg) | ((with_reducible refine gate_dst (N := 3) rfl ?_); refine bE 3 #[.int .i64 a1_0, .int .i64 a1_1, .bool a1_2] 23 ?_; intro gb228 hg w31 hbox hb; have BK228 := Aside0.mk (hbox); have GW228 := bG HB hg; have GE228 := bG HB hg; replace HB := bS HB hb; have NB227_228 := bL BK227 hg; have NB228_227 := bR BK227 hg; replace BK227 := bB BK227 hb; clear hb hbox hg; have hnb32 := NB227_228.out; have hnc32 := NB228_227.out; obtain ⟨hcz33_0, hcz33_1, hcz33_2, hfz33_0, hfz33_1, hfz33_2⟩ := bK3 (w := w31) BK227; obtain ⟨hcz34_0, hcz34_1, hcz34_2, hfz34_0, hfz34_1, hfz34_2⟩ := bK3 (w := w31) BK228) | (go_at_call 126; (with_reducible refine (impl_FpSub.calls a1_1 a0_1 t229 _ A26.out).mono ?_); rintro e w' ⟨rfl, ⟨nd, rfl⟩⟩; (try exact tD)) | (go_at_call 126; (with_reducible refine (impl_FpSub.calls a1_0 a0_0 t230 _ A27.out).mono ?_); rintro e w' ⟨rfl, ⟨nd, rfl⟩⟩; (try exact tD)) | (go_at_call 134; (with_reducible refine (impl_FpInv.calls k t230 t231 _ A28.out).mono ?_); rintro e w' ⟨rfl, ⟨nd, rfl⟩⟩; (try exact tD)) | (go_at_call 95; (with_reducible refine (impl_FpMul.calls t229 t231 t232 _ A29.out).mono ?_); rintro e w' ⟨rfl, ⟨nd, rfl⟩⟩; (try exact tD)))
  repeat (go_quiet (first | ((with_reducible refine gate_dst (N := 2) rfl ?_); refine bE 2 #[.int .i64 a0_0, .int .i64 a0_1, .bool a0_2] 23 ?_; intro gb227 hg w30 hbox hb; have BK227 := Aside0.mk (hbox); have GW227 := bG HB hg; have GE227 := bG HB hg; replace HB := bS HB hb; clear hb hbox hg) | ((with_reducible refine gate_dst (N := 3) rfl ?_); refine bE 3 #[.int .i64 a1_0, .int .i64 a1_1, .bool a1_2] 23 ?_; intro gb228 hg w31 hbox hb; have BK228 := Aside0.mk (hbox); have GW228 := bG HB hg; have GE228 := bG HB hg; replace HB := bS HB hb; have NB227_228 := bL BK227 hg; have NB228_227 := bR BK227 hg; replace BK227 := bB BK227 hb; clear hb hbox hg; have hnb32 := NB227_228.out; have hnc32 := NB228_227.out; obtain ⟨hcz33_0, hcz33_1, hcz33_2, hfz33_0, hfz33_1, hfz33_2⟩ := bK3 (w := w31) BK227; obtain ⟨hcz34_0, hcz34_1, hcz34_2, hfz34_0, hfz34_1, hfz34_2⟩ := bK3 (w := w31) BK228) | (go_at_call 126; (with_reducible refine (impl_FpSub.calls a1_1 a0_1 t229 _ A26.out).mono ?_); rintro e w' ⟨rfl, ⟨nd, rfl⟩⟩; (try exact tD)) | (go_at_call 126; (with_reducible refine (impl_FpSub.calls a1_0 a0_0 t230 _ A27.out).mono ?_); rintro e w' ⟨rfl, ⟨nd, rfl⟩⟩; (try exact tD)) | (go_at_call 134; (with_reducible refine (impl_FpInv.calls k t230 t231 _ A28.out).mono ?_); rintro e w' ⟨rfl, ⟨nd, rfl⟩⟩; (try exact tD)) | (go_at_call 95; (with_reducible refine (impl_FpMul.calls t229 t231 t232 _ A29.out).mono ?_); rintro e w' ⟨rfl, ⟨nd, rfl⟩⟩; (try exact tD))); try go_wp2_with (first | ((with_reducible refine gate_dst (N := 2) rfl ?_); refine bE 2 #[.int .i64 a0_0, .int .i64 a0_1, .bool a0_2] 23 ?_; intro gb227 hg w30 hbox hb; have BK227 := Aside0.mk (hbox); have GW227 := bG HB hg; have GE227 := bG HB hg; replace HB := bS HB hb; clear hb hbox hg) | ((with_reducible refine gate_dst (N := 3) rfl ?_); refine bE 3 #[.int .i64 a1_0, .int .i64 a1_1, .bool a1_2] 23 ?_; intro gb228 hg w31 hbox hb; have BK228 := Aside0.mk (hbox); have GW228 := bG HB hg; have GE228 := bG HB hg; replace HB := bS HB hb; have NB227_228 := bL BK227 hg; have NB228_227 := bR BK227 hg; replace BK227 := bB BK227 hb; clear hb hbox hg; have hnb32 := NB227_228.out; have hnc32 := NB228_227.out; obtain ⟨hcz33_0, hcz33_1, hcz33_2, hfz33_0, hfz33_1, hfz33_2⟩ := bK3 (w := w31) BK227; obtain ⟨hcz34_0, hcz34_1, hcz34_2, hfz34_0, hfz34_1, hfz34_2⟩ := bK3 (w := w31) BK228) | (go_at_call 126; (with_reducible refine (impl_FpSub.calls a1_1 a0_1 t229 _ A26.out).mono ?_); rintro e w' ⟨rfl, ⟨nd, rfl⟩⟩; (try exact tD)) | (go_at_call 126; (with_reducible refine (impl_FpSub.calls a1_0 a0_0 t230 _ A27.out).mono ?_); rintro e w' ⟨rfl, ⟨nd, rfl⟩⟩; (try exact tD)) | (go_at_call 134; (with_reducible refine (impl_FpInv.calls k t230 t231 _ A28.out).mono ?_); rintro e w' ⟨rfl, ⟨nd, rfl⟩⟩; (try exact tD)) | (go_at_call 95; (with_reducible refine (impl_FpMul.calls t229 t231 t232 _ A29.out).mono ?_); rintro e w' ⟨rfl, ⟨nd, rfl⟩⟩; (try exact tD))))
  go_ret2
  exact ⟨rR, bZ HB⟩
/-! ### impl_add: function 98 -/
def impl_add.f (k : Nat) (a0_0 : Int) (a0_1 : Int) (a0_2 : Bool) (a1_0 : Int) (a1_1 : Int) (a1_2 : Bool) : Option (Int × Int × Bool) := if a0_2 = true then (some (a1_0, a1_1, a1_2)) else (if a1_2 = true then (some (a0_0, a0_1, a0_2)) else ((impl_slopeOf.f k a0_0 a0_1 a0_2 a1_0 a1_1 a1_2).bind fun bt242 => (if bt242.2 = true then ((impl_FpMul.f bt242.1 bt242.1).bind fun t244 => ((impl_FpSub.f t244 a0_0).bind fun t245 => ((impl_FpSub.f t245 a1_0).bind fun t246 => ((impl_FpSub.f a0_0 t246).bind fun t247 => ((impl_FpMul.f bt242.1 t247).bind fun t248 => ((impl_FpSub.f t248 a0_1).bind fun t249 => (some (t246, t249, false)))))))) else (some (0, 0, true)))))
theorem impl_add.mono : ∀ a0 a1 a2 a3 a4 a5 k, LeO (impl_add.f k a0 a1 a2 a3 a4 a5) (impl_add.f (k + 1) a0 a1 a2 a3 a4 a5) := by
 intro a0 a1 a2 a3 a4 a5 k
 unfold impl_add.f
 repeat' first
   | (with_reducible exact impl_slopeOf.mono _ _ _ _ _ _ _)
   | (with_reducible exact LeO.refl _)
   | (with_reducible exact LeO.none _)
   | (with_reducible refine LeO.ite ?_ ?_)
   | (with_reducible refine LeO.bind ?_ (fun _ => ?_))
   | exact impl_slopeOf.mono _ _ _ _ _ _ _
   | exact LeO.none _
   | refine LeO.ite ?_ ?_
   | refine LeO.bind ?_ (fun _ => ?_)
def impl_add.T8 : Bool × List (List Nat × List Nat) := (true, [([], []), ([], []), ([0, 1], [0, 1]), ([], []), ([3], [3]), ([2, 4, 2], [2, 4]), ([], []), ([6], [6]), ([5, 7, 5], [5, 7]), ([8, 8, 0, 1, 2, 3, 4, 5, 6, 7, 8], [8])])
def impl_add.B8 : List Nat := [0, 0, 3, 0, 8, 31, 0, 64, 255, 511]
theorem impl_add.tab8 : rtab .any (opsOf Tryd.f98 8) = impl_add.T8 := by kernel_rfl
theorem impl_add.bits8 : waitsOk impl_add.T8.2 impl_add.B8 = true := by kernel_rfl
def impl_add.T9 : Bool × List (List Nat × List Nat) := (true, [([], []), ([], []), ([], []), ([2], [2]), ([], []), ([3, 4], [3, 4]), ([1, 5, 5], [1, 5]), ([], []), ([7], [7]), ([6, 8, 6], [6, 8]), ([0, 9], [0, 9]), ([10, 9, 0, 1, 2, 3, 4, 5, 6, 7, 8, 9, 10], [10])])
def impl_add.B9 : List Nat := [0, 0, 0, 4, 0, 28, 62, 0, 128, 510, 1023, 2047]
theorem impl_add.tab9 : rtab .any (opsOf Tryd.f98 9) = impl_add.T9 := by kernel_rfl
theorem impl_add.bits9 : waitsOk impl_add.T9.2 impl_add.B9 = true := by kernel_rfl
set_option maxHeartbeats 8000000 in
set_option maxRecDepth 100000 in
theorem impl_add.calls (k : Nat) (a0_0 : Int) (a0_1 : Int) (a0_2 : Bool) (a1_0 : Int) (a1_1 : Int) (a1_2 : Bool) (r1 : Int) (r2 : Int) (r3 : Bool) (w : World) (h : impl_add.f k a0_0 a0_1 a0_2 a1_0 a1_1 a1_2 = some (r1, r2, r3)) :
  Calls Tryd.prog 98 #[.agg #[.int .i64 a0_0, .int .i64 a0_1, .bool a0_2], .agg #[.int .i64 a1_0, .int .i64 a1_1, .bool a1_2]] w fun e w' => e = .returned (.agg #[.int .i64 r1, .int .i64 r2, .bool r3]) ∧ Below w.heap.size w w' := by
 have hu23 := Tryd.underlying23
 have HB := Aside0.mk (Below.refl w.heap.size w)
 have H : (if a0_2 = true then (some (a1_0, a1_1, a1_2)) else (if a1_2 = true then (some (a0_0, a0_1, a0_2)) else ((impl_slopeOf.f k a0_0 a0_1 a0_2 a1_0 a1_1 a1_2).bind fun bt242 => (if bt242.2 = true then ((impl_FpMul.f bt242.1 bt242.1).bind fun t244 => ((impl_FpSub.f t244 a0_0).bind fun t245 => ((impl_FpSub.f t245 a1_0).bind fun t246 => ((impl_FpSub.f a0_0 t246).bind fun t247 => ((impl_FpMul.f bt242.1 t247).bind fun t248 => ((impl_FpSub.f t248 a0_1).bind fun t249 => (some (t246, t249, false)))))))) else (some (0, 0, true)))))) = some (r1, r2, r3) := h
 clear h
 by_cases c3 : a0_2 = true
 ·subst c3
  rw [if_pos rfl] at H
  simp only [Option.some.injEq, Prod.mk.injEq] at H
  obtain ⟨rfl, rfl, rfl⟩ := H
  go_enter Tryd.func98, Tryd.ntmps98
  go_wp2_with (first | ((with_reducible refine gate_dst (N := 2) rfl ?_); refine bE 2 #[.int .i64 a0_0, .int .i64 a0_1, .bool true] 23 ?_; intro gb239 hg w4 hbox hb; have BK239 := Aside0.mk (hbox); have GW239 := bG HB hg; have GE239 := bG HB hg; replace HB := bS HB hb; clear hb hbox hg) | ((with_reducible refine gate_dst (N := 3) rfl ?_); refine bE 3 #[.int .i64 a1_0, .int .i64 a1_1, .bool a1_2] 23 ?_; intro gb240 hg w5 hbox hb; have BK240 := Aside0.mk (hbox); have GW240 := bG HB hg; have GE240 := bG HB hg; replace HB := bS HB hb; have NB239_240 := bL BK239 hg; have NB240_239 := bR BK239 hg; replace BK239 := bB BK239 hb; clear hb hbox hg) | ((with_reducible refine gate_dst (N := 4) rfl ?_); refine bE 4 #[.int .i64 0, .int .i64 0, .bool false] 23 ?_; intro gb241 hg w6 hbox hb; have BK241 := Aside0.mk (hbox); have GW241 := bG HB hg; have GE241 := bG HB hg; replace HB := bS HB hb; have NB239_241 := bL BK239 hg; have NB241_239 := bR BK239 hg; replace BK239 := bB BK239 hb; have NB240_241 := bL BK240 hg; have NB241_240 := bR BK240 hg; replace BK240 := bB BK240 hb; clear hb hbox hg; have hnb7 := NB239_240.out; have hnc7 := NB240_239.out; have hnb8 := NB239_241.out; have hnc8 := NB241_239.out; obtain ⟨hcz9_0, hcz9_1, hcz9_2, hfz9_0, hfz9_1, hfz9_2⟩ := bK3 (w := w6) BK239; have hnb10 := NB240_241.out; have hnc10 := NB241_240.out; obtain ⟨hcz11_0, hcz11_1, hcz11_2, hfz11_0, hfz11_1, hfz11_2⟩ := bK3 (w := w6) BK240; obtain ⟨hcz12_0, hcz12_1, hcz12_2, hfz12_0, hfz12_1, hfz12_2⟩ := bK3 (w := w6) BK241))
  refine rC gb241 23 #[.int .i64 a1_0, .int .i64 a1_1, .bool a1_2] (bU BK241) Tryd.underlying23 ?_
  exact ⟨rR, bZ HB⟩
 ·replace c3 := Bool.eq_false_iff.mpr c3
  subst c3
  rw [if_neg (show ¬ (false = true) by decide)] at H
  by_cases c13 : a1_2 = true
  ·subst c13
   rw [if_pos rfl] at H
   simp only [Option.some.injEq, Prod.mk.injEq] at H
   obtain ⟨rfl, rfl, rfl⟩ := H
   go_enter Tryd.func98, Tryd.ntmps98
   go_wp2_with (first | ((with_reducible refine gate_dst (N := 2) rfl ?_); refine bE 2 #[.int .i64 a0_0, .int .i64 a0_1, .bool false] 23 ?_; intro gb239 hg w14 hbox hb; have BK239 := Aside0.mk (hbox); have GW239 := bG HB hg; have GE239 := bG HB hg; replace HB := bS HB hb; clear hb hbox hg) | ((with_reducible refine gate_dst (N := 3) rfl ?_); refine bE 3 #[.int .i64 a1_0, .int .i64 a1_1, .bool true] 23 ?_; intro gb240 hg w15 hbox hb; have BK240 := Aside0.mk (hbox); have GW240 := bG HB hg; have GE240 := bG HB hg; replace HB := bS HB hb; have NB239_240 := bL BK239 hg; have NB240_239 := bR BK239 hg; replace BK239 := bB BK239 hb; clear hb hbox hg) | ((with_reducible refine gate_dst (N := 4) rfl ?_); refine bE 4 #[.int .i64 0, .int .i64 0, .bool false] 23 ?_; intro gb241 hg w16 hbox hb; have BK241 := Aside0.mk (hbox); have GW241 := bG HB hg; have GE241 := bG HB hg; replace HB := bS HB hb; have NB239_241 := bL BK239 hg; have NB241_239 := bR BK239 hg; replace BK239 := bB BK239 hb; have NB240_241 := bL BK240 hg; have NB241_240 := bR BK240 hg; replace BK240 := bB BK240 hb; clear hb hbox hg; have hnb17 := NB239_240.out; have hnc17 := NB240_239.out; have hnb18 := NB239_241.out; have hnc18 := NB241_239.out; obtain ⟨hcz19_0, hcz19_1, hcz19_2, hfz19_0, hfz19_1, hfz19_2⟩ := bK3 (w := w16) BK239; have hnb20 := NB240_241.out; have hnc20 := NB241_240.out; obtain ⟨hcz21_0, hcz21_1, hcz21_2, hfz21_0, hfz21_1, hfz21_2⟩ := bK3 (w := w16) BK240; obtain ⟨hcz22_0, hcz22_1, hcz22_2, hfz22_0, hfz22_1, hfz22_2⟩ := bK3 (w := w16) BK241))
   refine rC gb241 23 #[.int .i64 a0_0, .int .i64 a0_1, .bool false] (bU BK241) Tryd.underlying23 ?_
   exact ⟨rR, bZ HB⟩
  ·replace c13 := Bool.eq_false_iff.mpr c13
   subst c13
   rw [if_neg (show ¬ (false = true) by decide)] at H
   replace H := Option.bind_eq_some_iff.mp H
   obtain ⟨⟨t242, t243⟩, A230, H⟩ := H
   have A23 := Aside0.mk A230
   clear A230
   by_cases c24 : t243 = true
   ·subst c24
    rw [if_pos rfl] at H
    replace H := Option.bind_eq_some_iff.mp H
    obtain ⟨t244, A250, H⟩ := H
    have A25 := Aside0.mk A250
    clear A250
    replace H := Option.bind_eq_some_iff.mp H
    obtain ⟨t245, A260, H⟩ := H
    have A26 := Aside0.mk A260
    clear A260
    replace H := Option.bind_eq_some_iff.mp H
    obtain ⟨t246, A270, H⟩ := H
    have A27 := Aside0.mk A270
    clear A270
    replace H := Option.bind_eq_some_iff.mp H
    obtain ⟨t247, A280, H⟩ := H
    have A28 := Aside0.mk A280
    clear A280
    replace H := Option.bind_eq_some_iff.mp H
    obtain ⟨t248, A290, H⟩ := H
    have A29 := Aside0.mk A290
    clear A290
    replace H := Option.bind_eq_some_iff.mp H
    obtain ⟨t249, A300, H⟩ := H
    have A30 := Aside0.mk A300
    clear A300
    simp only [Option.some.injEq, Prod.mk.injEq] at H
    obtain ⟨rfl, rfl, rfl⟩ := H
    go_enter Tryd.func98, Tryd.ntmps98
    try go_wp2_with (first | ((with_reducible refine gate_dst (N := 2) rfl ?_); refine bE 2 #[.int .i64 a0_0, .int .i64 a0_1, .bool false] 23 ?_; intro gb239 hg w31 hbox hb; have BK239 := Aside0.mk (hbox); have GW239 := bG HB hg; have GE239 := bG HB hg; replace HB := bS HB hb; clear hb hbox hg) | ((with_reducible refine gate_dst (N := 3) rfl ?_); refine bE 3 #[.int .i64 a1_0, .int .i64 a1_1, .bool false] 23 ?_; intro gb240 hg w32 hbox hb; have BK240 := Aside0.mk (hbox); have GW240 := bG HB hg; have GE240 := bG HB hg; replace HB := bS HB hb; have NB239_240 := bL BK239 hg; have NB240_239 := bR BK239 hg; replace BK239 := bB BK239 hb; clear hb hbox hg) | ((with_reducible refine gate_dst (N := 4) rfl ?_); refine bE 4 #[.int .i64 0, .int .i64 0, .bool false] 23 ?_; intro gb241 hg w33 hbox hb; have BK241 := Aside0.mk (hbox); have GW241 := bG HB hg; have GE241 := bG HB hg; replace HB := bS HB hb; have NB239_241 := bL BK239 hg; have NB241_239 := bR BK239 hg; replace BK239 := bB BK239 hb; have NB240_241 := bL BK240 hg; have NB241_240 := bR BK240 hg; replace BK240 := bB BK240 hb; clear hb hbox hg; have hnb34 := NB239_240.out; have hnc34 := NB240_239.out; have hnb35 := NB239_241.out; have hnc35 := NB241_239.out; obtain ⟨hcz36_0, hcz36_1, hcz36_2, hfz36_0, hfz36_1, hfz36_2⟩ := bK3 (w := w33) BK239; have hnb37 := NB240_241.out; have hnc37 := NB241_240.out; obtain ⟨hcz38_0, hcz38_1, hcz38_2, hfz38_0, hfz38_1, hfz38_2⟩ := bK3 (w := w33) BK240) | ((with_reducible refine gate_callee (f := 125) rfl ?_); refine gL (some 17) Tryd.func125 #[.agg #[.int .i64 a0_0, .int .i64 a0_1, .bool false], .agg #[.int .i64 a1_0, .int .i64 a1_1, .bool false]] ?_; (with_reducible refine (impl_slopeOf.calls k a0_0 a0_1 false a1_0 a1_1 false t242 true _ A23.out).mono ?_); rintro e w39 ⟨rfl, hb⟩; refine ⟨_, rfl, ?_⟩; replace BK239 := bB BK239 hb; replace BK240 := bB BK240 hb; replace BK241 := bB BK241 hb; replace HB := bS HB hb; (try clear hb)))
    replace BK239 := Aside0.mk (blk_drew BK239.out)
    replace BK240 := Aside0.mk (blk_drew BK240.out)
    replace BK241 := Aside0.mk (blk_drew BK241.out)
    replace HB := Aside0.mk (below_drew1 HB.out)
    refine start_ (n := 10) (S := fun w' => w'.cell? ⟨gb239, 0, none⟩ = some (.int .i64 a0_0) ∧ w'.cell? ⟨gb239, 1, none⟩ = some (.int .i64 a0_1) ∧ w'.cell? ⟨gb239, 2, none⟩ = some (.bool false) ∧ w'.cell? ⟨gb240, 0, none⟩ = some (.int .i64 a1_0) ∧ w'.cell? ⟨gb240, 1, none⟩ = some (.int .i64 a1_1) ∧ w'.cell? ⟨gb240, 2, none⟩ = some (.bool false)) (ds := []) #[false, false, false, false, false, false, false, false, false, false] (by kernel_rfl) rfl rfl ⟨bc BK239 0, bc BK239 1, bc BK239 2, bc BK240 0, bc BK240 1, bc BK240 2⟩ (fun hHeld => ?_); refine with_tabW impl_add.tab8 impl_add.bits8 (fun HT_ HW_ => ?_)
    generalize w39.drew = w40 at BK239 BK240 BK241 HB hHeld ⊢
    refine pI 0 (some 23) HT_.out ?_
    refine pI 1 (some 24) HT_.out ?_
    refine pI 3 (some 26) HT_.out ?_
    refine pI 6 (some 29) HT_.out ?_
    refine tI6 4 (some 27) HT_.out HW_.out hHeld ?_
    refine tI6 7 (some 30) HT_.out HW_.out hHeld ?_
    refine oI 2 (some 25) HT_.out (fun K hK => ?_)
    refine gO Tryd.func95 #[.int .i64 t242, .int .i64 t242] ?_
    with_reducible refine (impl_FpMul.calls t242 t242 t244 _ A25.out).mono ?_
    rintro e w' ⟨rfl, ⟨nd, rfl⟩⟩
    refine ⟨_, rfl, ?_⟩
    refine hK.out _ _ ⟨bc BK239 0, bc BK239 1, bc BK239 2, bc BK240 0, bc BK240 1, bc BK240 2⟩ (fun hHeld => ?_)
    clear hK K
    refine nO (some 25) ?_
    refine oI 5 (some 28) HT_.out (fun K hK => ?_)
    refine gO Tryd.func126 #[.int .i64 t244, .int .i64 a0_0] ?_
    with_reducible refine (impl_FpSub.calls t244 a0_0 t245 _ A26.out).mono ?_
    rintro e w' ⟨rfl, ⟨nd, rfl⟩⟩
    refine ⟨_, rfl, ?_⟩
    refine hK.out _ _ ⟨bc BK239 0, bc BK239 1, bc BK239 2, bc BK240 0, bc BK240 1, bc BK240 2⟩ (fun hHeld => ?_)
    clear hK K
    refine nO (some 28) ?_
    refine oI 8 (some 31) HT_.out (fun K hK => ?_)
    refine gO Tryd.func126 #[.int .i64 t245, .int .i64 a1_0] ?_
    with_reducible refine (impl_FpSub.calls t245 a1_0 t246 _ A27.out).mono ?_
    rintro e w' ⟨rfl, ⟨nd, rfl⟩⟩
    refine ⟨_, rfl, ?_⟩
    refine hK.out _ _ ⟨bc BK239 0, bc BK239 1, bc BK239 2, bc BK240 0, bc BK240 1, bc BK240 2⟩ (fun hHeld => ?_)
    clear hK K
    refine nO (some 31) ?_
    refine pI 9 (some 7) HT_.out ?_
    refine done_ (done_of HT_.out (by kernel_rfl)) ?_
    try go_wp2
    (try simp only [World.drewN_drewN]); (try (rw [drewN_self w40]; generalize hq_ : World.drewN w40 _ = w40; replace BK239 : Aside0 (w40.heap[gb239]? = some (.cells #[.int .i64 a0_0, .int .i64 a0_1, .bool false] 23 (0, 0))) := ⟨by rw [← hq_]; exact (bP BK239)⟩; replace BK240 : Aside0 (w40.heap[gb240]? = some (.cells #[.int .i64 a1_0, .int .i64 a1_1, .bool false] 23 (0, 0))) := ⟨by rw [← hq_]; exact (bP BK240)⟩; replace BK241 : Aside0 (w40.heap[gb241]? = some (.cells #[.int .i64 0, .int .i64 0, .bool false] 23 (0, 0))) := ⟨by rw [← hq_]; exact (bP BK241)⟩; replace HB : Aside0 (Below w.heap.size w w40) := ⟨by rw [← hq_]; exact (bZ HB)⟩; clear hq_))
    replace BK239 := Aside0.mk (blk_drew BK239.out)
    replace BK240 := Aside0.mk (blk_drew BK240.out)
    replace BK241 := Aside0.mk (blk_drew BK241.out)
    replace HB := Aside0.mk (below_drew1 HB.out)
    refine start_ (n := 12) (S := fun w' => w'.cell? ⟨gb239, 0, none⟩ = some (.int .i64 a0_0) ∧ w'.cell? ⟨gb239, 1, none⟩ = some (.int .i64 a0_1) ∧ w'.cell? ⟨gb239, 2, none⟩ = some (.bool false)) (ds := []) #[false, false, false, false, false, false, false, false, false, false, false, false] (by kernel_rfl) rfl rfl ⟨bc BK239 0, bc BK239 1, bc BK239 2⟩ (fun hHeld => ?_); refine with_tabW impl_add.tab9 impl_add.bits9 (fun HT_ HW_ => ?_)
    generalize w40.drew = w41 at BK239 BK240 BK241 HB hHeld ⊢
    refine pI 0 (some 32) HT_.out ?_
    refine pI 1 (some 33) HT_.out ?_
    refine pI 2 (some 34) HT_.out ?_
    refine pI 4 (some 36) HT_.out ?_
    refine pI 7 (some 39) HT_.out ?_
    refine tI3 3 (some 35) HT_.out HW_.out hHeld ?_
    refine tI3 8 (some 40) HT_.out HW_.out hHeld ?_
    refine oI 5 (some 37) HT_.out (fun K hK => ?_)
    refine gO Tryd.func126 #[.int .i64 a0_0, .int .i64 t246] ?_
    with_reducible refine (impl_FpSub.calls a0_0 t246 t247 _ A28.out).mono ?_
    rintro e w' ⟨rfl, ⟨nd, rfl⟩⟩
    refine ⟨_, rfl, ?_⟩
    refine hK.out _ _ ⟨bc BK239 0, bc BK239 1, bc BK239 2⟩ (fun hHeld => ?_)
    clear hK K
    refine nO (some 37) ?_
    refine oI 6 (some 38) HT_.out (fun K hK => ?_)
    refine gO Tryd.func95 #[.int .i64 t242, .int .i64 t247] ?_
    with_reducible refine (impl_FpMul.calls t242 t247 t248 _ A29.out).mono ?_
    rintro e w' ⟨rfl, ⟨nd, rfl⟩⟩
    refine ⟨_, rfl, ?_⟩
    refine hK.out _ _ ⟨bc BK239 0, bc BK239 1, bc BK239 2⟩ (fun hHeld => ?_)
    clear hK K
    refine nO (some 38) ?_
    refine oI 9 (some 41) HT_.out (fun K hK => ?_)
    refine gO Tryd.func126 #[.int .i64 t248, .int .i64 a0_1] ?_
    with_reducible refine (impl_FpSub.calls t248 a0_1 t249 _ A30.out).mono ?_
    rintro e w' ⟨rfl, ⟨nd, rfl⟩⟩
    refine ⟨_, rfl, ?_⟩
    refine hK.out _ _ ⟨bc BK239 0, bc BK239 1, bc BK239 2⟩ (fun hHeld => ?_)
    clear hK K
    refine nO (some 41) ?_
    refine pI 10 (some 42) HT_.out ?_
    refine oI 11 (none) HT_.out (fun K hK => ?_)
    have hs42 : w41.cell? ⟨gb241, 0, none⟩ = some (.int .i64 0) := bc BK241 0
    have hfs42 := blk_frozen BK241.out 0
    have hns42_0 := NB239_241.out
    have hns42_1 := NB240_241.out
    have hms42_0 := NB241_239.out
    have hms42_1 := NB241_240.out
    have hs43 : w41.cell? ⟨gb241, 1, none⟩ = some (.int .i64 0) := bc BK241 1
    have hfs43 := blk_frozen BK241.out 1
    have hns43_0 := NB239_241.out
    have hns43_1 := NB240_241.out
    have hms43_0 := NB241_239.out
    have hms43_1 := NB241_240.out
    have hs44 : w41.cell? ⟨gb241, 2, none⟩ = some (.bool false) := bc BK241 2
    have hfs44 := blk_frozen BK241.out 2
    have hns44_0 := NB239_241.out
    have hns44_1 := NB240_241.out
    have hms44_0 := NB241_239.out
    have hms44_1 := NB241_240.out
    refine skip_ (w1 := ?_) (by rfl) rfl ?_ ?_
    rotate_left
    ·go_simp
     rfl
    refine hK.out _ _ ⟨((cell_far (p := ⟨gb241, _, none⟩) NB239_241.out _).trans (((cell_far (p := ⟨gb241, _, none⟩) NB239_241.out _).trans (((cell_far (p := ⟨gb241, _, none⟩) NB239_241.out _).trans (hHeld.1)))))), ((cell_far (p := ⟨gb241, _, none⟩) NB239_241.out _).trans (((cell_far (p := ⟨gb241, _, none⟩) NB239_241.out _).trans (((cell_far (p := ⟨gb241, _, none⟩) NB239_241.out _).trans (hHeld.2.1)))))), ((cell_far (p := ⟨gb241, _, none⟩) NB239_241.out _).trans (((cell_far (p := ⟨gb241, _, none⟩) NB239_241.out _).trans (((cell_far (p := ⟨gb241, _, none⟩) NB239_241.out _).trans (hHeld.2.2))))))⟩ (fun hHeld => ?_)
    clear hK K
    refine done_ (done_of HT_.out (by kernel_rfl)) ?_
    try go_wp2
    refine rC gb241 23 #[.int .i64 t246, .int .i64 t249, .bool false] (bU BK241) Tryd.underlying23 ?_
    exact ⟨rR, bZ HB⟩
   ·replace c24 := Bool.eq_false_iff.mpr c24
    subst c24
    rw [if_neg (show ¬ (false = true) by decide)] at H
    simp only [Option.some.injEq, Prod.mk.injEq] at H
    obtain ⟨rfl, rfl, rfl⟩ := H
    go_enter Tryd.func98, Tryd.ntmps98
    go_wp2_with (first | ((with_reducible refine gate_dst (N := 2) rfl ?_); refine bE 2 #[.int .i64 a0_0, .int .i64 a0_1, .bool false] 23 ?_; intro gb239 hg w45 hbox hb; have BK239 := Aside0.mk (hbox); have GW239 := bG HB hg; have GE239 := bG HB hg; replace HB := bS HB hb; clear hb hbox hg) | ((with_reducible refine gate_dst (N := 3) rfl ?_); refine bE 3 #[.int .i64 a1_0, .int .i64 a1_1, .bool false] 23 ?_; intro gb240 hg w46 hbox hb; have BK240 := Aside0.mk (hbox); have GW240 := bG HB hg; have GE240 := bG HB hg; replace HB := bS HB hb; have NB239_240 := bL BK239 hg; have NB240_239 := bR BK239 hg; replace BK239 := bB BK239 hb; clear hb hbox hg) | ((with_reducible refine gate_dst (N := 4) rfl ?_); refine bE 4 #[.int .i64 0, .int .i64 0, .bool false] 23 ?_; intro gb241 hg w47 hbox hb; have BK241 := Aside0.mk (hbox); have GW241 := bG HB hg; have GE241 := bG HB hg; replace HB := bS HB hb; have NB239_241 := bL BK239 hg; have NB241_239 := bR BK239 hg; replace BK239 := bB BK239 hb; have NB240_241 := bL BK240 hg; have NB241_240 := bR BK240 hg; replace BK240 := bB BK240 hb; clear hb hbox hg; have hnb48 := NB239_240.out; have hnc48 := NB240_239.out; have hnb49 := NB239_241.out; have hnc49 := NB241_239.out; obtain ⟨hcz50_0, hcz50_1, hcz50_2, hfz50_0, hfz50_1, hfz50_2⟩ := bK3 (w := w47) BK239; have hnb51 := NB240_241.out; have hnc51 := NB241_240.out; obtain ⟨hcz52_0, hcz52_1, hcz52_2, hfz52_0, hfz52_1, hfz52_2⟩ := bK3 (w := w47) BK240) | ((with_reducible refine gate_callee (f := 125) rfl ?_); refine gL (some 17) Tryd.func125 #[.agg #[.int .i64 a0_0, .int .i64 a0_1, .bool false], .agg #[.int .i64 a1_0, .int .i64 a1_1, .bool false]] ?_; (with_reducible refine (impl_slopeOf.calls k a0_0 a0_1 false a1_0 a1_1 false t242 false _ A23.out).mono ?_); rintro e w53 ⟨rfl, hb⟩; refine ⟨_, rfl, ?_⟩; replace BK239 := bB BK239 hb; replace BK240 := bB BK240 hb; replace BK241 := bB BK241 hb; replace HB := bS HB hb; (try clear hb); obtain ⟨hcz54_0, hcz54_1, hcz54_2, hfz54_0, hfz54_1, hfz54_2⟩ := bK3 (w := w53) BK241))
    refine rC gb241 23 #[.int .i64 0, .int .i64 0, .bool true] (bU BK241) Tryd.underlying23 ?_
    exact ⟨rR, bZ HB⟩
/-! ### impl_PointTimes: function 51 -/
def impl_PointTimes.l0 : Nat → Int → Int → Int → Bool → Int → Int → Bool → Option (Int × Int × Bool)
 | 0, _, _, _, _, _, _, _ => none
 | k + 1, x0, x251000, x251001, x251002, x253000, x253001, x253002 => if x0 > 0 then (if (Int.tmod x0 2) = 1 then ((impl_add.f k x253000 x253001 x253002 x251000 x251001 x251002).bind fun bt255 => ((impl_add.f k x251000 x251001 x251002 x251000 x251001 x251002).bind fun bt258 => (impl_PointTimes.l0 k (wrap64 (Int.tdiv x0 2)) bt258.1 bt258.2.1 bt258.2.2 bt255.1 bt255.2.1 bt255.2.2))) else ((impl_add.f k x251000 x251001 x251002 x251000 x251001 x251002).bind fun bt261 => (impl_PointTimes.l0 k (wrap64 (Int.tdiv x0 2)) bt261.1 bt261.2.1 bt261.2.2 x253000 x253001 x253002))) else (some (x253000, x253001, x253002))
def impl_PointTimes.f (k : Nat) (a0 : Int) (a1_0 : Int) (a1_1 : Int) (a1_2 : Bool) : Option (Int × Int × Bool) := (impl_PointOk.f a1_0 a1_1 a1_2).bind fun t253 => (if t253 = true then ((impl_remainder.f a0 12108).bind fun t254 => (impl_PointTimes.l0 k t254 a1_0 a1_1 a1_2 0 0 true)) else (some (0, 0, true)))
theorem impl_PointTimes.mono_l : ∀ k, (∀ y0 y1 y2 y3 y4 y5 y6, LeO (impl_PointTimes.l0 k y0 y1 y2 y3 y4 y5 y6) (impl_PointTimes.l0 (k + 1) y0 y1 y2 y3 y4 y5 y6))
 | 0 => fun _ _ _ _ _ _ _ r h => by simp [impl_PointTimes.l0] at h
 | k + 1 => by
  have ih0 := impl_PointTimes.mono_l k
  ·intro y0 y1 y2 y3 y4 y5 y6
   unfold impl_PointTimes.l0
   repeat' first
   | (with_reducible exact ih0 _ _ _ _ _ _ _)
   | (with_reducible exact impl_add.mono _ _ _ _ _ _ _)
   | (with_reducible exact LeO.refl _)
   | (with_reducible exact LeO.none _)
   | (with_reducible refine LeO.ite ?_ ?_)
   | (with_reducible refine LeO.bind ?_ (fun _ => ?_))
   | exact ih0 _ _ _ _ _ _ _
   | exact impl_add.mono _ _ _ _ _ _ _
   | exact LeO.none _
   | refine LeO.ite ?_ ?_
   | refine LeO.bind ?_ (fun _ => ?_)
theorem impl_PointTimes.mono : ∀ a0 a1 a2 a3 k, LeO (impl_PointTimes.f k a0 a1 a2 a3) (impl_PointTimes.f (k + 1) a0 a1 a2 a3) := by
 intro a0 a1 a2 a3 k
 have ih0 := impl_PointTimes.mono_l k
 unfold impl_PointTimes.f
 repeat' first
   | (with_reducible exact ih0 _ _ _ _ _ _ _)
   | (with_reducible exact impl_add.mono _ _ _ _ _ _ _)
   | (with_reducible exact LeO.refl _)
   | (with_reducible exact LeO.none _)
   | (with_reducible refine LeO.ite ?_ ?_)
   | (with_reducible refine LeO.bind ?_ (fun _ => ?_))
   | exact ih0 _ _ _ _ _ _ _
   | exact impl_add.mono _ _ _ _ _ _ _
   | exact LeO.none _
   | refine LeO.ite ?_ ?_
   | refine LeO.bind ?_ (fun _ => ?_)
set_option maxHeartbeats 8000000 in
set_option maxRecDepth 100000 in
theorem impl_PointTimes.calls (k : Nat) (a0 : Int) (a1_0 : Int) (a1_1 : Int) (a1_2 : Bool) (r1 : Int) (r2 : Int) (r3 : Bool) (w : World) (h : impl_PointTimes.f k a0 a1_0 a1_1 a1_2 = some (r1, r2, r3)) :
  Calls Tryd.prog 51 #[.int .i64 a0, .agg #[.int .i64 a1_0, .int .i64 a1_1, .bool a1_2]] w fun e w' => e = .returned (.agg #[.int .i64 r1, .int .i64 r2, .bool r3]) ∧ Below w.heap.size w w' := by
 have hu23 := Tryd.underlying23
 have HB := Aside0.mk (Below.refl w.heap.size w)
 have H : ((impl_PointOk.f a1_0 a1_1 a1_2).bind fun t253 => (if t253 = true then ((impl_remainder.f a0 12108).bind fun t254 => (impl_PointTimes.l0 k t254 a1_0 a1_1 a1_2 0 0 true)) else (some (0, 0, true)))) = some (r1, r2, r3) := h
 clear h
 replace H := Option.bind_eq_some_iff.mp H
 obtain ⟨t253, A30, H⟩ := H
 have A3 := Aside0.mk A30
 clear A30
 by_cases c4 : t253 = true
 ·subst c4
  rw [if_pos rfl] at H
  replace H := Option.bind_eq_some_iff.mp H
  obtain ⟨t254, A50, H⟩ := H
  have A5 := Aside0.mk A50
  clear A50
  have H' := Aside0.mk H
  clear H
  go_enter Tryd.func51, Tryd.ntmps51
  go_wp2_with (first | ((with_reducible refine gate_dst (N := 3) rfl ?_); refine bE 3 #[.int .i64 a1_0, .int .i64 a1_1, .bool a1_2] 23 ?_; intro gb250 hg w6 hbox hb; have BK250 := Aside0.mk (hbox); have GW250 := bG HB hg; have GE250 := bG HB hg; replace HB := bS HB hb; clear hb hbox hg) | ((with_reducible refine gate_dst (N := 4) rfl ?_); refine bE 4 #[.int .i64 0, .int .i64 0, .bool false] 23 ?_; intro gb251 hg w7 hbox hb; have BK251 := Aside0.mk (hbox); have GW251 := bG HB hg; have GE251 := bG HB hg; replace HB := bS HB hb; have NB250_251 := bL BK250 hg; have NB251_250 := bR BK250 hg; replace BK250 := bB BK250 hb; clear hb hbox hg) | ((with_reducible refine gate_dst (N := 5) rfl ?_); refine bE 5 #[.int .i64 0, .int .i64 0, .bool false] 23 ?_; intro gb252 hg w8 hbox hb; have BK252 := Aside0.mk (hbox); have GW252 := bG HB hg; have GE252 := bG HB hg; replace HB := bS HB hb; have NB250_252 := bL BK250 hg; have NB252_250 := bR BK250 hg; replace BK250 := bB BK250 hb; have NB251_252 := bL BK251 hg; have NB252_251 := bR BK251 hg; replace BK251 := bB BK251 hb; clear hb hbox hg; have hnb9 := NB252_250.out; have hnc9 := NB250_252.out; have hnb10 := NB252_251.out; have hnc10 := NB251_252.out; obtain ⟨hcz11_0, hcz11_1, hcz11_2, hfz11_0, hfz11_1, hfz11_2⟩ := bK3 (w := w8) BK252; have hnb12 := NB250_251.out; have hnc12 := NB251_250.out; obtain ⟨hcz13_0, hcz13_1, hcz13_2, hfz13_0, hfz13_1, hfz13_2⟩ := bK3 (w := w8) BK250) | ((with_reducible refine gate_callee (f := 97) rfl ?_); refine gL (some 8) Tryd.func97 #[.agg #[.int .i64 a1_0, .int .i64 a1_1, .bool a1_2]] ?_; (with_reducible refine (impl_PointOk.calls a1_0 a1_1 a1_2 true _ A3.out).mono ?_); rintro e w14 ⟨rfl, hb⟩; refine ⟨_, rfl, ?_⟩; replace BK250 := bB BK250 hb; replace BK251 := bB BK251 hb; replace BK252 := bV 23 #[.int .i64 0, .int .i64 0, .bool true] BK252 hb; replace HB := bS HB hb; (try clear hb)) | ((with_reducible refine gate_callee (f := 76) rfl ?_); refine gL (some 12) Tryd.func76 #[.int .i64 a0, .int .i64 12108] ?_; (with_reducible refine (impl_remainder.calls a0 12108 t254 _ A5.out).mono ?_); rintro e w' ⟨rfl, ⟨nd, rfl⟩⟩; refine ⟨_, rfl, ?_⟩))
  go_loopg [0] k (fun kq v0 w' => ∃ (x0_1 : Int) (x251000_1 : Int) (x251001_1 : Int) (x251002_1 : Bool) (x253000_1 : Int) (x253001_1 : Int) (x253002_1 : Bool), v0 = .int .i64 x0_1 ∧ Aside0 (impl_PointTimes.l0 kq x0_1 x251000_1 x251001_1 x251002_1 x253000_1 x253001_1 x253002_1 = some (r1, r2, r3)) ∧ Aside0 (kq ≤ k) ∧ Aside0 (w'.heap[gb250]? = some (.cells #[.int .i64 x251000_1, .int .i64 x251001_1, .bool x251002_1] 23 (0, 0))) ∧ Aside0 (w'.heap[gb251]? = some (.cells #[.int .i64 0, .int .i64 0, .bool false] 23 (0, 0))) ∧ Aside0 (w'.heap[gb252]? = some (.cells #[.int .i64 x253000_1, .int .i64 x253001_1, .bool x253002_1] 23 (0, 0))) ∧ Aside0 (Below w.heap.size w w'))
  case atStart => exact ⟨(t254), (a1_0), (a1_1), (a1_2), (0), (0), (true), rS, H', ⟨Nat.le_refl _⟩, ⟨bP BK250⟩, ⟨bP BK251⟩, ⟨bP BK252⟩, ⟨bZ HB⟩⟩
  case round =>
   clear H'
   try clear c1
   try clear p2
   try clear c4
   try clear c5
   try clear c7
   try clear c9
   try clear c10
   try clear c12
   try clear hcz11_0
   try clear hcz11_1
   try clear hcz11_2
   try clear hcz13_0
   try clear hcz13_1
   try clear hcz13_2
   try clear hfz11_0
   try clear hfz11_1
   try clear hfz11_2
   try clear hfz13_0
   try clear hfz13_1
   try clear hfz13_2
   obtain ⟨x0_1, x251000_1, x251001_1, x251002_1, x253000_1, x253001_1, x253002_1, rfl, HA, HK1, BK250, BK251, BK252, HB⟩ := hrel
   cases gk with
   | zero => exact absurd HA.out (by simp [impl_PointTimes.l0])
   | succ k1 =>
    have H := HA.out
    clear HA
    simp only [impl_PointTimes.l0] at H
    by_cases c15 : x0_1 > 0
    ·rw [if_pos c15] at H
     have c15b0 : decide (0 < x0_1) = true := decide_eq_true c15
     clear c15
     by_cases c16 : (Int.tmod x0_1 2) = 1
     ·rw [if_pos c16] at H
      have c16b0 : ((Int.tmod x0_1 2) == 1) = true := beq_iff_eq.mpr c16
      have c16b1 : ((Int.tmod x0_1 2) != 1) = false := bne_eq_false_iff_eq.mpr c16
      clear c16
      replace H := Option.bind_eq_some_iff.mp H
      obtain ⟨⟨t255, t256, t257⟩, A170, H⟩ := H
      have A17 := Aside0.mk A170
      clear A170
      replace H := Option.bind_eq_some_iff.mp H
      obtain ⟨⟨t258, t259, t260⟩, A180, H⟩ := H
      have A18 := Aside0.mk A180
      clear A180
      have H' := Aside0.mk H
      clear H
      have hnb19 := NB252_250.out
      have hnc19 := NB250_252.out
      have hnb20 := NB252_251.out
      have hnc20 := NB251_252.out
      obtain ⟨hcz21_0, hcz21_1, hcz21_2, hfz21_0, hfz21_1, hfz21_2⟩ := bK3 (w := wr) BK252
      have hnb22 := NB250_251.out
      have hnc22 := NB251_250.out
      obtain ⟨hcz23_0, hcz23_1, hcz23_2, hfz23_0, hfz23_1, hfz23_2⟩ := bK3 (w := wr) BK250
      go_wp2_with (first | ((with_reducible refine gate_callee (f := 98) rfl ?_); refine gL (some 22) Tryd.func98 #[.agg #[.int .i64 x253000_1, .int .i64 x253001_1, .bool x253002_1], .agg #[.int .i64 x251000_1, .int .i64 x251001_1, .bool x251002_1]] ?_; (with_reducible refine (impl_add.calls k1 x253000_1 x253001_1 x253002_1 x251000_1 x251001_1 x251002_1 t255 t256 t257 _ A17.out).mono ?_); rintro e w24 ⟨rfl, hb⟩; refine ⟨_, rfl, ?_⟩; replace BK250 := bB BK250 hb; replace BK251 := bB BK251 hb; replace BK252 := bB BK252 hb; replace HB := bS HB hb; (try clear hb); obtain ⟨hcz25_0, hcz25_1, hcz25_2, hfz25_0, hfz25_1, hfz25_2⟩ := bK3 (w := w24) BK252; obtain ⟨hcz26_0, hcz26_1, hcz26_2, hfz26_0, hfz26_1, hfz26_2⟩ := bK3 (w := w24) BK250) | ((with_reducible refine gate_callee (f := 98) rfl ?_); refine gL (some 25) Tryd.func98 #[.agg #[.int .i64 x251000_1, .int .i64 x251001_1, .bool x251002_1], .agg #[.int .i64 x251000_1, .int .i64 x251001_1, .bool x251002_1]] ?_; (with_reducible refine (impl_add.calls k1 x251000_1 x251001_1 x251002_1 x251000_1 x251001_1 x251002_1 t258 t259 t260 _ A18.out).mono ?_); rintro e w27 ⟨rfl, hb⟩; refine ⟨_, rfl, ?_⟩; replace BK250 := bB BK250 hb; replace BK251 := bB BK251 hb; replace BK252 := bV 23 #[.int .i64 t255, .int .i64 t256, .bool t257] BK252 hb; replace HB := bS HB hb; (try clear hb); obtain ⟨hcz28_0, hcz28_1, hcz28_2, hfz28_0, hfz28_1, hfz28_2⟩ := bK3 (w := w27) BK250))
      go_roundg k1
      case measure => have := HK1.out; omega
      case rel => exact ⟨(wrap64 (Int.tdiv x0_1 2)), (t258), (t259), (t260), (t255), (t256), (t257), rS, H', ⟨by have := HK1.out; omega⟩, ⟨bU BK250⟩, ⟨bP BK251⟩, ⟨bP BK252⟩, ⟨bZ HB⟩⟩
     ·rw [if_neg c16] at H
      have c16b0 : ((Int.tmod x0_1 2) == 1) = false := beq_eq_false_iff_ne.mpr c16
      have c16b1 : ((Int.tmod x0_1 2) != 1) = true := bne_iff_ne.mpr c16
      replace H := Option.bind_eq_some_iff.mp H
      obtain ⟨⟨t261, t262, t263⟩, A290, H⟩ := H
      have A29 := Aside0.mk A290
      clear A290
      have H' := Aside0.mk H
      clear H
      have hnb30 := NB250_251.out
      have hnc30 := NB251_250.out
      have hnb31 := NB250_252.out
      have hnc31 := NB252_250.out
      obtain ⟨hcz32_0, hcz32_1, hcz32_2, hfz32_0, hfz32_1, hfz32_2⟩ := bK3 (w := wr) BK250
      go_wp2_with (first | ((with_reducible refine gate_callee (f := 98) rfl ?_); refine gL (some 25) Tryd.func98 #[.agg #[.int .i64 x251000_1, .int .i64 x251001_1, .bool x251002_1], .agg #[.int .i64 x251000_1, .int .i64 x251001_1, .bool x251002_1]] ?_; (with_reducible refine (impl_add.calls k1 x251000_1 x251001_1 x251002_1 x251000_1 x251001_1 x251002_1 t261 t262 t263 _ A29.out).mono ?_); rintro e w33 ⟨rfl, hb⟩; refine ⟨_, rfl, ?_⟩; replace BK250 := bB BK250 hb; replace BK251 := bB BK251 hb; replace BK252 := bB BK252 hb; replace HB := bS HB hb; (try clear hb); obtain ⟨hcz34_0, hcz34_1, hcz34_2, hfz34_0, hfz34_1, hfz34_2⟩ := bK3 (w := w33) BK250))
      go_roundg k1
      case measure => have := HK1.out; omega
      case rel => exact ⟨(wrap64 (Int.tdiv x0_1 2)), (t261), (t262), (t263), (x253000_1), (x253001_1), (x253002_1), rS, H', ⟨by have := HK1.out; omega⟩, ⟨bU BK250⟩, ⟨bP BK251⟩, ⟨bP BK252⟩, ⟨bZ HB⟩⟩
    ·rw [if_neg c15] at H
     have c15b0 : decide (0 < x0_1) = false := decide_eq_false c15
     clear c15
     simp only [Option.some.injEq, Prod.mk.injEq] at H
     obtain ⟨rfl, rfl, rfl⟩ := H
     have hnb35 := NB252_250.out
     have hnc35 := NB250_252.out
     have hnb36 := NB252_251.out
     have hnc36 := NB251_252.out
     obtain ⟨hcz37_0, hcz37_1, hcz37_2, hfz37_0, hfz37_1, hfz37_2⟩ := bK3 (w := wr) BK252
     have hnb38 := NB251_250.out
     have hnc38 := NB250_251.out
     obtain ⟨hcz39_0, hcz39_1, hcz39_2, hfz39_0, hfz39_1, hfz39_2⟩ := bK3 (w := wr) BK251
     go_wp2
     refine rC gb251 23 #[.int .i64 x253000_1, .int .i64 x253001_1, .bool x253002_1] (bU BK251) Tryd.underlying23 ?_
     exact ⟨rR, bZ HB⟩
 ·replace c4 := Bool.eq_false_iff.mpr c4
  subst c4
  rw [if_neg (show ¬ (false = true) by decide)] at H
  simp only [Option.some.injEq, Prod.mk.injEq] at H
  obtain ⟨rfl, rfl, rfl⟩ := H
  go_enter Tryd.func51, Tryd.ntmps51
  go_wp2_with (first | ((with_reducible refine gate_dst (N := 3) rfl ?_); refine bE 3 #[.int .i64 a1_0, .int .i64 a1_1, .bool a1_2] 23 ?_; intro gb250 hg w40 hbox hb; have BK250 := Aside0.mk (hbox); have GW250 := bG HB hg; have GE250 := bG HB hg; replace HB := bS HB hb; clear hb hbox hg) | ((with_reducible refine gate_dst (N := 4) rfl ?_); refine bE 4 #[.int .i64 0, .int .i64 0, .bool false] 23 ?_; intro gb251 hg w41 hbox hb; have BK251 := Aside0.mk (hbox); have GW251 := bG HB hg; have GE251 := bG HB hg; replace HB := bS HB hb; have NB250_251 := bL BK250 hg; have NB251_250 := bR BK250 hg; replace BK250 := bB BK250 hb; clear hb hbox hg) | ((with_reducible refine gate_dst (N := 5) rfl ?_); refine bE 5 #[.int .i64 0, .int .i64 0, .bool false] 23 ?_; intro gb252 hg w42 hbox hb; have BK252 := Aside0.mk (hbox); have GW252 := bG HB hg; have GE252 := bG HB hg; replace HB := bS HB hb; have NB250_252 := bL BK250 hg; have NB252_250 := bR BK250 hg; replace BK250 := bB BK250 hb; have NB251_252 := bL BK251 hg; have NB252_251 := bR BK251 hg; replace BK251 := bB BK251 hb; clear hb hbox hg; have hnb43 := NB252_250.out; have hnc43 := NB250_252.out; have hnb44 := NB252_251.out; have hnc44 := NB251_252.out; obtain ⟨hcz45_0, hcz45_1, hcz45_2, hfz45_0, hfz45_1, hfz45_2⟩ := bK3 (w := w42) BK252; have hnb46 := NB250_251.out; have hnc46 := NB251_250.out; obtain ⟨hcz47_0, hcz47_1, hcz47_2, hfz47_0, hfz47_1, hfz47_2⟩ := bK3 (w := w42) BK250) | ((with_reducible refine gate_callee (f := 97) rfl ?_); refine gL (some 8) Tryd.func97 #[.agg #[.int .i64 a1_0, .int .i64 a1_1, .bool a1_2]] ?_; (with_reducible refine (impl_PointOk.calls a1_0 a1_1 a1_2 false _ A3.out).mono ?_); rintro e w48 ⟨rfl, hb⟩; refine ⟨_, rfl, ?_⟩; replace BK250 := bB BK250 hb; replace BK251 := bB BK251 hb; replace BK252 := bV 23 #[.int .i64 0, .int .i64 0, .bool true] BK252 hb; replace HB := bS HB hb; (try clear hb); obtain ⟨hcz49_0, hcz49_1, hcz49_2, hfz49_0, hfz49_1, hfz49_2⟩ := bK3 (w := w48) BK252; obtain ⟨hcz50_0, hcz50_1, hcz50_2, hfz50_0, hfz50_1, hfz50_2⟩ := bK3 (w := w48) BK251))
  refine rC gb251 23 #[.int .i64 0, .int .i64 0, .bool true] (bU BK251) Tryd.underlying23 ?_
  exact ⟨rR, bZ HB⟩
/-! ### impl_HashPoint: function 11 -/
def impl_HashPoint.l0 : Nat → ByteArray → Int → Option (Int × Int × Bool)
 | 0, _, _ => none
 | k + 1, x0, x9 => if x9 < 64 then ((some (([(x9) % 256] : List Int) : List Int)).bind fun y269 => (if (strOfNums y269).size + x0.size ≤ 9223372036854775807 then ((impl_Digest.f ((strOfNums y269) ++ x0)).bind fun t272 => (if 0 < (t272.size : Int) then (if 1 < (t272.size : Int) then (if 2 < (t272.size : Int) then (if 3 < (t272.size : Int) then ((impl_FpOf.f (Go.bits .or .i64 (Go.bits .or .i64 (Go.bits .or .i64 (wrap64 ((wrap64 (bt t272 0)) * 16777216)) (wrap64 ((wrap64 (bt t272 1)) * 65536))) (wrap64 ((wrap64 (bt t272 2)) * 256))) (wrap64 (bt t272 3)))).bind fun t273 => ((impl_curveAt.f t273).bind fun t274 => ((impl_FpRoot.f k t274).bind fun bt275 => (if bt275.2 = true then ((impl_PointTimes.f k 12 t273 bt275.1 false).bind fun bt277 => (if bt277.2.2 = true then (impl_HashPoint.l0 k x0 (wrap64 (x9 + 1))) else (some (bt277.1, bt277.2.1, bt277.2.2)))) else (impl_HashPoint.l0 k x0 (wrap64 (x9 + 1))))))) else (none)) else (none)) else (none)) else (none))) else (none))) else ((impl_Base.f).bind fun bt266 => (some (bt266.1, bt266.2.1, bt266.2.2)))
def impl_HashPoint.f (k : Nat) (a0 : ByteArray) : Option (Int × Int × Bool) := impl_HashPoint.l0 k a0 0
theorem impl_HashPoint.mono_l : ∀ k, (∀ y0 y1, LeO (impl_HashPoint.l0 k y0 y1) (impl_HashPoint.l0 (k + 1) y0 y1))
 | 0 => fun _ _ r h => by simp [impl_HashPoint.l0] at h
 | k + 1 => by
  have ih0 := impl_HashPoint.mono_l k
  ·intro y0 y1
   unfold impl_HashPoint.l0
   repeat' first
   | (with_reducible exact ih0 _ _)
   | (with_reducible exact impl_FpRoot.mono _ _)
   | (with_reducible exact impl_PointTimes.mono _ _ _ _ _)
   | (with_reducible exact LeO.refl _)
   | (with_reducible exact LeO.none _)
   | (with_reducible refine LeO.ite ?_ ?_)
   | (with_reducible refine LeO.bind ?_ (fun _ => ?_))
   | exact ih0 _ _
   | exact impl_FpRoot.mono _ _
   | exact impl_PointTimes.mono _ _ _ _ _
   | exact LeO.none _
   | refine LeO.ite ?_ ?_
   | refine LeO.bind ?_ (fun _ => ?_)
theorem impl_HashPoint.mono : ∀ a0 k, LeO (impl_HashPoint.f k a0) (impl_HashPoint.f (k + 1) a0) := by
 intro a0 k
 have ih0 := impl_HashPoint.mono_l k
 unfold impl_HashPoint.f
 repeat' first
   | (with_reducible exact ih0 _ _)
   | (with_reducible exact impl_FpRoot.mono _ _)
   | (with_reducible exact impl_PointTimes.mono _ _ _ _ _)
   | (with_reducible exact LeO.refl _)
   | (with_reducible exact LeO.none _)
   | (with_reducible refine LeO.ite ?_ ?_)
   | (with_reducible refine LeO.bind ?_ (fun _ => ?_))
   | exact ih0 _ _
   | exact impl_FpRoot.mono _ _
   | exact impl_PointTimes.mono _ _ _ _ _
   | exact LeO.none _
   | refine LeO.ite ?_ ?_
   | refine LeO.bind ?_ (fun _ => ?_)
set_option maxHeartbeats 8000000 in
set_option maxRecDepth 100000 in
theorem impl_HashPoint.calls (k : Nat) (a0 : ByteArray) (r1 : Int) (r2 : Int) (r3 : Bool) (w : World) (hT : Kp.Tab w) (h : impl_HashPoint.f k a0 = some (r1, r2, r3)) :
  Calls Tryd.prog 11 #[.string a0] w fun e w' => e = .returned (.agg #[.int .i64 r1, .int .i64 r2, .bool r3]) ∧ Below w.heap.size w w' := by
 have HT := Aside0.mk hT
 clear hT
 have hu23 := Tryd.underlying23
 have HB := Aside0.mk (Below.refl w.heap.size w)
 have H : (impl_HashPoint.l0 k a0 0) = some (r1, r2, r3) := h
 clear h
 have H' := Aside0.mk H
 clear H
 go_enter Tryd.func11, Tryd.ntmps11
 go_wp2_with (first | ((with_reducible refine gate_dst (N := 2) rfl ?_); refine bE 2 #[.int .i64 0, .int .i64 0, .bool false] 23 ?_; intro gb265 hg w2 hbox hb; have BK265 := Aside0.mk (hbox); have GW265 := bG HB hg; have GE265 := bG HB hg; replace HB := bS HB hb; clear hb hbox hg))
 repeat (go_quiet (first | ((with_reducible refine gate_dst (N := 2) rfl ?_); refine bE 2 #[.int .i64 0, .int .i64 0, .bool false] 23 ?_; intro gb265 hg w2 hbox hb; have BK265 := Aside0.mk (hbox); have GW265 := bG HB hg; have GE265 := bG HB hg; replace HB := bS HB hb; clear hb hbox hg)); try go_wp2_with (first | ((with_reducible refine gate_dst (N := 2) rfl ?_); refine bE 2 #[.int .i64 0, .int .i64 0, .bool false] 23 ?_; intro gb265 hg w2 hbox hb; have BK265 := Aside0.mk (hbox); have GW265 := bG HB hg; have GE265 := bG HB hg; replace HB := bS HB hb; clear hb hbox hg)))
 go_loopg [9] k (fun kq v9 w' => ∃ (x9_1 : Int) (x266000_1 : Int) (x266001_1 : Int) (x266002_1 : Bool), v9 = .int .i64 x9_1 ∧ Aside0 (impl_HashPoint.l0 kq a0 x9_1 = some (r1, r2, r3)) ∧ Aside0 (kq ≤ k) ∧ Aside0 (w'.heap[gb265]? = some (.cells #[.int .i64 x266000_1, .int .i64 x266001_1, .bool x266002_1] 23 (0, 0))) ∧ Aside0 (Below w.heap.size w w'))
 case atStart => exact ⟨(0), (0), (0), (false), rS, H', ⟨Nat.le_refl _⟩, ⟨bP BK265⟩, ⟨bZ HB⟩⟩
 case round =>
  clear H'
  try clear c1
  try clear p2
  obtain ⟨x9_1, x266000_1, x266001_1, x266002_1, rfl, HA, HK1, BK265, HB⟩ := hrel
  cases gk with
  | zero => exact absurd HA.out (by simp [impl_HashPoint.l0])
  | succ k1 =>
   have H := HA.out
   clear HA
   simp only [impl_HashPoint.l0] at H
   by_cases c3 : x9_1 < 64
   ·rw [if_pos c3] at H
    have c3b0 : decide (x9_1 < 64) = true := decide_eq_true c3
    clear c3
    obtain ⟨y269, hy269⟩ : ∃ y_ : List Int, y_ = (([(x9_1) % 256] : List Int)) := ⟨_, rfl⟩
    replace H : (if (strOfNums y269).size + a0.size ≤ 9223372036854775807 then ((impl_Digest.f ((strOfNums y269) ++ a0)).bind fun t272 => (if 0 < (t272.size : Int) then (if 1 < (t272.size : Int) then (if 2 < (t272.size : Int) then (if 3 < (t272.size : Int) then ((impl_FpOf.f (Go.bits .or .i64 (Go.bits .or .i64 (Go.bits .or .i64 (wrap64 ((wrap64 (bt t272 0)) * 16777216)) (wrap64 ((wrap64 (bt t272 1)) * 65536))) (wrap64 ((wrap64 (bt t272 2)) * 256))) (wrap64 (bt t272 3)))).bind fun t273 => ((impl_curveAt.f t273).bind fun t274 => ((impl_FpRoot.f k1 t274).bind fun bt275 => (if bt275.2 = true then ((impl_PointTimes.f k1 12 t273 bt275.1 false).bind fun bt277 => (if bt277.2.2 = true then (impl_HashPoint.l0 k1 a0 (wrap64 (x9_1 + 1))) else (some (bt277.1, bt277.2.1, bt277.2.2)))) else (impl_HashPoint.l0 k1 a0 (wrap64 (x9_1 + 1))))))) else (none)) else (none)) else (none)) else (none))) else (none)) = some (r1, r2, r3) := by first | (rw [hy269]; with_reducible exact H) | (have H2_ := (Option.bind_some _ _).symm.trans H; rw [hy269]; with_reducible exact H2_) | (have H2_ := (Option.bind_some _ _).symm.trans H; with_reducible exact H2_) | with_reducible exact H | (rw [hy269]; exact H) | exact H
    have Ny269 := Aside0.mk hy269
    clear hy269
    by_cases c4 : (strOfNums y269).size + a0.size ≤ 9223372036854775807
    ·rw [if_pos c4] at H
     have c4b0 := eq_true c4
     have c4b1 : decide ((strOfNums y269).size + a0.size ≤ 9223372036854775807) = true := decide_eq_true c4
     try have c4b2 : (9223372036854775807 < (strOfNums y269).size + a0.size) = False := eq_false (Nat.not_lt.2 c4)
     try simp only [ByteArray.size_append] at c4b2
     replace H := Option.bind_eq_some_iff.mp H
     obtain ⟨t272, A50, H⟩ := H
     have A5 := Aside0.mk A50
     clear A50
     by_cases c6 : 0 < (t272.size : Int)
     ·rw [if_pos c6] at H
      have c6b0 : decide (0 < (t272.size : Int)) = true := decide_eq_true c6
      have c6b1 : decide (0 < t272.size) = true := decide_eq_true (by omega)
      clear c6
      by_cases c8 : 1 < (t272.size : Int)
      ·rw [if_pos c8] at H
       have c8b0 : decide (1 < (t272.size : Int)) = true := decide_eq_true c8
       have c8b1 : decide (1 < t272.size) = true := decide_eq_true (by omega)
       clear c8
       by_cases c10 : 2 < (t272.size : Int)
       ·rw [if_pos c10] at H
        have c10b0 : decide (2 < (t272.size : Int)) = true := decide_eq_true c10
        have c10b1 : decide (2 < t272.size) = true := decide_eq_true (by omega)
        clear c10
        by_cases c12 : 3 < (t272.size : Int)
        ·rw [if_pos c12] at H
         have c12b0 : decide (3 < (t272.size : Int)) = true := decide_eq_true c12
         have c12b1 : decide (3 < t272.size) = true := decide_eq_true (by omega)
         clear c12
         replace H := Option.bind_eq_some_iff.mp H
         obtain ⟨t273, A140, H⟩ := H
         have A14 := Aside0.mk A140
         clear A140
         replace H := Option.bind_eq_some_iff.mp H
         obtain ⟨t274, A150, H⟩ := H
         have A15 := Aside0.mk A150
         clear A150
         replace H := Option.bind_eq_some_iff.mp H
         obtain ⟨⟨t275, t276⟩, A160, H⟩ := H
         have A16 := Aside0.mk A160
         clear A160
         by_cases c17 : t276 = true
         ·subst c17
          rw [if_pos rfl] at H
          replace H := Option.bind_eq_some_iff.mp H
          obtain ⟨⟨t277, t278, t279⟩, A180, H⟩ := H
          have A18 := Aside0.mk A180
          clear A180
          by_cases c19 : t279 = true
          ·subst c19
           rw [if_pos rfl] at H
           have H' := Aside0.mk H
           clear H
           go_wp2_with (first | ((with_reducible refine gate_dst (N := 14) rfl ?_); refine Kd.R_lit (Kd.int .u8) _ 5 ?hg (N := 14) ?hd (xs := ([(x9_1) % 256] : List Int)) (inner := [.int .u8 ((x9_1) % 256)]) (ok := fun _ => True) (okp := fun _ => True) ?hr ?hp (fun _ hk => hk) trivial (Below.refl _ _) (Nat.le_refl _) (by simp) ?_; (case hd => rfl); (case hg => rfl); (case hr => first | (go_simp; done) | (go_simp; rfl)); (case hp => exact (Reps.one (show Kd.M (Kd.int .u8) _ _ _ ((x9_1) % 256) [.int .u8 ((x9_1) % 256)] from rfl) (Reps.none _ _))); intro v270 w20 ho21 hb hg_ hnew_; clear hg_ hnew_; (first | rw [← Ny269.out] at ho21 | (simp only [Int.reduceToNat] at ho21; rw [← Ny269.out] at ho21)); have HO271 := Aside0.mk (Kd.R_lower ho21 (below_size (bZ HB))); replace BK265 := bB BK265 hb; replace HB := bS HB hb; clear hb ho21; have hcv22 := own_string (P := Tryd.prog) Tryd.underlying46 Tryd.underlying5 Tryd.underlying9 (Kd.own_of_R HO271.out)) | (go_at_call 47; (with_reducible refine (impl_Digest.calls ((strOfNums y269) ++ a0) t272 _ (Kp.Tab.below HT.out (bZ HB)) A5.out).mono ?_); rintro e w23 ⟨rfl, hb⟩; replace HO271 := Aside0.mk (Kd.R_below (rP HO271) hb); replace BK265 := bB BK265 hb; replace HB := bS HB hb; (try clear hb); have p7 : 0 ≤ (0 : Int) := (by omega); have q7 : 0 < t272.size := (by have : (0 : Int) < (t272.size : Int) := of_decide_eq_true (by first | (with_reducible assumption) | assumption); omega); have hx7 : ∀ h : 0 < t272.size, ((t272[0]'h).toNat : Int) = bt t272 0 := bt_at t272 0; clear p7; have qi7 : (0 < (t272.size : Int)) = True := eq_true (of_decide_eq_true (by first | (with_reducible assumption) | assumption)); replace q7 := eq_true q7; have p9 : 0 ≤ (1 : Int) := (by omega); have q9 : 1 < t272.size := (by have : (1 : Int) < (t272.size : Int) := of_decide_eq_true (by first | (with_reducible assumption) | assumption); omega); have hx9 : ∀ h : 1 < t272.size, ((t272[1]'h).toNat : Int) = bt t272 1 := bt_at t272 1; clear p9; have qi9 : (1 < (t272.size : Int)) = True := eq_true (of_decide_eq_true (by first | (with_reducible assumption) | assumption)); replace q9 := eq_true q9; have p11 : 0 ≤ (2 : Int) := (by omega); have q11 : 2 < t272.size := (by have : (2 : Int) < (t272.size : Int) := of_decide_eq_true (by first | (with_reducible assumption) | assumption); omega); have hx11 : ∀ h : 2 < t272.size, ((t272[2]'h).toNat : Int) = bt t272 2 := bt_at t272 2; clear p11; have qi11 : (2 < (t272.size : Int)) = True := eq_true (of_decide_eq_true (by first | (with_reducible assumption) | assumption)); replace q11 := eq_true q11; have p13 : 0 ≤ (3 : Int) := (by omega); have q13 : 3 < t272.size := (by have : (3 : Int) < (t272.size : Int) := of_decide_eq_true (by first | (with_reducible assumption) | assumption); omega); have hx13 : ∀ h : 3 < t272.size, ((t272[3]'h).toNat : Int) = bt t272 3 := bt_at t272 3; clear p13; have qi13 : (3 < (t272.size : Int)) = True := eq_true (of_decide_eq_true (by first | (with_reducible assumption) | assumption)); replace q13 := eq_true q13) | (go_at_call 48; (with_reducible refine (impl_FpOf.calls (Go.bits .or .i64 (Go.bits .or .i64 (Go.bits .or .i64 (wrap64 ((wrap64 (bt t272 0)) * 16777216)) (wrap64 ((wrap64 (bt t272 1)) * 65536))) (wrap64 ((wrap64 (bt t272 2)) * 256))) (wrap64 (bt t272 3))) t273 _ A14.out).mono ?_); rintro e w' ⟨rfl, ⟨nd, rfl⟩⟩; (try exact tD)) | (go_at_call 50; (with_reducible refine (impl_curveAt.calls t273 t274 _ A15.out).mono ?_); rintro e w' ⟨rfl, ⟨nd, rfl⟩⟩; (try exact tD)) | (go_at_call 49; (with_reducible refine (impl_FpRoot.calls k1 t274 t275 true _ A16.out).mono ?_); rintro e w24 ⟨rfl, hb⟩; replace HO271 := Aside0.mk (Kd.R_below (rP HO271) hb); replace BK265 := bB BK265 hb; replace HB := bS HB hb; (try clear hb)) | (go_at_call 51; (with_reducible refine (impl_PointTimes.calls k1 12 t273 t275 false t277 t278 true _ A18.out).mono ?_); rintro e w25 ⟨rfl, hb⟩; replace HO271 := Aside0.mk (Kd.R_below (rP HO271) hb); replace BK265 := bB BK265 hb; replace HB := bS HB hb; (try clear hb)) | ((with_reducible refine gate_dst (N := 8) rfl ?_); refine bE 8 #[.int .i64 0, .int .i64 0, .bool false] 23 ?_; intro gb280 hg w26 hbox hb; replace HO271 := Aside0.mk (Kd.R_below (rP HO271) hb); have BK280 := Aside0.mk (hbox); have GW280 := bG HB hg; have GE280 := bG HB hg; replace HB := bS HB hb; have NB265_280 := bL BK265 hg; have NB280_265 := bR BK265 hg; replace BK265 := bB BK265 hb; clear hb hbox hg; have hnb27 := NB280_265.out; have hnc27 := NB265_280.out; obtain ⟨hcz28_0, hcz28_1, hcz28_2, hfz28_0, hfz28_1, hfz28_2⟩ := bK3 (w := w26) BK280))
           repeat (go_quiet (first | ((with_reducible refine gate_dst (N := 14) rfl ?_); refine Kd.R_lit (Kd.int .u8) _ 5 ?hg (N := 14) ?hd (xs := ([(x9_1) % 256] : List Int)) (inner := [.int .u8 ((x9_1) % 256)]) (ok := fun _ => True) (okp := fun _ => True) ?hr ?hp (fun _ hk => hk) trivial (Below.refl _ _) (Nat.le_refl _) (by simp) ?_; (case hd => rfl); (case hg => rfl); (case hr => first | (go_simp; done) | (go_simp; rfl)); (case hp => exact (Reps.one (show Kd.M (Kd.int .u8) _ _ _ ((x9_1) % 256) [.int .u8 ((x9_1) % 256)] from rfl) (Reps.none _ _))); intro v270 w20 ho21 hb hg_ hnew_; clear hg_ hnew_; (first | rw [← Ny269.out] at ho21 | (simp only [Int.reduceToNat] at ho21; rw [← Ny269.out] at ho21)); have HO271 := Aside0.mk (Kd.R_lower ho21 (below_size (bZ HB))); replace BK265 := bB BK265 hb; replace HB := bS HB hb; clear hb ho21; have hcv22 := own_string (P := Tryd.prog) Tryd.underlying46 Tryd.underlying5 Tryd.underlying9 (Kd.own_of_R HO271.out)) | (go_at_call 47; (with_reducible refine (impl_Digest.calls ((strOfNums y269) ++ a0) t272 _ (Kp.Tab.below HT.out (bZ HB)) A5.out).mono ?_); rintro e w23 ⟨rfl, hb⟩; replace HO271 := Aside0.mk (Kd.R_below (rP HO271) hb); replace BK265 := bB BK265 hb; replace HB := bS HB hb; (try clear hb); have p7 : 0 ≤ (0 : Int) := (by omega); have q7 : 0 < t272.size := (by have : (0 : Int) < (t272.size : Int) := of_decide_eq_true (by first | (with_reducible assumption) | assumption); omega); have hx7 : ∀ h : 0 < t272.size, ((t272[0]'h).toNat : Int) = bt t272 0 := bt_at t272 0; clear p7; have qi7 : (0 < (t272.size : Int)) = True := eq_true (of_decide_eq_true (by first | (with_reducible assumption) | assumption)); replace q7 := eq_true q7; have p9 : 0 ≤ (1 : Int) := (by omega); have q9 : 1 < t272.size := (by have : (1 : Int) < (t272.size : Int) := of_decide_eq_true (by first | (with_reducible assumption) | assumption); omega); have hx9 : ∀ h : 1 < t272.size, ((t272[1]'h).toNat : Int) = bt t272 1 := bt_at t272 1; clear p9; have qi9 : (1 < (t272.size : Int)) = True := eq_true (of_decide_eq_true (by first | (with_reducible assumption) | assumption)); replace q9 := eq_true q9; have p11 : 0 ≤ (2 : Int) := (by omega); have q11 : 2 < t272.size := (by have : (2 : Int) < (t272.size : Int) := of_decide_eq_true (by first | (with_reducible assumption) | assumption); omega); have hx11 : ∀ h : 2 < t272.size, ((t272[2]'h).toNat : Int) = bt t272 2 := bt_at t272 2; clear p11; have qi11 : (2 < (t272.size : Int)) = True := eq_true (of_decide_eq_true (by first | (with_reducible assumption) | assumption)); replace q11 := eq_true q11; have p13 : 0 ≤ (3 : Int) := (by omega); have q13 : 3 < t272.size := (by have : (3 : Int) < (t272.size : Int) := of_decide_eq_true (by first | (with_reducible assumption) | assumption); omega); have hx13 : ∀ h : 3 < t272.size, ((t272[3]'h).toNat : Int) = bt t272 3 := bt_at t272 3; clear p13; have qi13 : (3 < (t272.size : Int)) = True := eq_true (of_decide_eq_true (by first | (with_reducible assumption) | assumption)); replace q13 := eq_true q13) | (go_at_call 48; (with_reducible refine (impl_FpOf.calls (Go.bits .or .i64 (Go.bits .or .i64 (Go.bits .or .i64 (wrap64 ((wrap64 (bt t272 0)) * 16777216)) (wrap64 ((wrap64 (bt t272 1)) * 65536))) (wrap64 ((wrap64 (bt t272 2)) * 256))) (wrap64 (bt t272 3))) t273 _ A14.out).mono ?_); rintro e w' ⟨rfl, ⟨nd, rfl⟩⟩; (try exact tD)) | (go_at_call 50; (with_reducible refine (impl_curveAt.calls t273 t274 _ A15.out).mono ?_); rintro e w' ⟨rfl, ⟨nd, rfl⟩⟩; (try exact tD)) | (go_at_call 49; (with_reducible refine (impl_FpRoot.calls k1 t274 t275 true _ A16.out).mono ?_); rintro e w24 ⟨rfl, hb⟩; replace HO271 := Aside0.mk (Kd.R_below (rP HO271) hb); replace BK265 := bB BK265 hb; replace HB := bS HB hb; (try clear hb)) | (go_at_call 51; (with_reducible refine (impl_PointTimes.calls k1 12 t273 t275 false t277 t278 true _ A18.out).mono ?_); rintro e w25 ⟨rfl, hb⟩; replace HO271 := Aside0.mk (Kd.R_below (rP HO271) hb); replace BK265 := bB BK265 hb; replace HB := bS HB hb; (try clear hb)) | ((with_reducible refine gate_dst (N := 8) rfl ?_); refine bE 8 #[.int .i64 0, .int .i64 0, .bool false] 23 ?_; intro gb280 hg w26 hbox hb; replace HO271 := Aside0.mk (Kd.R_below (rP HO271) hb); have BK280 := Aside0.mk (hbox); have GW280 := bG HB hg; have GE280 := bG HB hg; replace HB := bS HB hb; have NB265_280 := bL BK265 hg; have NB280_265 := bR BK265 hg; replace BK265 := bB BK265 hb; clear hb hbox hg; have hnb27 := NB280_265.out; have hnc27 := NB265_280.out; obtain ⟨hcz28_0, hcz28_1, hcz28_2, hfz28_0, hfz28_1, hfz28_2⟩ := bK3 (w := w26) BK280)); try go_wp2_with (first | ((with_reducible refine gate_dst (N := 14) rfl ?_); refine Kd.R_lit (Kd.int .u8) _ 5 ?hg (N := 14) ?hd (xs := ([(x9_1) % 256] : List Int)) (inner := [.int .u8 ((x9_1) % 256)]) (ok := fun _ => True) (okp := fun _ => True) ?hr ?hp (fun _ hk => hk) trivial (Below.refl _ _) (Nat.le_refl _) (by simp) ?_; (case hd => rfl); (case hg => rfl); (case hr => first | (go_simp; done) | (go_simp; rfl)); (case hp => exact (Reps.one (show Kd.M (Kd.int .u8) _ _ _ ((x9_1) % 256) [.int .u8 ((x9_1) % 256)] from rfl) (Reps.none _ _))); intro v270 w20 ho21 hb hg_ hnew_; clear hg_ hnew_; (first | rw [← Ny269.out] at ho21 | (simp only [Int.reduceToNat] at ho21; rw [← Ny269.out] at ho21)); have HO271 := Aside0.mk (Kd.R_lower ho21 (below_size (bZ HB))); replace BK265 := bB BK265 hb; replace HB := bS HB hb; clear hb ho21; have hcv22 := own_string (P := Tryd.prog) Tryd.underlying46 Tryd.underlying5 Tryd.underlying9 (Kd.own_of_R HO271.out)) | (go_at_call 47; (with_reducible refine (impl_Digest.calls ((strOfNums y269) ++ a0) t272 _ (Kp.Tab.below HT.out (bZ HB)) A5.out).mono ?_); rintro e w23 ⟨rfl, hb⟩; replace HO271 := Aside0.mk (Kd.R_below (rP HO271) hb); replace BK265 := bB BK265 hb; replace HB := bS HB hb; (try clear hb); have p7 : 0 ≤ (0 : Int) := (by omega); have q7 : 0 < t272.size := (by have : (0 : Int) < (t272.size : Int) := of_decide_eq_true (by first | (with_reducible assumption) | assumption); omega); have hx7 : ∀ h : 0 < t272.size, ((t272[0]'h).toNat : Int) = bt t272 0 := bt_at t272 0; clear p7; have qi7 : (0 < (t272.size : Int)) = True := eq_true (of_decide_eq_true (by first | (with_reducible assumption) | assumption)); replace q7 := eq_true q7; have p9 : 0 ≤ (1 : Int) := (by omega); have q9 : 1 < t272.size := (by have : (1 : Int) < (t272.size : Int) := of_decide_eq_true (by first | (with_reducible assumption) | assumption); omega); have hx9 : ∀ h : 1 < t272.size, ((t272[1]'h).toNat : Int) = bt t272 1 := bt_at t272 1; clear p9; have qi9 : (1 < (t272.size : Int)) = True := eq_true (of_decide_eq_true (by first | (with_reducible assumption) | assumption)); replace q9 := eq_true q9; have p11 : 0 ≤ (2 : Int) := (by omega); have q11 : 2 < t272.size := (by have : (2 : Int) < (t272.size : Int) := of_decide_eq_true (by first | (with_reducible assumption) | assumption); omega); have hx11 : ∀ h : 2 < t272.size, ((t272[2]'h).toNat : Int) = bt t272 2 := bt_at t272 2; clear p11; have qi11 : (2 < (t272.size : Int)) = True := eq_true (of_decide_eq_true (by first | (with_reducible assumption) | assumption)); replace q11 := eq_true q11; have p13 : 0 ≤ (3 : Int) := (by omega); have q13 : 3 < t272.size := (by have : (3 : Int) < (t272.size : Int) := of_decide_eq_true (by first | (with_reducible assumption) | assumption); omega); have hx13 : ∀ h : 3 < t272.size, ((t272[3]'h).toNat : Int) = bt t272 3 := bt_at t272 3; clear p13; have qi13 : (3 < (t272.size : Int)) = True := eq_true (of_decide_eq_true (by first | (with_reducible assumption) | assumption)); replace q13 := eq_true q13) | (go_at_call 48; (with_reducible refine (impl_FpOf.calls (Go.bits .or .i64 (Go.bits .or .i64 (Go.bits .or .i64 (wrap64 ((wrap64 (bt t272 0)) * 16777216)) (wrap64 ((wrap64 (bt t272 1)) * 65536))) (wrap64 ((wrap64 (bt t272 2)) * 256))) (wrap64 (bt t272 3))) t273 _ A14.out).mono ?_); rintro e w' ⟨rfl, ⟨nd, rfl⟩⟩; (try exact tD)) | (go_at_call 50; (with_reducible refine (impl_curveAt.calls t273 t274 _ A15.out).mono ?_); rintro e w' ⟨rfl, ⟨nd, rfl⟩⟩; (try exact tD)) | (go_at_call 49; (with_reducible refine (impl_FpRoot.calls k1 t274 t275 true _ A16.out).mono ?_); rintro e w24 ⟨rfl, hb⟩; replace HO271 := Aside0.mk (Kd.R_below (rP HO271) hb); replace BK265 := bB BK265 hb; replace HB := bS HB hb; (try clear hb)) | (go_at_call 51; (with_reducible refine (impl_PointTimes.calls k1 12 t273 t275 false t277 t278 true _ A18.out).mono ?_); rintro e w25 ⟨rfl, hb⟩; replace HO271 := Aside0.mk (Kd.R_below (rP HO271) hb); replace BK265 := bB BK265 hb; replace HB := bS HB hb; (try clear hb)) | ((with_reducible refine gate_dst (N := 8) rfl ?_); refine bE 8 #[.int .i64 0, .int .i64 0, .bool false] 23 ?_; intro gb280 hg w26 hbox hb; replace HO271 := Aside0.mk (Kd.R_below (rP HO271) hb); have BK280 := Aside0.mk (hbox); have GW280 := bG HB hg; have GE280 := bG HB hg; replace HB := bS HB hb; have NB265_280 := bL BK265 hg; have NB280_265 := bR BK265 hg; replace BK265 := bB BK265 hb; clear hb hbox hg; have hnb27 := NB280_265.out; have hnc27 := NB265_280.out; obtain ⟨hcz28_0, hcz28_1, hcz28_2, hfz28_0, hfz28_1, hfz28_2⟩ := bK3 (w := w26) BK280)))
           go_roundg k1
           case measure => have := HK1.out; omega
           case rel => exact ⟨(wrap64 (x9_1 + 1)), (x266000_1), (x266001_1), (x266002_1), rS, H', ⟨by have := HK1.out; omega⟩, ⟨bP BK265⟩, ⟨bZ HB⟩⟩
          ·replace c19 := Bool.eq_false_iff.mpr c19
           subst c19
           rw [if_neg (show ¬ (false = true) by decide)] at H
           simp only [Option.some.injEq, Prod.mk.injEq] at H
           obtain ⟨rfl, rfl, rfl⟩ := H
           go_wp2_with (first | ((with_reducible refine gate_dst (N := 14) rfl ?_); refine Kd.R_lit (Kd.int .u8) _ 5 ?hg (N := 14) ?hd (xs := ([(x9_1) % 256] : List Int)) (inner := [.int .u8 ((x9_1) % 256)]) (ok := fun _ => True) (okp := fun _ => True) ?hr ?hp (fun _ hk => hk) trivial (Below.refl _ _) (Nat.le_refl _) (by simp) ?_; (case hd => rfl); (case hg => rfl); (case hr => first | (go_simp; done) | (go_simp; rfl)); (case hp => exact (Reps.one (show Kd.M (Kd.int .u8) _ _ _ ((x9_1) % 256) [.int .u8 ((x9_1) % 256)] from rfl) (Reps.none _ _))); intro v270 w29 ho30 hb hg_ hnew_; clear hg_ hnew_; (first | rw [← Ny269.out] at ho30 | (simp only [Int.reduceToNat] at ho30; rw [← Ny269.out] at ho30)); have HO271 := Aside0.mk (Kd.R_lower ho30 (below_size (bZ HB))); replace BK265 := bB BK265 hb; replace HB := bS HB hb; clear hb ho30; have hcv31 := own_string (P := Tryd.prog) Tryd.underlying46 Tryd.underlying5 Tryd.underlying9 (Kd.own_of_R HO271.out)) | (go_at_call 47; (with_reducible refine (impl_Digest.calls ((strOfNums y269) ++ a0) t272 _ (Kp.Tab.below HT.out (bZ HB)) A5.out).mono ?_); rintro e w32 ⟨rfl, hb⟩; replace HO271 := Aside0.mk (Kd.R_below (rP HO271) hb); replace BK265 := bB BK265 hb; replace HB := bS HB hb; (try clear hb); have p7 : 0 ≤ (0 : Int) := (by omega); have q7 : 0 < t272.size := (by have : (0 : Int) < (t272.size : Int) := of_decide_eq_true (by first | (with_reducible assumption) | assumption); omega); have hx7 : ∀ h : 0 < t272.size, ((t272[0]'h).toNat : Int) = bt t272 0 := bt_at t272 0; clear p7; have qi7 : (0 < (t272.size : Int)) = True := eq_true (of_decide_eq_true (by first | (with_reducible assumption) | assumption)); replace q7 := eq_true q7; have p9 : 0 ≤ (1 : Int) := (by omega); have q9 : 1 < t272.size := (by have : (1 : Int) < (t272.size : Int) := of_decide_eq_true (by first | (with_reducible assumption) | assumption); omega); have hx9 : ∀ h : 1 < t272.size, ((t272[1]'h).toNat : Int) = bt t272 1 := bt_at t272 1; clear p9; have qi9 : (1 < (t272.size : Int)) = True := eq_true (of_decide_eq_true (by first | (with_reducible assumption) | assumption)); replace q9 := eq_true q9; have p11 : 0 ≤ (2 : Int) := (by omega); have q11 : 2 < t272.size := (by have : (2 : Int) < (t272.size : Int) := of_decide_eq_true (by first | (with_reducible assumption) | assumption); omega); have hx11 : ∀ h : 2 < t272.size, ((t272[2]'h).toNat : Int) = bt t272 2 := bt_at t272 2; clear p11; have qi11 : (2 < (t272.size : Int)) = True := eq_true (of_decide_eq_true (by first | (with_reducible assumption) | assumption)); replace q11 := eq_true q11; have p13 : 0 ≤ (3 : Int) := (by omega); have q13 : 3 < t272.size := (by have : (3 : Int) < (t272.size : Int) := of_decide_eq_true (by first | (with_reducible assumption) | assumption); omega); have hx13 : ∀ h : 3 < t272.size, ((t272[3]'h).toNat : Int) = bt t272 3 := bt_at t272 3; clear p13; have qi13 : (3 < (t272.size : Int)) = True := eq_true (of_decide_eq_true (by first | (with_reducible assumption) | assumption)); replace q13 := eq_true q13) | (go_at_call 48; (with_reducible refine (impl_FpOf.calls (Go.bits .or .i64 (Go.bits .or .i64 (Go.bits .or .i64 (wrap64 ((wrap64 (bt t272 0)) * 16777216)) (wrap64 ((wrap64 (bt t272 1)) * 65536))) (wrap64 ((wrap64 (bt t272 2)) * 256))) (wrap64 (bt t272 3))) t273 _ A14.out).mono ?_); rintro e w' ⟨rfl, ⟨nd, rfl⟩⟩; (try exact tD)) | (go_at_call 50; (with_reducible refine (impl_curveAt.calls t273 t274 _ A15.out).mono ?_); rintro e w' ⟨rfl, ⟨nd, rfl⟩⟩; (try exact tD)) | (go_at_call 49; (with_reducible refine (impl_FpRoot.calls k1 t274 t275 true _ A16.out).mono ?_); rintro e w33 ⟨rfl, hb⟩; replace HO271 := Aside0.mk (Kd.R_below (rP HO271) hb); replace BK265 := bB BK265 hb; replace HB := bS HB hb; (try clear hb)) | (go_at_call 51; (with_reducible refine (impl_PointTimes.calls k1 12 t273 t275 false t277 t278 false _ A18.out).mono ?_); rintro e w34 ⟨rfl, hb⟩; replace HO271 := Aside0.mk (Kd.R_below (rP HO271) hb); replace BK265 := bB BK265 hb; replace HB := bS HB hb; (try clear hb)) | ((with_reducible refine gate_dst (N := 8) rfl ?_); refine bE 8 #[.int .i64 0, .int .i64 0, .bool false] 23 ?_; intro gb280 hg w35 hbox hb; replace HO271 := Aside0.mk (Kd.R_below (rP HO271) hb); have BK280 := Aside0.mk (hbox); have GW280 := bG HB hg; have GE280 := bG HB hg; replace HB := bS HB hb; have NB265_280 := bL BK265 hg; have NB280_265 := bR BK265 hg; replace BK265 := bB BK265 hb; clear hb hbox hg; have hnb36 := NB280_265.out; have hnc36 := NB265_280.out; obtain ⟨hcz37_0, hcz37_1, hcz37_2, hfz37_0, hfz37_1, hfz37_2⟩ := bK3 (w := w35) BK280; obtain ⟨hcz38_0, hcz38_1, hcz38_2, hfz38_0, hfz38_1, hfz38_2⟩ := bK3 (w := w35) BK265))
           repeat (go_quiet (first | ((with_reducible refine gate_dst (N := 14) rfl ?_); refine Kd.R_lit (Kd.int .u8) _ 5 ?hg (N := 14) ?hd (xs := ([(x9_1) % 256] : List Int)) (inner := [.int .u8 ((x9_1) % 256)]) (ok := fun _ => True) (okp := fun _ => True) ?hr ?hp (fun _ hk => hk) trivial (Below.refl _ _) (Nat.le_refl _) (by simp) ?_; (case hd => rfl); (case hg => rfl); (case hr => first | (go_simp; done) | (go_simp; rfl)); (case hp => exact (Reps.one (show Kd.M (Kd.int .u8) _ _ _ ((x9_1) % 256) [.int .u8 ((x9_1) % 256)] from rfl) (Reps.none _ _))); intro v270 w29 ho30 hb hg_ hnew_; clear hg_ hnew_; (first | rw [← Ny269.out] at ho30 | (simp only [Int.reduceToNat] at ho30; rw [← Ny269.out] at ho30)); have HO271 := Aside0.mk (Kd.R_lower ho30 (below_size (bZ HB))); replace BK265 := bB BK265 hb; replace HB := bS HB hb; clear hb ho30; have hcv31 := own_string (P := Tryd.prog) Tryd.underlying46 Tryd.underlying5 Tryd.underlying9 (Kd.own_of_R HO271.out)) | (go_at_call 47; (with_reducible refine (impl_Digest.calls ((strOfNums y269) ++ a0) t272 _ (Kp.Tab.below HT.out (bZ HB)) A5.out).mono ?_); rintro e w32 ⟨rfl, hb⟩; replace HO271 := Aside0.mk (Kd.R_below (rP HO271) hb); replace BK265 := bB BK265 hb; replace HB := bS HB hb; (try clear hb); have p7 : 0 ≤ (0 : Int) := (by omega); have q7 : 0 < t272.size := (by have : (0 : Int) < (t272.size : Int) := of_decide_eq_true (by first | (with_reducible assumption) | assumption); omega); have hx7 : ∀ h : 0 < t272.size, ((t272[0]'h).toNat : Int) = bt t272 0 := bt_at t272 0; clear p7; have qi7 : (0 < (t272.size : Int)) = True := eq_true (of_decide_eq_true (by first | (with_reducible assumption) | assumption)); replace q7 := eq_true q7; have p9 : 0 ≤ (1 : Int) := (by omega); have q9 : 1 < t272.size := (by have : (1 : Int) < (t272.size : Int) := of_decide_eq_true (by first | (with_reducible assumption) | assumption); omega); have hx9 : ∀ h : 1 < t272.size, ((t272[1]'h).toNat : Int) = bt t272 1 := bt_at t272 1; clear p9; have qi9 : (1 < (t272.size : Int)) = True := eq_true (of_decide_eq_true (by first | (with_reducible assumption) | assumption)); replace q9 := eq_true q9; have p11 : 0 ≤ (2 : Int) := (by omega); have q11 : 2 < t272.size := (by have : (2 : Int) < (t272.size : Int) := of_decide_eq_true (by first | (with_reducible assumption) | assumption); omega); have hx11 : ∀ h : 2 < t272.size, ((t272[2]'h).toNat : Int) = bt t272 2 := bt_at t272 2; clear p11; have qi11 : (2 < (t272.size : Int)) = True := eq_true (of_decide_eq_true (by first | (with_reducible assumption) | assumption)); replace q11 := eq_true q11; have p13 : 0 ≤ (3 : Int) := (by omega); have q13 : 3 < t272.size := (by have : (3 : Int) < (t272.size : Int) := of_decide_eq_true (by first | (with_reducible assumption) | assumption); omega); have hx13 : ∀ h : 3 < t272.size, ((t272[3]'h).toNat : Int) = bt t272 3 := bt_at t272 3; clear p13; have qi13 : (3 < (t272.size : Int)) = True := eq_true (of_decide_eq_true (by first | (with_reducible assumption) | assumption)); replace q13 := eq_true q13) | (go_at_call 48; (with_reducible refine (impl_FpOf.calls (Go.bits .or .i64 (Go.bits .or .i64 (Go.bits .or .i64 (wrap64 ((wrap64 (bt t272 0)) * 16777216)) (wrap64 ((wrap64 (bt t272 1)) * 65536))) (wrap64 ((wrap64 (bt t272 2)) * 256))) (wrap64 (bt t272 3))) t273 _ A14.out).mono ?_); rintro e w' ⟨rfl, ⟨nd, rfl⟩⟩; (try exact tD)) | (go_at_call 50; (with_reducible refine (impl_curveAt.calls t273 t274 _ A15.out).mono ?_); rintro e w' ⟨rfl, ⟨nd, rfl⟩⟩; (try exact tD)) | (go_at_call 49; (with_reducible refine (impl_FpRoot.calls k1 t274 t275 true _ A16.out).mono ?_); rintro e w33 ⟨rfl, hb⟩; replace HO271 := Aside0.mk (Kd.R_below (rP HO271) hb); replace BK265 := bB BK265 hb; replace HB := bS HB hb; (try clear hb)) | (go_at_call 51; (with_reducible refine (impl_PointTimes.calls k1 12 t273 t275 false t277 t278 false _ A18.out).mono ?_); rintro e w34 ⟨rfl, hb⟩; replace HO271 := Aside0.mk (Kd.R_below (rP HO271) hb); replace BK265 := bB BK265 hb; replace HB := bS HB hb; (try clear hb)) | ((with_reducible refine gate_dst (N := 8) rfl ?_); refine bE 8 #[.int .i64 0, .int .i64 0, .bool false] 23 ?_; intro gb280 hg w35 hbox hb; replace HO271 := Aside0.mk (Kd.R_below (rP HO271) hb); have BK280 := Aside0.mk (hbox); have GW280 := bG HB hg; have GE280 := bG HB hg; replace HB := bS HB hb; have NB265_280 := bL BK265 hg; have NB280_265 := bR BK265 hg; replace BK265 := bB BK265 hb; clear hb hbox hg; have hnb36 := NB280_265.out; have hnc36 := NB265_280.out; obtain ⟨hcz37_0, hcz37_1, hcz37_2, hfz37_0, hfz37_1, hfz37_2⟩ := bK3 (w := w35) BK280; obtain ⟨hcz38_0, hcz38_1, hcz38_2, hfz38_0, hfz38_1, hfz38_2⟩ := bK3 (w := w35) BK265)); try go_wp2_with (first | ((with_reducible refine gate_dst (N := 14) rfl ?_); refine Kd.R_lit (Kd.int .u8) _ 5 ?hg (N := 14) ?hd (xs := ([(x9_1) % 256] : List Int)) (inner := [.int .u8 ((x9_1) % 256)]) (ok := fun _ => True) (okp := fun _ => True) ?hr ?hp (fun _ hk => hk) trivial (Below.refl _ _) (Nat.le_refl _) (by simp) ?_; (case hd => rfl); (case hg => rfl); (case hr => first | (go_simp; done) | (go_simp; rfl)); (case hp => exact (Reps.one (show Kd.M (Kd.int .u8) _ _ _ ((x9_1) % 256) [.int .u8 ((x9_1) % 256)] from rfl) (Reps.none _ _))); intro v270 w29 ho30 hb hg_ hnew_; clear hg_ hnew_; (first | rw [← Ny269.out] at ho30 | (simp only [Int.reduceToNat] at ho30; rw [← Ny269.out] at ho30)); have HO271 := Aside0.mk (Kd.R_lower ho30 (below_size (bZ HB))); replace BK265 := bB BK265 hb; replace HB := bS HB hb; clear hb ho30; have hcv31 := own_string (P := Tryd.prog) Tryd.underlying46 Tryd.underlying5 Tryd.underlying9 (Kd.own_of_R HO271.out)) | (go_at_call 47; (with_reducible refine (impl_Digest.calls ((strOfNums y269) ++ a0) t272 _ (Kp.Tab.below HT.out (bZ HB)) A5.out).mono ?_); rintro e w32 ⟨rfl, hb⟩; replace HO271 := Aside0.mk (Kd.R_below (rP HO271) hb); replace BK265 := bB BK265 hb; replace HB := bS HB hb; (try clear hb); have p7 : 0 ≤ (0 : Int) := (by omega); have q7 : 0 < t272.size := (by have : (0 : Int) < (t272.size : Int) := of_decide_eq_true (by first | (with_reducible assumption) | assumption); omega); have hx7 : ∀ h : 0 < t272.size, ((t272[0]'h).toNat : Int) = bt t272 0 := bt_at t272 0; clear p7; have qi7 : (0 < (t272.size : Int)) = True := eq_true (of_decide_eq_true (by first | (with_reducible assumption) | assumption)); replace q7 := eq_true q7; have p9 : 0 ≤ (1 : Int) := (by omega); have q9 : 1 < t272.size := (by have : (1 : Int) < (t272.size : Int) := of_decide_eq_true (by first | (with_reducible assumption) | assumption); omega); have hx9 : ∀ h : 1 < t272.size, ((t272[1]'h).toNat : Int) = bt t272 1 := bt_at t272 1; clear p9; have qi9 : (1 < (t272.size : Int)) = True := eq_true (of_decide_eq_true (by first | (with_reducible assumption) | assumption)); replace q9 := eq_true q9; have p11 : 0 ≤ (2 : Int) := (by omega); have q11 : 2 < t272.size := (by have : (2 : Int) < (t272.size : Int) := of_decide_eq_true (by first | (with_reducible assumption) | assumption); omega); have hx11 : ∀ h : 2 < t272.size, ((t272[2]'h).toNat : Int) = bt t272 2 := bt_at t272 2; clear p11; have qi11 : (2 < (t272.size : Int)) = True := eq_true (of_decide_eq_true (by first | (with_reducible assumption) | assumption)); replace q11 := eq_true q11; have p13 : 0 ≤ (3 : Int) := (by omega); have q13 : 3 < t272.size := (by have : (3 : Int) < (t272.size : Int) := of_decide_eq_true (by first | (with_reducible assumption) | assumption); omega); have hx13 : ∀ h : 3 < t272.size, ((t272[3]'h).toNat : Int) = bt t272 3 := bt_at t272 3; clear p13; have qi13 : (3 < (t272.size : Int)) = True := eq_true (of_decide_eq_true (by first | (with_reducible assumption) | assumption)); replace q13 := eq_true q13) | (go_at_call 48; (with_reducible refine (impl_FpOf.calls (Go.bits .or .i64 (Go.bits .or .i64 (Go.bits .or .i64 (wrap64 ((wrap64 (bt t272 0)) * 16777216)) (wrap64 ((wrap64 (bt t272 1)) * 65536))) (wrap64 ((wrap64 (bt t272 2)) * 256))) (wrap64 (bt t272 3))) t273 _ A14.out).mono ?_); rintro e w' ⟨rfl, ⟨nd, rfl⟩⟩; (try exact tD)) | (go_at_call 50; (with_reducible refine (impl_curveAt.calls t273 t274 _ A15.out).mono ?_); rintro e w' ⟨rfl, ⟨nd, rfl⟩⟩; (try exact tD)) | (go_at_call 49; (with_reducible refine (impl_FpRoot.calls k1 t274 t275 true _ A16.out).mono ?_); rintro e w33 ⟨rfl, hb⟩; replace HO271 := Aside0.mk (Kd.R_below (rP HO271) hb); replace BK265 := bB BK265 hb; replace HB := bS HB hb; (try clear hb)) | (go_at_call 51; (with_reducible refine (impl_PointTimes.calls k1 12 t273 t275 false t277 t278 false _ A18.out).mono ?_); rintro e w34 ⟨rfl, hb⟩; replace HO271 := Aside0.mk (Kd.R_below (rP HO271) hb); replace BK265 := bB BK265 hb; replace HB := bS HB hb; (try clear hb)) | ((with_reducible refine gate_dst (N := 8) rfl ?_); refine bE 8 #[.int .i64 0, .int .i64 0, .bool false] 23 ?_; intro gb280 hg w35 hbox hb; replace HO271 := Aside0.mk (Kd.R_below (rP HO271) hb); have BK280 := Aside0.mk (hbox); have GW280 := bG HB hg; have GE280 := bG HB hg; replace HB := bS HB hb; have NB265_280 := bL BK265 hg; have NB280_265 := bR BK265 hg; replace BK265 := bB BK265 hb; clear hb hbox hg; have hnb36 := NB280_265.out; have hnc36 := NB265_280.out; obtain ⟨hcz37_0, hcz37_1, hcz37_2, hfz37_0, hfz37_1, hfz37_2⟩ := bK3 (w := w35) BK280; obtain ⟨hcz38_0, hcz38_1, hcz38_2, hfz38_0, hfz38_1, hfz38_2⟩ := bK3 (w := w35) BK265)))
           refine rC gb265 23 #[.int .i64 t277, .int .i64 t278, .bool false] (bU BK265) Tryd.underlying23 ?_
           exact ⟨rR, bZ HB⟩
         ·replace c17 := Bool.eq_false_iff.mpr c17
          subst c17
          rw [if_neg (show ¬ (false = true) by decide)] at H
          have H' := Aside0.mk H
          clear H
          go_wp2_with (first | ((with_reducible refine gate_dst (N := 14) rfl ?_); refine Kd.R_lit (Kd.int .u8) _ 5 ?hg (N := 14) ?hd (xs := ([(x9_1) % 256] : List Int)) (inner := [.int .u8 ((x9_1) % 256)]) (ok := fun _ => True) (okp := fun _ => True) ?hr ?hp (fun _ hk => hk) trivial (Below.refl _ _) (Nat.le_refl _) (by simp) ?_; (case hd => rfl); (case hg => rfl); (case hr => first | (go_simp; done) | (go_simp; rfl)); (case hp => exact (Reps.one (show Kd.M (Kd.int .u8) _ _ _ ((x9_1) % 256) [.int .u8 ((x9_1) % 256)] from rfl) (Reps.none _ _))); intro v270 w39 ho40 hb hg_ hnew_; clear hg_ hnew_; (first | rw [← Ny269.out] at ho40 | (simp only [Int.reduceToNat] at ho40; rw [← Ny269.out] at ho40)); have HO271 := Aside0.mk (Kd.R_lower ho40 (below_size (bZ HB))); replace BK265 := bB BK265 hb; replace HB := bS HB hb; clear hb ho40; have hcv41 := own_string (P := Tryd.prog) Tryd.underlying46 Tryd.underlying5 Tryd.underlying9 (Kd.own_of_R HO271.out)) | (go_at_call 47; (with_reducible refine (impl_Digest.calls ((strOfNums y269) ++ a0) t272 _ (Kp.Tab.below HT.out (bZ HB)) A5.out).mono ?_); rintro e w42 ⟨rfl, hb⟩; replace HO271 := Aside0.mk (Kd.R_below (rP HO271) hb); replace BK265 := bB BK265 hb; replace HB := bS HB hb; (try clear hb); have p7 : 0 ≤ (0 : Int) := (by omega); have q7 : 0 < t272.size := (by have : (0 : Int) < (t272.size : Int) := of_decide_eq_true (by first | (with_reducible assumption) | assumption); omega); have hx7 : ∀ h : 0 < t272.size, ((t272[0]'h).toNat : Int) = bt t272 0 := bt_at t272 0; clear p7; have qi7 : (0 < (t272.size : Int)) = True := eq_true (of_decide_eq_true (by first | (with_reducible assumption) | assumption)); replace q7 := eq_true q7; have p9 : 0 ≤ (1 : Int) := (by omega); have q9 : 1 < t272.size := (by have : (1 : Int) < (t272.size : Int) := of_decide_eq_true (by first | (with_reducible assumption) | assumption); omega); have hx9 : ∀ h : 1 < t272.size, ((t272[1]'h).toNat : Int) = bt t272 1 := bt_at t272 1; clear p9; have qi9 : (1 < (t272.size : Int)) = True := eq_true (of_decide_eq_true (by first | (with_reducible assumption) | assumption)); replace q9 := eq_true q9; have p11 : 0 ≤ (2 : Int) := (by omega); have q11 : 2 < t272.size := (by have : (2 : Int) < (t272.size : Int) := of_decide_eq_true (by first | (with_reducible assumption) | assumption); omega); have hx11 : ∀ h : 2 < t272.size, ((t272[2]'h).toNat : Int) = bt t272 2 := bt_at t272 2; clear p11; have qi11 : (2 < (t272.size : Int)) = True := eq_true (of_decide_eq_true (by first | (with_reducible assumption) | assumption)); replace q11 := eq_true q11; have p13 : 0 ≤ (3 : Int) := (by omega); have q13 : 3 < t272.size := (by have : (3 : Int) < (t272.size : Int) := of_decide_eq_true (by first | (with_reducible assumption) | assumption); omega); have hx13 : ∀ h : 3 < t272.size, ((t272[3]'h).toNat : Int) = bt t272 3 := bt_at t272 3; clear p13; have qi13 : (3 < (t272.size : Int)) = True := eq_true (of_decide_eq_true (by first | (with_reducible assumption) | assumption)); replace q13 := eq_true q13) | (go_at_call 48; (with_reducible refine (impl_FpOf.calls (Go.bits .or .i64 (Go.bits .or .i64 (Go.bits .or .i64 (wrap64 ((wrap64 (bt t272 0)) * 16777216)) (wrap64 ((wrap64 (bt t272 1)) * 65536))) (wrap64 ((wrap64 (bt t272 2)) * 256))) (wrap64 (bt t272 3))) t273 _ A14.out).mono ?_); rintro e w' ⟨rfl, ⟨nd, rfl⟩⟩; (try exact tD)) | (go_at_call 50; (with_reducible refine (impl_curveAt.calls t273 t274 _ A15.out).mono ?_); rintro e w' ⟨rfl, ⟨nd, rfl⟩⟩; (try exact tD)) | (go_at_call 49; (with_reducible refine (impl_FpRoot.calls k1 t274 t275 false _ A16.out).mono ?_); rintro e w43 ⟨rfl, hb⟩; replace HO271 := Aside0.mk (Kd.R_below (rP HO271) hb); replace BK265 := bB BK265 hb; replace HB := bS HB hb; (try clear hb)))
          repeat (go_quiet (first | ((with_reducible refine gate_dst (N := 14) rfl ?_); refine Kd.R_lit (Kd.int .u8) _ 5 ?hg (N := 14) ?hd (xs := ([(x9_1) % 256] : List Int)) (inner := [.int .u8 ((x9_1) % 256)]) (ok := fun _ => True) (okp := fun _ => True) ?hr ?hp (fun _ hk => hk) trivial (Below.refl _ _) (Nat.le_refl _) (by simp) ?_; (case hd => rfl); (case hg => rfl); (case hr => first | (go_simp; done) | (go_simp; rfl)); (case hp => exact (Reps.one (show Kd.M (Kd.int .u8) _ _ _ ((x9_1) % 256) [.int .u8 ((x9_1) % 256)] from rfl) (Reps.none _ _))); intro v270 w39 ho40 hb hg_ hnew_; clear hg_ hnew_; (first | rw [← Ny269.out] at ho40 | (simp only [Int.reduceToNat] at ho40; rw [← Ny269.out] at ho40)); have HO271 := Aside0.mk (Kd.R_lower ho40 (below_size (bZ HB))); replace BK265 := bB BK265 hb; replace HB := bS HB hb; clear hb ho40; have hcv41 := own_string (P := Tryd.prog) Tryd.underlying46 Tryd.underlying5 Tryd.underlying9 (Kd.own_of_R HO271.out)) | (go_at_call 47; (with_reducible refine (impl_Digest.calls ((strOfNums y269) ++ a0) t272 _ (Kp.Tab.below HT.out (bZ HB)) A5.out).mono ?_); rintro e w42 ⟨rfl, hb⟩; replace HO271 := Aside0.mk (Kd.R_below (rP HO271) hb); replace BK265 := bB BK265 hb; replace HB := bS HB hb; (try clear hb); have p7 : 0 ≤ (0 : Int) := (by omega); have q7 : 0 < t272.size := (by have : (0 : Int) < (t272.size : Int) := of_decide_eq_true (by first | (with_reducible assumption) | assumption); omega); have hx7 : ∀ h : 0 < t272.size, ((t272[0]'h).toNat : Int) = bt t272 0 := bt_at t272 0; clear p7; have qi7 : (0 < (t272.size : Int)) = True := eq_true (of_decide_eq_true (by first | (with_reducible assumption) | assumption)); replace q7 := eq_true q7; have p9 : 0 ≤ (1 : Int) := (by omega); have q9 : 1 < t272.size := (by have : (1 : Int) < (t272.size : Int) := of_decide_eq_true (by first | (with_reducible assumption) | assumption); omega); have hx9 : ∀ h : 1 < t272.size, ((t272[1]'h).toNat : Int) = bt t272 1 := bt_at t272 1; clear p9; have qi9 : (1 < (t272.size : Int)) = True := eq_true (of_decide_eq_true (by first | (with_reducible assumption) | assumption)); replace q9 := eq_true q9; have p11 : 0 ≤ (2 : Int) := (by omega); have q11 : 2 < t272.size := (by have : (2 : Int) < (t272.size : Int) := of_decide_eq_true (by first | (with_reducible assumption) | assumption); omega); have hx11 : ∀ h : 2 < t272.size, ((t272[2]'h).toNat : Int) = bt t272 2 := bt_at t272 2; clear p11; have qi11 : (2 < (t272.size : Int)) = True := eq_true (of_decide_eq_true (by first | (with_reducible assumption) | assumption)); replace q11 := eq_true q11; have p13 : 0 ≤ (3 : Int) := (by omega); have q13 : 3 < t272.size := (by have : (3 : Int) < (t272.size : Int) := of_decide_eq_true (by first | (with_reducible assumption) | assumption); omega); have hx13 : ∀ h : 3 < t272.size, ((t272[3]'h).toNat : Int) = bt t272 3 := bt_at t272 3; clear p13; have qi13 : (3 < (t272.size : Int)) = True := eq_true (of_decide_eq_true (by first | (with_reducible assumption) | assumption)); replace q13 := eq_true q13) | (go_at_call 48; (with_reducible refine (impl_FpOf.calls (Go.bits .or .i64 (Go.bits .or .i64 (Go.bits .or .i64 (wrap64 ((wrap64 (bt t272 0)) * 16777216)) (wrap64 ((wrap64 (bt t272 1)) * 65536))) (wrap64 ((wrap64 (bt t272 2)) * 256))) (wrap64 (bt t272 3))) t273 _ A14.out).mono ?_); rintro e w' ⟨rfl, ⟨nd, rfl⟩⟩; (try exact tD)) | (go_at_call 50; (with_reducible refine (impl_curveAt.calls t273 t274 _ A15.out).mono ?_); rintro e w' ⟨rfl, ⟨nd, rfl⟩⟩; (try exact tD)) | (go_at_call 49; (with_reducible refine (impl_FpRoot.calls k1 t274 t275 false _ A16.out).mono ?_); rintro e w43 ⟨rfl, hb⟩; replace HO271 := Aside0.mk (Kd.R_below (rP HO271) hb); replace BK265 := bB BK265 hb; replace HB := bS HB hb; (try clear hb))); try go_wp2_with (first | ((with_reducible refine gate_dst (N := 14) rfl ?_); refine Kd.R_lit (Kd.int .u8) _ 5 ?hg (N := 14) ?hd (xs := ([(x9_1) % 256] : List Int)) (inner := [.int .u8 ((x9_1) % 256)]) (ok := fun _ => True) (okp := fun _ => True) ?hr ?hp (fun _ hk => hk) trivial (Below.refl _ _) (Nat.le_refl _) (by simp) ?_; (case hd => rfl); (case hg => rfl); (case hr => first | (go_simp; done) | (go_simp; rfl)); (case hp => exact (Reps.one (show Kd.M (Kd.int .u8) _ _ _ ((x9_1) % 256) [.int .u8 ((x9_1) % 256)] from rfl) (Reps.none _ _))); intro v270 w39 ho40 hb hg_ hnew_; clear hg_ hnew_; (first | rw [← Ny269.out] at ho40 | (simp only [Int.reduceToNat] at ho40; rw [← Ny269.out] at ho40)); have HO271 := Aside0.mk (Kd.R_lower ho40 (below_size (bZ HB))); replace BK265 := bB BK265 hb; replace HB := bS HB hb; clear hb ho40; have hcv41 := own_string (P := Tryd.prog) Tryd.underlying46 Tryd.underlying5 Tryd.underlying9 (Kd.own_of_R HO271.out)) | (go_at_call 47; (with_reducible refine (impl_Digest.calls ((strOfNums y269) ++ a0) t272 _ (Kp.Tab.below HT.out (bZ HB)) A5.out).mono ?_); rintro e w42 ⟨rfl, hb⟩; replace HO271 := Aside0.mk (Kd.R_below (rP HO271) hb); replace BK265 := bB BK265 hb; replace HB := bS HB hb; (try clear hb); have p7 : 0 ≤ (0 : Int) := (by omega); have q7 : 0 < t272.size := (by have : (0 : Int) < (t272.size : Int) := of_decide_eq_true (by first | (with_reducible assumption) | assumption); omega); have hx7 : ∀ h : 0 < t272.size, ((t272[0]'h).toNat : Int) = bt t272 0 := bt_at t272 0; clear p7; have qi7 : (0 < (t272.size : Int)) = True := eq_true (of_decide_eq_true (by first | (with_reducible assumption) | assumption)); replace q7 := eq_true q7; have p9 : 0 ≤ (1 : Int) := (by omega); have q9 : 1 < t272.size := (by have : (1 : Int) < (t272.size : Int) := of_decide_eq_true (by first | (with_reducible assumption) | assumption); omega); have hx9 : ∀ h : 1 < t272.size, ((t272[1]'h).toNat : Int) = bt t272 1 := bt_at t272 1; clear p9; have qi9 : (1 < (t272.size : Int)) = True := eq_true (of_decide_eq_true (by first | (with_reducible assumption) | assumption)); replace q9 := eq_true q9; have p11 : 0 ≤ (2 : Int) := (by omega); have q11 : 2 < t272.size := (by have : (2 : Int) < (t272.size : Int) := of_decide_eq_true (by first | (with_reducible assumption) | assumption); omega); have hx11 : ∀ h : 2 < t272.size, ((t272[2]'h).toNat : Int) = bt t272 2 := bt_at t272 2; clear p11; have qi11 : (2 < (t272.size : Int)) = True := eq_true (of_decide_eq_true (by first | (with_reducible assumption) | assumption)); replace q11 := eq_true q11; have p13 : 0 ≤ (3 : Int) := (by omega); have q13 : 3 < t272.size := (by have : (3 : Int) < (t272.size : Int) := of_decide_eq_true (by first | (with_reducible assumption) | assumption); omega); have hx13 : ∀ h : 3 < t272.size, ((t272[3]'h).toNat : Int) = bt t272 3 := bt_at t272 3; clear p13; have qi13 : (3 < (t272.size : Int)) = True := eq_true (of_decide_eq_true (by first | (with_reducible assumption) | assumption)); replace q13 := eq_true q13) | (go_at_call 48; (with_reducible refine (impl_FpOf.calls (Go.bits .or .i64 (Go.bits .or .i64 (Go.bits .or .i64 (wrap64 ((wrap64 (bt t272 0)) * 16777216)) (wrap64 ((wrap64 (bt t272 1)) * 65536))) (wrap64 ((wrap64 (bt t272 2)) * 256))) (wrap64 (bt t272 3))) t273 _ A14.out).mono ?_); rintro e w' ⟨rfl, ⟨nd, rfl⟩⟩; (try exact tD)) | (go_at_call 50; (with_reducible refine (impl_curveAt.calls t273 t274 _ A15.out).mono ?_); rintro e w' ⟨rfl, ⟨nd, rfl⟩⟩; (try exact tD)) | (go_at_call 49; (with_reducible refine (impl_FpRoot.calls k1 t274 t275 false _ A16.out).mono ?_); rintro e w43 ⟨rfl, hb⟩; replace HO271 := Aside0.mk (Kd.R_below (rP HO271) hb); replace BK265 := bB BK265 hb; replace HB := bS HB hb; (try clear hb))))
          go_roundg k1
          case measure => have := HK1.out; omega
          case rel => exact ⟨(wrap64 (x9_1 + 1)), (x266000_1), (x266001_1), (x266002_1), rS, H', ⟨by have := HK1.out; omega⟩, ⟨bP BK265⟩, ⟨bZ HB⟩⟩
        ·rw [if_neg c12] at H
         exact absurd H (by simp)
       ·rw [if_neg c10] at H
        exact absurd H (by simp)
      ·rw [if_neg c8] at H
       exact absurd H (by simp)
     ·rw [if_neg c6] at H
      exact absurd H (by simp)
    ·rw [if_neg c4] at H
     exact absurd H (by simp)
   ·rw [if_neg c3] at H
    have c3b0 : decide (x9_1 < 64) = false := decide_eq_false c3
    clear c3
    replace H := Option.bind_eq_some_iff.mp H
    obtain ⟨⟨t266, t267, t268⟩, A440, H⟩ := H
    have A44 := Aside0.mk A440
    clear A440
    simp only [Option.some.injEq, Prod.mk.injEq] at H
    obtain ⟨rfl, rfl, rfl⟩ := H
    go_wp2_with (first | (go_at_call 52; (with_reducible refine (impl_Base.calls  t266 t267 t268 _ A44.out).mono ?_); rintro e w45 ⟨rfl, hb⟩; replace BK265 := bB BK265 hb; replace HB := bS HB hb; (try clear hb); obtain ⟨hcz46_0, hcz46_1, hcz46_2, hfz46_0, hfz46_1, hfz46_2⟩ := bK3 (w := w45) BK265))
    repeat (go_quiet (first | (go_at_call 52; (with_reducible refine (impl_Base.calls  t266 t267 t268 _ A44.out).mono ?_); rintro e w45 ⟨rfl, hb⟩; replace BK265 := bB BK265 hb; replace HB := bS HB hb; (try clear hb); obtain ⟨hcz46_0, hcz46_1, hcz46_2, hfz46_0, hfz46_1, hfz46_2⟩ := bK3 (w := w45) BK265)); try go_wp2_with (first | (go_at_call 52; (with_reducible refine (impl_Base.calls  t266 t267 t268 _ A44.out).mono ?_); rintro e w45 ⟨rfl, hb⟩; replace BK265 := bB BK265 hb; replace HB := bS HB hb; (try clear hb); obtain ⟨hcz46_0, hcz46_1, hcz46_2, hfz46_0, hfz46_1, hfz46_2⟩ := bK3 (w := w45) BK265)))
    refine rC gb265 23 #[.int .i64 t266, .int .i64 t267, .bool t268] (bU BK265) Tryd.underlying23 ?_
    exact ⟨rR, bZ HB⟩
/-! ### impl_InGroup: function 67 -/
def impl_InGroup.f (k : Nat) (a0_0 : Int) (a0_1 : Int) (a0_2 : Bool) : Option (Bool) := (impl_PointOk.f a0_0 a0_1 a0_2).bind fun t450 => (if t450 = true then ((impl_PointTimes.f k 1009 a0_0 a0_1 a0_2).bind fun bt451 => (some bt451.2.2)) else (some false))
theorem impl_InGroup.mono : ∀ a0 a1 a2 k, LeO (impl_InGroup.f k a0 a1 a2) (impl_InGroup.f (k + 1) a0 a1 a2) := by
 intro a0 a1 a2 k
 unfold impl_InGroup.f
 repeat' first
   | (with_reducible exact impl_PointTimes.mono _ _ _ _ _)
   | (with_reducible exact LeO.refl _)
   | (with_reducible exact LeO.none _)
   | (with_reducible refine LeO.ite ?_ ?_)
   | (with_reducible refine LeO.bind ?_ (fun _ => ?_))
   | exact impl_PointTimes.mono _ _ _ _ _
   | exact LeO.none _
   | refine LeO.ite ?_ ?_
   | refine LeO.bind ?_ (fun _ => ?_)
set_option maxHeartbeats 8000000 in
set_option maxRecDepth 100000 in
theorem impl_InGroup.calls (k : Nat) (a0_0 : Int) (a0_1 : Int) (a0_2 : Bool) (r : Bool) (w : World) (h : impl_InGroup.f k a0_0 a0_1 a0_2 = some r) :
  Calls Tryd.prog 67 #[.agg #[.int .i64 a0_0, .int .i64 a0_1, .bool a0_2]] w fun e w' => e = .returned (.bool r) ∧ Below w.heap.size w w' := by
 have hu23 := Tryd.underlying23
 have hfd23_0 : ∀ (x0 : Int) (x1 : Int) (x2 : Bool) (w_ : World), (Instr.field 23 (.agg #[.int .i64 x0, .int .i64 x1, .bool x2]) 0).run Tryd.prog w_ = .ok (.int .i64 x0) w_ := fun _ _ _ _ => by kernel_rfl
 have hfd23_1 : ∀ (x0 : Int) (x1 : Int) (x2 : Bool) (w_ : World), (Instr.field 23 (.agg #[.int .i64 x0, .int .i64 x1, .bool x2]) 1).run Tryd.prog w_ = .ok (.int .i64 x1) w_ := fun _ _ _ _ => by kernel_rfl
 have hfd23_2 : ∀ (x0 : Int) (x1 : Int) (x2 : Bool) (w_ : World), (Instr.field 23 (.agg #[.int .i64 x0, .int .i64 x1, .bool x2]) 2).run Tryd.prog w_ = .ok (.bool x2) w_ := fun _ _ _ _ => by kernel_rfl
 have HB := Aside0.mk (Below.refl w.heap.size w)
 have H : ((impl_PointOk.f a0_0 a0_1 a0_2).bind fun t450 => (if t450 = true then ((impl_PointTimes.f k 1009 a0_0 a0_1 a0_2).bind fun bt451 => (some bt451.2.2)) else (some false))) = some r := h
 clear h
 replace H := Option.bind_eq_some_iff.mp H
 obtain ⟨t450, A20, H⟩ := H
 have A2 := Aside0.mk A20
 clear A20
 by_cases c3 : t450 = true
 ·subst c3
  rw [if_pos rfl] at H
  replace H := Option.bind_eq_some_iff.mp H
  obtain ⟨⟨t451, t452, t453⟩, A40, H⟩ := H
  have A4 := Aside0.mk A40
  clear A40
  obtain rfl := Option.some.inj H
  go_enter Tryd.func67, Tryd.ntmps67
  go_wp2_with (first | ((with_reducible refine gate_dst (N := 1) rfl ?_); refine bE 1 #[.int .i64 a0_0, .int .i64 a0_1, .bool a0_2] 23 ?_; intro gb449 hg w5 hbox hb; have BK449 := Aside0.mk (hbox); have GW449 := bG HB hg; have GE449 := bG HB hg; replace HB := bS HB hb; clear hb hbox hg; obtain ⟨hcz6_0, hcz6_1, hcz6_2, hfz6_0, hfz6_1, hfz6_2⟩ := bK3 (w := w5) BK449) | ((with_reducible refine gate_callee (f := 97) rfl ?_); refine gL (some 4) Tryd.func97 #[.agg #[.int .i64 a0_0, .int .i64 a0_1, .bool a0_2]] ?_; (with_reducible refine (impl_PointOk.calls a0_0 a0_1 a0_2 true _ A2.out).mono ?_); rintro e w7 ⟨rfl, hb⟩; refine ⟨_, rfl, ?_⟩; replace BK449 := bB BK449 hb; replace HB := bS HB hb; (try clear hb); obtain ⟨hcz8_0, hcz8_1, hcz8_2, hfz8_0, hfz8_1, hfz8_2⟩ := bK3 (w := w7) BK449) | (go_at_call 51; (with_reducible refine (impl_PointTimes.calls k 1009 a0_0 a0_1 a0_2 t451 t452 t453 _ A4.out).mono ?_); rintro e w9 ⟨rfl, hb⟩; replace BK449 := bB BK449 hb; replace HB := bS HB hb; (try clear hb)))
  go_ret
  exact ⟨rR, bZ HB⟩
 ·replace c3 := Bool.eq_false_iff.mpr c3
  subst c3
  rw [if_neg (show ¬ (false = true) by decide)] at H
  obtain rfl := Option.some.inj H
  go_enter Tryd.func67, Tryd.ntmps67
  go_wp2_with (first | ((with_reducible refine gate_dst (N := 1) rfl ?_); refine bE 1 #[.int .i64 a0_0, .int .i64 a0_1, .bool a0_2] 23 ?_; intro gb449 hg w10 hbox hb; have BK449 := Aside0.mk (hbox); have GW449 := bG HB hg; have GE449 := bG HB hg; replace HB := bS HB hb; clear hb hbox hg; obtain ⟨hcz11_0, hcz11_1, hcz11_2, hfz11_0, hfz11_1, hfz11_2⟩ := bK3 (w := w10) BK449) | ((with_reducible refine gate_callee (f := 97) rfl ?_); refine gL (some 4) Tryd.func97 #[.agg #[.int .i64 a0_0, .int .i64 a0_1, .bool a0_2]] ?_; (with_reducible refine (impl_PointOk.calls a0_0 a0_1 a0_2 false _ A2.out).mono ?_); rintro e w12 ⟨rfl, hb⟩; refine ⟨_, rfl, ?_⟩; replace BK449 := bB BK449 hb; replace HB := bS HB hb; (try clear hb)))
  go_ret
  exact ⟨rR, bZ HB⟩
end Go.Proofs.YtkdmplfldfagnaaDoor.Pf
end
