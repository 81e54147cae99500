/- What is proved here: part 3 of 5 of the proof of the given statement FnPairsKnown: the contracts of the Go functions that it reaches, the plain facts on lists and numbers, and (in the last part) the statement itself. No conditions beyond the given ones. -/
import Derived.Test.YtmbjefdkjdemhaaMFnPairsKnownwSlim
import Derived.Test.YtmbjefdkjdemhaaMFnPairsKnowna
import Derived.Test.YtmbjefdkjdemhaaMFnPairsKnownb

section
namespace Go.Proofs.Ytmbjefdkjdemhaa.Pf
open Go.RowKit Go.Proofs.YtmbjefdkjdemhaaW.PrintWords Go.Proofs.YtmbjefdkjdemhaaW.PrintLast Go.Proofs.YtmbjefdkjdemhaaW.PrintMore
attribute [local go_sem] max2_int min2_int max_two min_two max_three min_three max_four min_four   -- for this text's walks alone
set_option linter.unusedVariables false
set_option linter.unusedSimpArgs false
/-! ### spec_Miller: function 39 -/
def spec_Miller.l0 : Nat → Int → Int → Int → Bool → Int → Int → Bool → Int → Int → Int → Int → Bool → Option (Int × Int)
 | 0, _, _, _, _, _, _, _, _, _, _, _, _ => none
 | k + 1, x7, x821000, x821001, x821002, x822000, x822001, x822002, x824000, x824001, x825000, x825001, x825002 => if x7 ≥ 0 then ((spec_TwoMul.f x824000 x824001 x824000 x824001).bind fun bt825 => ((spec_PairLine.f k x825000 x825001 x825002 x825000 x825001 x825002 x822000 x822001 x822002).bind fun bt827 => ((spec_TwoMul.f bt825.1 bt825.2 bt827.1 bt827.2).bind fun bt829 => ((spec_PointAdd.f k x825000 x825001 x825002 x825000 x825001 x825002).bind fun bt831 => (if 0 ≤ (IntKind.u64.wrap (x7)) then (if ((shr .i64 1009 (IntKind.u64.wrap (x7))) % 2) = 1 then ((spec_PairLine.f k bt831.1 bt831.2.1 bt831.2.2 x821000 x821001 x821002 x822000 x822001 x822002).bind fun bt834 => ((spec_TwoMul.f bt829.1 bt829.2 bt834.1 bt834.2).bind fun bt836 => ((spec_PointAdd.f k bt831.1 bt831.2.1 bt831.2.2 x821000 x821001 x821002).bind fun bt838 => (spec_Miller.l0 k (wrap64 (x7 - 1)) x821000 x821001 x821002 x822000 x822001 x822002 bt836.1 bt836.2 bt838.1 bt838.2.1 bt838.2.2)))) else (spec_Miller.l0 k (wrap64 (x7 - 1)) x821000 x821001 x821002 x822000 x822001 x822002 bt829.1 bt829.2 bt831.1 bt831.2.1 bt831.2.2)) else (none)))))) else (some (x824000, x824001))
def spec_Miller.f (k : Nat) (a0_0 : Int) (a0_1 : Int) (a0_2 : Bool) (a1_0 : Int) (a1_1 : Int) (a1_2 : Bool) : Option (Int × Int) := spec_Miller.l0 k 8 a0_0 a0_1 a0_2 a1_0 a1_1 a1_2 1 0 a0_0 a0_1 a0_2
theorem spec_Miller.mono_l : ∀ k, (∀ y0 y1 y2 y3 y4 y5 y6 y7 y8 y9 y10 y11, LeO (spec_Miller.l0 k y0 y1 y2 y3 y4 y5 y6 y7 y8 y9 y10 y11) (spec_Miller.l0 (k + 1) y0 y1 y2 y3 y4 y5 y6 y7 y8 y9 y10 y11))
 | 0 => fun _ _ _ _ _ _ _ _ _ _ _ _ r h => by simp [spec_Miller.l0] at h
 | k + 1 => by
  have ih0 := spec_Miller.mono_l k
  ·intro y0 y1 y2 y3 y4 y5 y6 y7 y8 y9 y10 y11
   unfold spec_Miller.l0
   repeat' first
   | (with_reducible exact ih0 _ _ _ _ _ _ _ _ _ _ _ _)
   | (with_reducible exact spec_PairLine.mono _ _ _ _ _ _ _ _ _ _)
   | (with_reducible exact spec_PointAdd.mono _ _ _ _ _ _ _)
   | (with_reducible exact LeO.refl _)
   | (with_reducible exact LeO.none _)
   | (with_reducible refine LeO.ite ?_ ?_)
   | (with_reducible refine LeO.bind ?_ (fun _ => ?_))
   | exact ih0 _ _ _ _ _ _ _ _ _ _ _ _
   | exact spec_PairLine.mono _ _ _ _ _ _ _ _ _ _
   | exact spec_PointAdd.mono _ _ _ _ _ _ _
   | exact LeO.none _
   | refine LeO.ite ?_ ?_
   | refine LeO.bind ?_ (fun _ => ?_)
theorem spec_Miller.mono : ∀ a0 a1 a2 a3 a4 a5 k, LeO (spec_Miller.f k a0 a1 a2 a3 a4 a5) (spec_Miller.f (k + 1) a0 a1 a2 a3 a4 a5) := by
 intro a0 a1 a2 a3 a4 a5 k
 have ih0 := spec_Miller.mono_l k
 unfold spec_Miller.f
 repeat' first
   | (with_reducible exact ih0 _ _ _ _ _ _ _ _ _ _ _ _)
   | (with_reducible exact spec_PairLine.mono _ _ _ _ _ _ _ _ _ _)
   | (with_reducible exact spec_PointAdd.mono _ _ _ _ _ _ _)
   | (with_reducible exact LeO.refl _)
   | (with_reducible exact LeO.none _)
   | (with_reducible refine LeO.ite ?_ ?_)
   | (with_reducible refine LeO.bind ?_ (fun _ => ?_))
   | exact ih0 _ _ _ _ _ _ _ _ _ _ _ _
   | exact spec_PairLine.mono _ _ _ _ _ _ _ _ _ _
   | exact spec_PointAdd.mono _ _ _ _ _ _ _
   | exact LeO.none _
   | refine LeO.ite ?_ ?_
   | refine LeO.bind ?_ (fun _ => ?_)
def spec_Miller.T6 : Bool × List (List Nat × List Nat) := (true, [([], []), ([], []), ([0, 1], [0, 1]), ([], []), ([], []), ([], []), ([3, 4, 5, 2], [3, 4, 5]), ([2, 6, 6], [2, 6]), ([7, 7, 0, 1, 2, 3, 4, 5, 6, 7], [7])])
def spec_Miller.B6 : List Nat := [0, 0, 3, 0, 0, 0, 63, 127, 255]
theorem spec_Miller.tab6 : rtab .any (opsOf Try.f39 6) = spec_Miller.T6 := by kernel_rfl
theorem spec_Miller.bits6 : waitsOk spec_Miller.T6.2 spec_Miller.B6 = true := by kernel_rfl
set_option maxHeartbeats 8000000 in
set_option maxRecDepth 100000 in
theorem spec_Miller.calls (k : Nat) (a0_0 : Int) (a0_1 : Int) (a0_2 : Bool) (a1_0 : Int) (a1_1 : Int) (a1_2 : Bool) (r1 : Int) (r2 : Int) (w : World) (h : spec_Miller.f k a0_0 a0_1 a0_2 a1_0 a1_1 a1_2 = some (r1, r2)) :
  Calls Try.prog 39 #[.agg #[.int .i64 a0_0, .int .i64 a0_1, .bool a0_2], .agg #[.int .i64 a1_0, .int .i64 a1_1, .bool a1_2]] w fun e w' => e = .returned (.agg #[.int .i64 r1, .int .i64 r2]) ∧ Below w.heap.size w w' := by
 have hu25 := Try.underlying25
 have hu31 := Try.underlying31
 have HB := Aside0.mk (Below.refl w.heap.size w)
 have H : (spec_Miller.l0 k 8 a0_0 a0_1 a0_2 a1_0 a1_1 a1_2 1 0 a0_0 a0_1 a0_2) = some (r1, r2) := h
 clear h
 have H' := Aside0.mk H
 clear H
 go_enter Try.func39, Try.ntmps39
 go_wp2_with (first | ((with_reducible refine gate_dst (N := 2) rfl ?_); refine bE 2 #[.int .i64 a0_0, .int .i64 a0_1, .bool a0_2] 25 ?_; intro gb820 hg w3 hbox hb; have BK820 := Aside0.mk (hbox); have GW820 := bG HB hg; have GE820 := bG HB hg; replace HB := bS HB hb; clear hb hbox hg) | ((with_reducible refine gate_dst (N := 3) rfl ?_); refine bE 3 #[.int .i64 a1_0, .int .i64 a1_1, .bool a1_2] 25 ?_; intro gb821 hg w4 hbox hb; have BK821 := Aside0.mk (hbox); have GW821 := bG HB hg; have GE821 := bG HB hg; replace HB := bS HB hb; have NB820_821 := bL BK820 hg; have NB821_820 := bR BK820 hg; replace BK820 := bB BK820 hb; clear hb hbox hg) | ((with_reducible refine gate_dst (N := 4) rfl ?_); refine bE 4 #[.int .i64 0, .int .i64 0] 31 ?_; intro gb822 hg w5 hbox hb; have BK822 := Aside0.mk (hbox); have GW822 := bG HB hg; have GE822 := bG HB hg; replace HB := bS HB hb; have NB820_822 := bL BK820 hg; have NB822_820 := bR BK820 hg; replace BK820 := bB BK820 hb; have NB821_822 := bL BK821 hg; have NB822_821 := bR BK821 hg; replace BK821 := bB BK821 hb; clear hb hbox hg) | ((with_reducible refine gate_dst (N := 5) rfl ?_); refine bE 5 #[.int .i64 0, .int .i64 0] 31 ?_; intro gb823 hg w6 hbox hb; have BK823 := Aside0.mk (hbox); have GW823 := bG HB hg; have GE823 := bG HB hg; replace HB := bS HB hb; have NB820_823 := bL BK820 hg; have NB823_820 := bR BK820 hg; replace BK820 := bB BK820 hb; have NB821_823 := bL BK821 hg; have NB823_821 := bR BK821 hg; replace BK821 := bB BK821 hb; have NB822_823 := bL BK822 hg; have NB823_822 := bR BK822 hg; replace BK822 := bB BK822 hb; clear hb hbox hg; obtain ⟨hnb7, hnc7⟩ := nB NB823_820; obtain ⟨hnb8, hnc8⟩ := nB NB823_821; obtain ⟨hnb9, hnc9⟩ := nB NB823_822; obtain ⟨hcz10_0, hcz10_1, hfz10_0, hfz10_1⟩ := bK2 (w := w6) BK823; obtain ⟨hnb11, hnc11⟩ := nB NB820_821; obtain ⟨hnb12, hnc12⟩ := nB NB820_822; obtain ⟨hcz13_0, hcz13_1, hcz13_2, hfz13_0, hfz13_1, hfz13_2⟩ := bK3 (w := w6) BK820) | ((with_reducible refine gate_dst (N := 6) rfl ?_); refine bE 6 #[.int .i64 0, .int .i64 0, .bool false] 25 ?_; intro gb824 hg w14 hbox hb; have BK824 := Aside0.mk (hbox); have GW824 := bG HB hg; have GE824 := bG HB hg; replace HB := bS HB hb; have NB820_824 := bL BK820 hg; have NB824_820 := bR BK820 hg; replace BK820 := bB BK820 hb; have NB821_824 := bL BK821 hg; have NB824_821 := bR BK821 hg; replace BK821 := bB BK821 hb; have NB822_824 := bL BK822 hg; have NB824_822 := bR BK822 hg; replace BK822 := bB BK822 hb; have NB823_824 := Aside0.mk ((by rw [hg]; exact Nat.ne_of_lt (blk_lt (g := gb823) (o := .cells #[.int .i64 1, .int .i64 0] 31 (0, 0)) (bU BK823)) : gb823 ≠ gb824)); have NB824_823 := Aside0.mk ((by rw [hg]; exact Nat.ne_of_gt (blk_lt (g := gb823) (o := .cells #[.int .i64 1, .int .i64 0] 31 (0, 0)) (bU BK823)) : gb824 ≠ gb823)); replace BK823 := bV 31 #[.int .i64 1, .int .i64 0] BK823 hb; clear hb hbox hg; obtain ⟨hnb15, hnc15⟩ := nB NB824_820; obtain ⟨hnb16, hnc16⟩ := nB NB824_821; obtain ⟨hnb17, hnc17⟩ := nB NB824_822; obtain ⟨hnb18, hnc18⟩ := nB NB824_823; obtain ⟨hcz19_0, hcz19_1, hcz19_2, hfz19_0, hfz19_1, hfz19_2⟩ := bK3 (w := w14) BK824))
 go_loopg [7] k (fun kq v7 w' => ∃ (x7_1 : Int) (x824000_1 : Int) (x824001_1 : Int) (x825000_1 : Int) (x825001_1 : Int) (x825002_1 : Bool), v7 = .int .i64 x7_1 ∧ Aside0 (spec_Miller.l0 kq x7_1 a0_0 a0_1 a0_2 a1_0 a1_1 a1_2 x824000_1 x824001_1 x825000_1 x825001_1 x825002_1 = some (r1, r2)) ∧ Aside0 (kq ≤ k) ∧ Aside0 (w'.heap[gb820]? = some (.cells #[.int .i64 a0_0, .int .i64 a0_1, .bool a0_2] 25 (0, 0))) ∧ Aside0 (w'.heap[gb821]? = some (.cells #[.int .i64 a1_0, .int .i64 a1_1, .bool a1_2] 25 (0, 0))) ∧ Aside0 (w'.heap[gb822]? = some (.cells #[.int .i64 0, .int .i64 0] 31 (0, 0))) ∧ Aside0 (w'.heap[gb823]? = some (.cells #[.int .i64 x824000_1, .int .i64 x824001_1] 31 (0, 0))) ∧ Aside0 (w'.heap[gb824]? = some (.cells #[.int .i64 x825000_1, .int .i64 x825001_1, .bool x825002_1] 25 (0, 0))) ∧ Aside0 (Below w.heap.size w w'))
 case atStart => exact ⟨(8), (1), (0), (a0_0), (a0_1), (a0_2), rS, H', ⟨Nat.le_refl _⟩, ⟨bP BK820⟩, ⟨bP BK821⟩, ⟨bP BK822⟩, ⟨bP BK823⟩, ⟨bU BK824⟩, ⟨bZ HB⟩⟩
 case round =>
  clear H'
  try clear c1
  try clear p2
  try clear c3
  try clear c7
  try clear c8
  try clear c9
  try clear c11
  try clear c12
  try clear c15
  try clear c16
  try clear c17
  try clear c18
  try clear hcz10_0
  try clear hcz10_1
  try clear hcz13_0
  try clear hcz13_1
  try clear hcz13_2
  try clear hcz19_0
  try clear hcz19_1
  try clear hcz19_2
  try clear hfz10_0
  try clear hfz10_1
  try clear hfz13_0
  try clear hfz13_1
  try clear hfz13_2
  try clear hfz19_0
  try clear hfz19_1
  try clear hfz19_2
  obtain ⟨x7_1, x824000_1, x824001_1, x825000_1, x825001_1, x825002_1, rfl, HA, HK1, BK820, BK821, BK822, BK823, BK824, HB⟩ := hrel
  cases gk with
  | zero => exact absurd HA.out (by simp [spec_Miller.l0])
  | succ k1 =>
   have H := HA.out
   clear HA
   simp only [spec_Miller.l0] at H
   by_cases c20 : x7_1 ≥ 0
   ·rw [if_pos c20] at H
    have c20b0 : decide (0 ≤ x7_1) = true := decide_eq_true c20
    clear c20
    replace H := Option.bind_eq_some_iff.mp H
    obtain ⟨⟨t825, t826⟩, A210, H⟩ := H
    have A21 := Aside0.mk A210
    clear A210
    replace H := Option.bind_eq_some_iff.mp H
    obtain ⟨⟨t827, t828⟩, A220, H⟩ := H
    have A22 := Aside0.mk A220
    clear A220
    replace H := Option.bind_eq_some_iff.mp H
    obtain ⟨⟨t829, t830⟩, A230, H⟩ := H
    have A23 := Aside0.mk A230
    clear A230
    replace H := Option.bind_eq_some_iff.mp H
    obtain ⟨⟨t831, t832, t833⟩, A240, H⟩ := H
    have A24 := Aside0.mk A240
    clear A240
    obtain ⟨ji25, hji25⟩ : ∃ j_ : Int, (IntKind.u64.wrap (x7_1)) = j_ := ⟨_, rfl⟩
    replace H : (if 0 ≤ (ji25) then (if ((shr .i64 1009 (ji25)) % 2) = 1 then ((spec_PairLine.f k1 t831 t832 t833 a0_0 a0_1 a0_2 a1_0 a1_1 a1_2).bind fun bt834 => ((spec_TwoMul.f t829 t830 bt834.1 bt834.2).bind fun bt836 => ((spec_PointAdd.f k1 t831 t832 t833 a0_0 a0_1 a0_2).bind fun bt838 => (spec_Miller.l0 k1 (wrap64 (x7_1 - 1)) a0_0 a0_1 a0_2 a1_0 a1_1 a1_2 bt836.1 bt836.2 bt838.1 bt838.2.1 bt838.2.2)))) else (spec_Miller.l0 k1 (wrap64 (x7_1 - 1)) a0_0 a0_1 a0_2 a1_0 a1_1 a1_2 t829 t830 t831 t832 t833)) else (none)) = some (r1, r2) := by first | (rw [hji25] at H; exact H) | (simp only [hji25] at H ⊢; exact H)
    (try rw [hji25] at A21)
    (try rw [hji25] at A22)
    (try rw [hji25] at A23)
    (try rw [hji25] at A24)
    by_cases c26 : 0 ≤ (ji25)
    ·rw [if_pos c26] at H
     have c26b0 := eq_true c26
     have c26b1 : decide (0 ≤ (ji25)) = true := decide_eq_true c26
     clear c26
     obtain ⟨ji27, hji27⟩ : ∃ j_ : Int, (shr .i64 1009 (ji25)) = j_ := ⟨_, rfl⟩
     replace H : (if ((ji27) % 2) = 1 then ((spec_PairLine.f k1 t831 t832 t833 a0_0 a0_1 a0_2 a1_0 a1_1 a1_2).bind fun bt834 => ((spec_TwoMul.f t829 t830 bt834.1 bt834.2).bind fun bt836 => ((spec_PointAdd.f k1 t831 t832 t833 a0_0 a0_1 a0_2).bind fun bt838 => (spec_Miller.l0 k1 (wrap64 (x7_1 - 1)) a0_0 a0_1 a0_2 a1_0 a1_1 a1_2 bt836.1 bt836.2 bt838.1 bt838.2.1 bt838.2.2)))) else (spec_Miller.l0 k1 (wrap64 (x7_1 - 1)) a0_0 a0_1 a0_2 a1_0 a1_1 a1_2 t829 t830 t831 t832 t833)) = some (r1, r2) := by first | (rw [hji27] at H; exact H) | (simp only [hji27] at H ⊢; exact H)
     (try rw [hji27] at A21)
     (try rw [hji27] at A22)
     (try rw [hji27] at A23)
     (try rw [hji27] at A24)
     have hji27_ : (1009 / 2 ^ min (ji25).toNat 64) = ji27 := hji27
     have hji27z : (ji25) ≤ 64 → (1009 / 2 ^ (ji25).toNat) = ji27 := shr_small hji27
     have hji27t : ∀ m_ : Int, Int.tmod ji27 m_ = ji27 % m_ := fun m_ => Int.tmod_eq_emod_of_nonneg (by rw [← hji27_]; exact Int.ediv_nonneg (by decide) (Int.le_of_lt (Int.pow_pos (by decide))))
     by_cases c28 : ((ji27) % 2) = 1
     ·rw [if_pos c28] at H
      have c28b0 : (((ji27) % 2) == 1) = true := beq_iff_eq.mpr c28
      have c28b1 : (((ji27) % 2) != 1) = false := bne_eq_false_iff_eq.mpr c28
      clear c28
      replace H := Option.bind_eq_some_iff.mp H
      obtain ⟨⟨t834, t835⟩, A290, H⟩ := H
      have A29 := Aside0.mk A290
      clear A290
      replace H := Option.bind_eq_some_iff.mp H
      obtain ⟨⟨t836, t837⟩, A300, H⟩ := H
      have A30 := Aside0.mk A300
      clear A300
      replace H := Option.bind_eq_some_iff.mp H
      obtain ⟨⟨t838, t839, t840⟩, A310, H⟩ := H
      have A31 := Aside0.mk A310
      clear A310
      have H' := Aside0.mk H
      clear H
      try go_wp2
      replace BK820 := Aside0.mk (blk_drew BK820.out)
      replace BK821 := Aside0.mk (blk_drew BK821.out)
      replace BK822 := Aside0.mk (blk_drew BK822.out)
      replace BK823 := Aside0.mk (blk_drew BK823.out)
      replace BK824 := Aside0.mk (blk_drew BK824.out)
      replace HB := Aside0.mk (below_drew1 HB.out)
      refine start_ (n := 9) (S := fun w' => SP2 w' gb823 (.int .i64 x824000_1) (.int .i64 x824001_1) (SP3 w' gb824 (.int .i64 x825000_1) (.int .i64 x825001_1) (.bool x825002_1) (SQ3 w' gb821 (.int .i64 a1_0) (.int .i64 a1_1) (.bool a1_2)))) (ds := [8]) #[false, false, false, false, false, false, false, false, false] (by kernel_rfl) rfl rfl (bS2 BK823 (bS3 BK824 (bT3 BK821))) (fun hHeld => ?_); refine with_tabW spec_Miller.tab6 spec_Miller.bits6 (fun HT_ HW_ => ?_)
      generalize wr.drew = w32 at BK820 BK821 BK822 BK823 BK824 HB hHeld ⊢
      refine tI8 0 (some 14) HT_.out HW_.out hHeld ?_
      refine tI8 1 (some 15) HT_.out HW_.out hHeld ?_
      refine tI8 3 (some 17) HT_.out HW_.out hHeld ?_
      refine tI8 4 (some 18) HT_.out HW_.out hHeld ?_
      refine tI8 5 (some 19) HT_.out HW_.out hHeld ?_
      refine oI 2 (some 16) HT_.out (fun K hK => ?_)
      refine gO Try.func71 #[.agg #[.int .i64 x824000_1, .int .i64 x824001_1], .agg #[.int .i64 x824000_1, .int .i64 x824001_1]] ?_
      with_reducible refine (spec_TwoMul.calls x824000_1 x824001_1 x824000_1 x824001_1 t825 t826 _ A21.out).mono ?_
      rintro e w33 ⟨rfl, hb⟩
      refine ⟨_, rfl, ?_⟩
      replace BK820 := bB BK820 hb
      replace BK821 := bB BK821 hb
      replace BK822 := bB BK822 hb
      replace BK823 := bB BK823 hb
      replace BK824 := bB BK824 hb
      replace HB := bS HB hb
      (try clear hb)
      refine hK.out _ _ (bS2 BK823 (bS3 BK824 (bT3 BK821))) (fun hHeld => ?_)
      clear hK K
      refine nO (some 16) ?_
      refine oI 6 (some 20) HT_.out (fun K hK => ?_)
      refine gO Try.func23 #[.agg #[.int .i64 x825000_1, .int .i64 x825001_1, .bool x825002_1], .agg #[.int .i64 x825000_1, .int .i64 x825001_1, .bool x825002_1], .agg #[.int .i64 a1_0, .int .i64 a1_1, .bool a1_2]] ?_
      with_reducible refine (spec_PairLine.calls k1 x825000_1 x825001_1 x825002_1 x825000_1 x825001_1 x825002_1 a1_0 a1_1 a1_2 t827 t828 _ A22.out).mono ?_
      rintro e w34 ⟨rfl, hb⟩
      refine ⟨_, rfl, ?_⟩
      replace BK820 := bB BK820 hb
      replace BK821 := bB BK821 hb
      replace BK822 := bB BK822 hb
      replace BK823 := bB BK823 hb
      replace BK824 := bB BK824 hb
      replace HB := bS HB hb
      (try clear hb)
      refine hK.out _ _ (bS2 BK823 (bS3 BK824 (bT3 BK821))) (fun hHeld => ?_)
      clear hK K
      refine nO (some 20) ?_
      refine oI 7 (some 21) HT_.out (fun K hK => ?_)
      refine gO Try.func71 #[.agg #[.int .i64 t825, .int .i64 t826], .agg #[.int .i64 t827, .int .i64 t828]] ?_
      with_reducible refine (spec_TwoMul.calls t825 t826 t827 t828 t829 t830 _ A23.out).mono ?_
      rintro e w35 ⟨rfl, hb⟩
      refine ⟨_, rfl, ?_⟩
      replace BK820 := bB BK820 hb
      replace BK821 := bB BK821 hb
      replace BK822 := bB BK822 hb
      replace BK823 := bB BK823 hb
      replace BK824 := bB BK824 hb
      replace HB := bS HB hb
      (try clear hb)
      refine hK.out _ _ (bS2 BK823 (bS3 BK824 (bT3 BK821))) (fun hHeld => ?_)
      clear hK K
      refine nO (some 21) ?_
      refine last_ (i := 8) (N := none) #[true, true, true, true, true, true, true, true, true] rfl rfl (one_of HT_.out (by kernel_rfl)) (by decide) (fun K hK => ?_)
      have hs36 : w35.cell? ⟨gb823, 0, none⟩ = some (.int .i64 x824000_1) := bc BK823 0
      have hfs36 := blk_frozen BK823.out 0
      have hns36_0 := NB820_823.out
      have hns36_1 := NB821_823.out
      have hns36_2 := NB822_823.out
      have hns36_4 := NB824_823.out
      have hms36_0 := NB823_820.out
      have hms36_1 := NB823_821.out
      have hms36_2 := NB823_822.out
      have hms36_4 := NB823_824.out
      have hs37 : w35.cell? ⟨gb823, 1, none⟩ = some (.int .i64 x824001_1) := bc BK823 1
      have hfs37 := blk_frozen BK823.out 1
      have hns37_0 := NB820_823.out
      have hns37_1 := NB821_823.out
      have hns37_2 := NB822_823.out
      have hns37_4 := NB824_823.out
      have hms37_0 := NB823_820.out
      have hms37_1 := NB823_821.out
      have hms37_2 := NB823_822.out
      have hms37_4 := NB823_824.out
      refine skip_ (w1 := ?_) (by rfl) rfl ?_ ?_
      rotate_left
      ·go_simp
       rfl
      refine hK.out _ _ ?_
      clear hK K
      refine done_ (done_of HT_.out (by kernel_rfl)) ?_
      obtain ⟨hnb38, hnc38⟩ := nB NB824_820
      obtain ⟨hnb39, hnc39⟩ := nB NB824_821
      obtain ⟨hnb40, hnc40⟩ := nB NB824_822
      obtain ⟨hnb41, hnc41⟩ := nB NB824_823
      obtain ⟨hcz42_0, hcz42_1, hcz42_2, hfz42_0, hfz42_1, hfz42_2⟩ := bK3 (w := w35) BK824
      try go_wp2_with (first | ((with_reducible refine gate_callee (f := 53) rfl ?_); refine gL (some 24) Try.func53 #[.agg #[.int .i64 x825000_1, .int .i64 x825001_1, .bool x825002_1], .agg #[.int .i64 x825000_1, .int .i64 x825001_1, .bool x825002_1]] ?_; (with_reducible refine (spec_PointAdd.calls k1 x825000_1 x825001_1 x825002_1 x825000_1 x825001_1 x825002_1 t831 t832 t833 _ A24.out).mono ?_); rintro e w43 ⟨rfl, hb⟩; refine ⟨_, rfl, ?_⟩; replace BK820 := bB BK820 hb; replace BK821 := bB BK821 hb; replace BK822 := bB BK822 hb; replace BK823 := bV 31 #[.int .i64 t829, .int .i64 t830] BK823 hb; replace BK824 := bB BK824 hb; replace HB := bS HB hb; (try clear hb); obtain ⟨hcz44_0, hcz44_1, hcz44_2, hfz44_0, hfz44_1, hfz44_2⟩ := bK3 (w := w43) BK824))
      obtain ⟨w45, hW_⟩ : ∃ W_ : World, W_ = (((w43.setCell ⟨gb824, 0, none⟩ (.int .i64 t831)).setCell ⟨gb824, 1, none⟩ (.int .i64 t832)).setCell ⟨gb824, 2, none⟩ (.bool t833)) := ⟨_, rfl⟩
      replace BK820 := bW hW_ BK820
      replace BK821 := bW hW_ BK821
      replace BK822 := bW hW_ BK822
      replace BK823 := bW hW_ BK823
      replace BK824 := bX hW_ 25 #[.int .i64 t831, .int .i64 t832, .bool t833] BK824
      replace HB := zW hW_ HB
      rw [← hW_]
      clear hW_
      replace BK820 := Aside0.mk (blk_drew BK820.out)
      replace BK821 := Aside0.mk (blk_drew BK821.out)
      replace BK822 := Aside0.mk (blk_drew BK822.out)
      replace BK823 := Aside0.mk (blk_drew BK823.out)
      replace BK824 := Aside0.mk (blk_drew BK824.out)
      replace HB := Aside0.mk (below_drew1 HB.out)
      refine start_ (n := 7) (S := fun w' => SP2 w' gb823 (.int .i64 t829) (.int .i64 t830) (SP3 w' gb824 (.int .i64 t831) (.int .i64 t832) (.bool t833) (SP3 w' gb820 (.int .i64 a0_0) (.int .i64 a0_1) (.bool a0_2) (SQ3 w' gb821 (.int .i64 a1_0) (.int .i64 a1_1) (.bool a1_2))))) (ds := [6]) #[false, false, false, false, false, false, false] (by kernel_rfl) rfl rfl (bS2 BK823 (bS3 BK824 (bS3 BK820 (bT3 BK821)))) (fun hHeld => ?_)
      generalize w45.drew = w46 at BK820 BK821 BK822 BK823 BK824 HB hHeld ⊢
      refine take_ (i := 0) (N := some 30) (v := ?_) (a' := ?_) #[true, false, false, false, false, false, false] rfl rfl (by kernel_rfl) (fun _ _ _ h => h) (Or.inl ⟨by rfl, ?_⟩) hHeld ?_ ?_
      rotate_left
      ·rintro w' ⟨s0, s1, s2, s3, s4, s5, s6, s7, s8, s9, s10⟩
       go_simp
       with_reducible rfl
      rotate_left
      ·simp only [Act.put, List.setIfInBounds_toArray, List.set_cons_zero, List.set_cons_succ, i64_w, i32_w]
       rfl
      refine take_ (i := 1) (N := some 31) (v := ?_) (a' := ?_) #[true, true, false, false, false, false, false] rfl rfl (by kernel_rfl) (fun _ _ _ h => h) (Or.inl ⟨by rfl, ?_⟩) hHeld ?_ ?_
      rotate_left
      ·rintro w' ⟨s0, s1, s2, s3, s4, s5, s6, s7, s8, s9, s10⟩
       go_simp
       with_reducible rfl
      rotate_left
      ·simp only [Act.put, List.setIfInBounds_toArray, List.set_cons_zero, List.set_cons_succ, i64_w, i32_w]
       rfl
      refine take_ (i := 2) (N := some 32) (v := ?_) (a' := ?_) #[true, true, true, false, false, false, false] rfl rfl (by kernel_rfl) (fun _ _ _ h => h) (Or.inl ⟨by rfl, ?_⟩) hHeld ?_ ?_
      rotate_left
      ·rintro w' ⟨s0, s1, s2, s3, s4, s5, s6, s7, s8, s9, s10⟩
       go_simp
       with_reducible rfl
      rotate_left
      ·simp only [Act.put, List.setIfInBounds_toArray, List.set_cons_zero, List.set_cons_succ, i64_w, i32_w]
       rfl
      refine take_ (i := 3) (N := some 33) (v := ?_) (a' := ?_) #[true, true, true, true, false, false, false] rfl rfl (by kernel_rfl) (fun _ _ _ h => h) (Or.inl ⟨by rfl, ?_⟩) hHeld ?_ ?_
      rotate_left
      ·rintro w' ⟨s0, s1, s2, s3, s4, s5, s6, s7, s8, s9, s10⟩
       go_simp
       with_reducible rfl
      rotate_left
      ·simp only [Act.put, List.setIfInBounds_toArray, List.set_cons_zero, List.set_cons_succ, i64_w, i32_w]
       rfl
      refine one_ (i := 4) (N := some 34) #[true, true, true, true, true, false, false] rfl rfl (by kernel_rfl) (by decide) (fun K hK => ?_)
      refine gO Try.func23 #[.agg #[.int .i64 t831, .int .i64 t832, .bool t833], .agg #[.int .i64 a0_0, .int .i64 a0_1, .bool a0_2], .agg #[.int .i64 a1_0, .int .i64 a1_1, .bool a1_2]] ?_
      with_reducible refine (spec_PairLine.calls k1 t831 t832 t833 a0_0 a0_1 a0_2 a1_0 a1_1 a1_2 t834 t835 _ A29.out).mono ?_
      rintro e w47 ⟨rfl, hb⟩
      refine ⟨_, rfl, ?_⟩
      replace BK820 := bB BK820 hb
      replace BK821 := bB BK821 hb
      replace BK822 := bB BK822 hb
      replace BK823 := bB BK823 hb
      replace BK824 := bB BK824 hb
      replace HB := bS HB hb
      (try clear hb)
      refine hK.out _ _ (bS2 BK823 (bS3 BK824 (bS3 BK820 (bT3 BK821)))) (fun hHeld => ?_)
      clear hK K
      refine nO (some 34) ?_
      refine one_ (i := 5) (N := some 35) #[true, true, true, true, true, true, false] rfl rfl (by kernel_rfl) (by decide) (fun K hK => ?_)
      refine gO Try.func71 #[.agg #[.int .i64 t829, .int .i64 t830], .agg #[.int .i64 t834, .int .i64 t835]] ?_
      with_reducible refine (spec_TwoMul.calls t829 t830 t834 t835 t836 t837 _ A30.out).mono ?_
      rintro e w48 ⟨rfl, hb⟩
      refine ⟨_, rfl, ?_⟩
      replace BK820 := bB BK820 hb
      replace BK821 := bB BK821 hb
      replace BK822 := bB BK822 hb
      replace BK823 := bB BK823 hb
      replace BK824 := bB BK824 hb
      replace HB := bS HB hb
      (try clear hb)
      refine hK.out _ _ (bS2 BK823 (bS3 BK824 (bS3 BK820 (bT3 BK821)))) (fun hHeld => ?_)
      clear hK K
      refine nO (some 35) ?_
      refine last_ (i := 6) (N := none) #[true, true, true, true, true, true, true] rfl rfl (by kernel_rfl) (by decide) (fun K hK => ?_)
      have hs49 : w48.cell? ⟨gb823, 0, none⟩ = some (.int .i64 t829) := bc BK823 0
      have hfs49 := blk_frozen BK823.out 0
      have hns49_0 := NB820_823.out
      have hns49_1 := NB821_823.out
      have hns49_2 := NB822_823.out
      have hns49_4 := NB824_823.out
      have hms49_0 := NB823_820.out
      have hms49_1 := NB823_821.out
      have hms49_2 := NB823_822.out
      have hms49_4 := NB823_824.out
      have hs50 : w48.cell? ⟨gb823, 1, none⟩ = some (.int .i64 t830) := bc BK823 1
      have hfs50 := blk_frozen BK823.out 1
      have hns50_0 := NB820_823.out
      have hns50_1 := NB821_823.out
      have hns50_2 := NB822_823.out
      have hns50_4 := NB824_823.out
      have hms50_0 := NB823_820.out
      have hms50_1 := NB823_821.out
      have hms50_2 := NB823_822.out
      have hms50_4 := NB823_824.out
      refine skip_ (w1 := ?_) (by rfl) rfl ?_ ?_
      rotate_left
      ·go_simp
       rfl
      refine hK.out _ _ ?_
      clear hK K
      refine done_ (by kernel_rfl) ?_
      obtain ⟨hcz51_0, hcz51_1, hcz51_2, hfz51_0, hfz51_1, hfz51_2⟩ := bK3 (w := w48) BK824
      obtain ⟨hnb52, hnc52⟩ := nB NB820_821
      obtain ⟨hnb53, hnc53⟩ := nB NB820_822
      obtain ⟨hnb54, hnc54⟩ := nB NB820_823
      obtain ⟨hcz55_0, hcz55_1, hcz55_2, hfz55_0, hfz55_1, hfz55_2⟩ := bK3 (w := w48) BK820
      try go_wp2_with (first | ((with_reducible refine gate_callee (f := 53) rfl ?_); refine gL (some 38) Try.func53 #[.agg #[.int .i64 t831, .int .i64 t832, .bool t833], .agg #[.int .i64 a0_0, .int .i64 a0_1, .bool a0_2]] ?_; (with_reducible refine (spec_PointAdd.calls k1 t831 t832 t833 a0_0 a0_1 a0_2 t838 t839 t840 _ A31.out).mono ?_); rintro e w56 ⟨rfl, hb⟩; refine ⟨_, rfl, ?_⟩; replace BK820 := bB BK820 hb; replace BK821 := bB BK821 hb; replace BK822 := bB BK822 hb; replace BK823 := bV 31 #[.int .i64 t836, .int .i64 t837] BK823 hb; replace BK824 := bB BK824 hb; replace HB := bS HB hb; (try clear hb); obtain ⟨hcz57_0, hcz57_1, hcz57_2, hfz57_0, hfz57_1, hfz57_2⟩ := bK3 (w := w56) BK824))
      go_roundg k1
      case measure => have := HK1.out; omega
      case rel => exact ⟨(wrap64 (x7_1 - 1)), (t836), (t837), (t838), (t839), (t840), rS, H', ⟨by have := HK1.out; omega⟩, ⟨bP BK820⟩, ⟨bP BK821⟩, ⟨bP BK822⟩, ⟨bP BK823⟩, ⟨bU BK824⟩, ⟨bZ HB⟩⟩
     ·rw [if_neg c28] at H
      have c28b0 : (((ji27) % 2) == 1) = false := beq_eq_false_iff_ne.mpr c28
      have c28b1 : (((ji27) % 2) != 1) = true := bne_iff_ne.mpr c28
      have H' := Aside0.mk H
      clear H
      try go_wp2
      replace BK820 := Aside0.mk (blk_drew BK820.out)
      replace BK821 := Aside0.mk (blk_drew BK821.out)
      replace BK822 := Aside0.mk (blk_drew BK822.out)
      replace BK823 := Aside0.mk (blk_drew BK823.out)
      replace BK824 := Aside0.mk (blk_drew BK824.out)
      replace HB := Aside0.mk (below_drew1 HB.out)
      refine start_ (n := 9) (S := fun w' => SP2 w' gb823 (.int .i64 x824000_1) (.int .i64 x824001_1) (SP3 w' gb824 (.int .i64 x825000_1) (.int .i64 x825001_1) (.bool x825002_1) (SQ3 w' gb821 (.int .i64 a1_0) (.int .i64 a1_1) (.bool a1_2)))) (ds := [8]) #[false, false, false, false, false, false, false, false, false] (by kernel_rfl) rfl rfl (bS2 BK823 (bS3 BK824 (bT3 BK821))) (fun hHeld => ?_); refine with_tabW spec_Miller.tab6 spec_Miller.bits6 (fun HT_ HW_ => ?_)
      generalize wr.drew = w58 at BK820 BK821 BK822 BK823 BK824 HB hHeld ⊢
      refine tI8 0 (some 14) HT_.out HW_.out hHeld ?_
      refine tI8 1 (some 15) HT_.out HW_.out hHeld ?_
      refine tI8 3 (some 17) HT_.out HW_.out hHeld ?_
      refine tI8 4 (some 18) HT_.out HW_.out hHeld ?_
      refine tI8 5 (some 19) HT_.out HW_.out hHeld ?_
      refine oI 2 (some 16) HT_.out (fun K hK => ?_)
      refine gO Try.func71 #[.agg #[.int .i64 x824000_1, .int .i64 x824001_1], .agg #[.int .i64 x824000_1, .int .i64 x824001_1]] ?_
      with_reducible refine (spec_TwoMul.calls x824000_1 x824001_1 x824000_1 x824001_1 t825 t826 _ A21.out).mono ?_
      rintro e w59 ⟨rfl, hb⟩
      refine ⟨_, rfl, ?_⟩
      replace BK820 := bB BK820 hb
      replace BK821 := bB BK821 hb
      replace BK822 := bB BK822 hb
      replace BK823 := bB BK823 hb
      replace BK824 := bB BK824 hb
      replace HB := bS HB hb
      (try clear hb)
      refine hK.out _ _ (bS2 BK823 (bS3 BK824 (bT3 BK821))) (fun hHeld => ?_)
      clear hK K
      refine nO (some 16) ?_
      refine oI 6 (some 20) HT_.out (fun K hK => ?_)
      refine gO Try.func23 #[.agg #[.int .i64 x825000_1, .int .i64 x825001_1, .bool x825002_1], .agg #[.int .i64 x825000_1, .int .i64 x825001_1, .bool x825002_1], .agg #[.int .i64 a1_0, .int .i64 a1_1, .bool a1_2]] ?_
      with_reducible refine (spec_PairLine.calls k1 x825000_1 x825001_1 x825002_1 x825000_1 x825001_1 x825002_1 a1_0 a1_1 a1_2 t827 t828 _ A22.out).mono ?_
      rintro e w60 ⟨rfl, hb⟩
      refine ⟨_, rfl, ?_⟩
      replace BK820 := bB BK820 hb
      replace BK821 := bB BK821 hb
      replace BK822 := bB BK822 hb
      replace BK823 := bB BK823 hb
      replace BK824 := bB BK824 hb
      replace HB := bS HB hb
      (try clear hb)
      refine hK.out _ _ (bS2 BK823 (bS3 BK824 (bT3 BK821))) (fun hHeld => ?_)
      clear hK K
      refine nO (some 20) ?_
      refine oI 7 (some 21) HT_.out (fun K hK => ?_)
      refine gO Try.func71 #[.agg #[.int .i64 t825, .int .i64 t826], .agg #[.int .i64 t827, .int .i64 t828]] ?_
      with_reducible refine (spec_TwoMul.calls t825 t826 t827 t828 t829 t830 _ A23.out).mono ?_
      rintro e w61 ⟨rfl, hb⟩
      refine ⟨_, rfl, ?_⟩
      replace BK820 := bB BK820 hb
      replace BK821 := bB BK821 hb
      replace BK822 := bB BK822 hb
      replace BK823 := bB BK823 hb
      replace BK824 := bB BK824 hb
      replace HB := bS HB hb
      (try clear hb)
      refine hK.out _ _ (bS2 BK823 (bS3 BK824 (bT3 BK821))) (fun hHeld => ?_)
      clear hK K
      refine nO (some 21) ?_
      refine last_ (i := 8) (N := none) #[true, true, true, true, true, true, true, true, true] rfl rfl (one_of HT_.out (by kernel_rfl)) (by decide) (fun K hK => ?_)
      have hs62 : w61.cell? ⟨gb823, 0, none⟩ = some (.int .i64 x824000_1) := bc BK823 0
      have hfs62 := blk_frozen BK823.out 0
      have hns62_0 := NB820_823.out
      have hns62_1 := NB821_823.out
      have hns62_2 := NB822_823.out
      have hns62_4 := NB824_823.out
      have hms62_0 := NB823_820.out
      have hms62_1 := NB823_821.out
      have hms62_2 := NB823_822.out
      have hms62_4 := NB823_824.out
      have hs63 : w61.cell? ⟨gb823, 1, none⟩ = some (.int .i64 x824001_1) := bc BK823 1
      have hfs63 := blk_frozen BK823.out 1
      have hns63_0 := NB820_823.out
      have hns63_1 := NB821_823.out
      have hns63_2 := NB822_823.out
      have hns63_4 := NB824_823.out
      have hms63_0 := NB823_820.out
      have hms63_1 := NB823_821.out
      have hms63_2 := NB823_822.out
      have hms63_4 := NB823_824.out
      refine skip_ (w1 := ?_) (by rfl) rfl ?_ ?_
      rotate_left
      ·go_simp
       rfl
      refine hK.out _ _ ?_
      clear hK K
      refine done_ (done_of HT_.out (by kernel_rfl)) ?_
      obtain ⟨hnb64, hnc64⟩ := nB NB824_820
      obtain ⟨hnb65, hnc65⟩ := nB NB824_821
      obtain ⟨hnb66, hnc66⟩ := nB NB824_822
      obtain ⟨hnb67, hnc67⟩ := nB NB824_823
      obtain ⟨hcz68_0, hcz68_1, hcz68_2, hfz68_0, hfz68_1, hfz68_2⟩ := bK3 (w := w61) BK824
      try go_wp2_with (first | ((with_reducible refine gate_callee (f := 53) rfl ?_); refine gL (some 24) Try.func53 #[.agg #[.int .i64 x825000_1, .int .i64 x825001_1, .bool x825002_1], .agg #[.int .i64 x825000_1, .int .i64 x825001_1, .bool x825002_1]] ?_; (with_reducible refine (spec_PointAdd.calls k1 x825000_1 x825001_1 x825002_1 x825000_1 x825001_1 x825002_1 t831 t832 t833 _ A24.out).mono ?_); rintro e w69 ⟨rfl, hb⟩; refine ⟨_, rfl, ?_⟩; replace BK820 := bB BK820 hb; replace BK821 := bB BK821 hb; replace BK822 := bB BK822 hb; replace BK823 := bV 31 #[.int .i64 t829, .int .i64 t830] BK823 hb; replace BK824 := bB BK824 hb; replace HB := bS HB hb; (try clear hb); obtain ⟨hcz70_0, hcz70_1, hcz70_2, hfz70_0, hfz70_1, hfz70_2⟩ := bK3 (w := w69) BK824))
      go_roundg k1
      case measure => have := HK1.out; omega
      case rel => exact ⟨(wrap64 (x7_1 - 1)), (t829), (t830), (t831), (t832), (t833), rS, H', ⟨by have := HK1.out; omega⟩, ⟨bP BK820⟩, ⟨bP BK821⟩, ⟨bP BK822⟩, ⟨bP BK823⟩, ⟨bU BK824⟩, ⟨bZ HB⟩⟩
    ·rw [if_neg c26] at H
     exact absurd H (by simp)
   ·rw [if_neg c20] at H
    have c20b0 : decide (0 ≤ x7_1) = false := decide_eq_false c20
    clear c20
    simp only [Option.some.injEq, Prod.mk.injEq] at H
    obtain ⟨rfl, rfl⟩ := H
    obtain ⟨hnb71, hnc71⟩ := nB NB823_820
    obtain ⟨hnb72, hnc72⟩ := nB NB823_821
    obtain ⟨hnb73, hnc73⟩ := nB NB823_822
    obtain ⟨hnb74, hnc74⟩ := nB NB823_824
    obtain ⟨hcz75_0, hcz75_1, hfz75_0, hfz75_1⟩ := bK2 (w := wr) BK823
    obtain ⟨hnb76, hnc76⟩ := nB NB822_820
    obtain ⟨hnb77, hnc77⟩ := nB NB822_821
    obtain ⟨hnb78, hnc78⟩ := nB NB822_824
    obtain ⟨hcz79_0, hcz79_1, hfz79_0, hfz79_1⟩ := bK2 (w := wr) BK822
    go_wp2
    refine rC gb822 31 #[.int .i64 x824000_1, .int .i64 x824001_1] (bU BK822) Try.underlying31 ?_
    exact ⟨rR, bZ HB⟩
/-! ### spec_InGroup: function 52 -/
def spec_InGroup.f (k : Nat) (a0_0 : Int) (a0_1 : Int) (a0_2 : Bool) : Option (Bool) := (spec_PointOk.f a0_0 a0_1 a0_2).bind fun t571 => (if t571 = true then ((spec_PointTimes.f k 1009 a0_0 a0_1 a0_2).bind fun bt572 => (some bt572.2.2)) else (some false))
theorem spec_InGroup.mono : ∀ a0 a1 a2 k, LeO (spec_InGroup.f k a0 a1 a2) (spec_InGroup.f (k + 1) a0 a1 a2) := by
 intro a0 a1 a2 k
 unfold spec_InGroup.f
 repeat' first
   | (with_reducible exact spec_PointTimes.mono _ _ _ _ _)
   | (with_reducible exact LeO.refl _)
   | (with_reducible exact LeO.none _)
   | (with_reducible refine LeO.ite ?_ ?_)
   | (with_reducible refine LeO.bind ?_ (fun _ => ?_))
   | exact spec_PointTimes.mono _ _ _ _ _
   | exact LeO.none _
   | refine LeO.ite ?_ ?_
   | refine LeO.bind ?_ (fun _ => ?_)
set_option maxHeartbeats 8000000 in
set_option maxRecDepth 100000 in
theorem spec_InGroup.calls (k : Nat) (a0_0 : Int) (a0_1 : Int) (a0_2 : Bool) (r : Bool) (w : World) (h : spec_InGroup.f k a0_0 a0_1 a0_2 = some r) :
  Calls Try.prog 52 #[.agg #[.int .i64 a0_0, .int .i64 a0_1, .bool a0_2]] w fun e w' => e = .returned (.bool r) ∧ Below w.heap.size w w' := by
 have hu25 := Try.underlying25
 have hfd25_0 : ∀ (x0 : Int) (x1 : Int) (x2 : Bool) (w_ : World), (Instr.field 25 (.agg #[.int .i64 x0, .int .i64 x1, .bool x2]) 0).run Try.prog w_ = .ok (.int .i64 x0) w_ := fun _ _ _ _ => by kernel_rfl
 have hfd25_1 : ∀ (x0 : Int) (x1 : Int) (x2 : Bool) (w_ : World), (Instr.field 25 (.agg #[.int .i64 x0, .int .i64 x1, .bool x2]) 1).run Try.prog w_ = .ok (.int .i64 x1) w_ := fun _ _ _ _ => by kernel_rfl
 have hfd25_2 : ∀ (x0 : Int) (x1 : Int) (x2 : Bool) (w_ : World), (Instr.field 25 (.agg #[.int .i64 x0, .int .i64 x1, .bool x2]) 2).run Try.prog w_ = .ok (.bool x2) w_ := fun _ _ _ _ => by kernel_rfl
 have HB := Aside0.mk (Below.refl w.heap.size w)
 have H : ((spec_PointOk.f a0_0 a0_1 a0_2).bind fun t571 => (if t571 = true then ((spec_PointTimes.f k 1009 a0_0 a0_1 a0_2).bind fun bt572 => (some bt572.2.2)) else (some false))) = some r := h
 clear h
 replace H := Option.bind_eq_some_iff.mp H
 obtain ⟨t571, A20, H⟩ := H
 have A2 := Aside0.mk A20
 clear A20
 by_cases c3 : t571 = true
 ·subst c3
  rw [if_pos rfl] at H
  replace H := Option.bind_eq_some_iff.mp H
  obtain ⟨⟨t572, t573, t574⟩, A40, H⟩ := H
  have A4 := Aside0.mk A40
  clear A40
  obtain rfl := Option.some.inj H
  go_enter Try.func52, Try.ntmps52
  go_wp2_with (first | ((with_reducible refine gate_dst (N := 1) rfl ?_); refine bE 1 #[.int .i64 a0_0, .int .i64 a0_1, .bool a0_2] 25 ?_; intro gb570 hg w5 hbox hb; have BK570 := Aside0.mk (hbox); have GW570 := bG HB hg; have GE570 := bG HB hg; replace HB := bS HB hb; clear hb hbox hg; obtain ⟨hcz6_0, hcz6_1, hcz6_2, hfz6_0, hfz6_1, hfz6_2⟩ := bK3 (w := w5) BK570) | ((with_reducible refine gate_callee (f := 55) rfl ?_); refine gL (some 4) Try.func55 #[.agg #[.int .i64 a0_0, .int .i64 a0_1, .bool a0_2]] ?_; (with_reducible refine (spec_PointOk.calls a0_0 a0_1 a0_2 true _ A2.out).mono ?_); rintro e w7 ⟨rfl, hb⟩; refine ⟨_, rfl, ?_⟩; replace BK570 := bB BK570 hb; replace HB := bS HB hb; (try clear hb); obtain ⟨hcz8_0, hcz8_1, hcz8_2, hfz8_0, hfz8_1, hfz8_2⟩ := bK3 (w := w7) BK570) | (go_at_call 27; (with_reducible refine (spec_PointTimes.calls k 1009 a0_0 a0_1 a0_2 t572 t573 t574 _ A4.out).mono ?_); rintro e w9 ⟨rfl, hb⟩; replace BK570 := bB BK570 hb; replace HB := bS HB hb; (try clear hb)))
  go_ret
  exact ⟨rR, bZ HB⟩
 ·replace c3 := Bool.eq_false_iff.mpr c3
  subst c3
  rw [if_neg (show ¬ (false = true) by decide)] at H
  obtain rfl := Option.some.inj H
  go_enter Try.func52, Try.ntmps52
  go_wp2_with (first | ((with_reducible refine gate_dst (N := 1) rfl ?_); refine bE 1 #[.int .i64 a0_0, .int .i64 a0_1, .bool a0_2] 25 ?_; intro gb570 hg w10 hbox hb; have BK570 := Aside0.mk (hbox); have GW570 := bG HB hg; have GE570 := bG HB hg; replace HB := bS HB hb; clear hb hbox hg; obtain ⟨hcz11_0, hcz11_1, hcz11_2, hfz11_0, hfz11_1, hfz11_2⟩ := bK3 (w := w10) BK570) | ((with_reducible refine gate_callee (f := 55) rfl ?_); refine gL (some 4) Try.func55 #[.agg #[.int .i64 a0_0, .int .i64 a0_1, .bool a0_2]] ?_; (with_reducible refine (spec_PointOk.calls a0_0 a0_1 a0_2 false _ A2.out).mono ?_); rintro e w12 ⟨rfl, hb⟩; refine ⟨_, rfl, ?_⟩; replace BK570 := bB BK570 hb; replace HB := bS HB hb; (try clear hb)))
  go_ret
  exact ⟨rR, bZ HB⟩
/-! ### spec_TwoPow: function 70 -/
def spec_TwoPow.l0 : Nat → Int → Int → Int → Int → Int → Option (Int × Int)
 | 0, _, _, _, _, _ => none
 | k + 1, x1, x844000, x844001, x847000, x847001 => if x1 > 0 then (if (Int.tmod x1 2) = 1 then ((spec_TwoMul.f x844000 x844001 x847000 x847001).bind fun bt847 => ((spec_TwoMul.f x847000 x847001 x847000 x847001).bind fun bt849 => (spec_TwoPow.l0 k (wrap64 (Int.tdiv x1 2)) bt847.1 bt847.2 bt849.1 bt849.2))) else ((spec_TwoMul.f x847000 x847001 x847000 x847001).bind fun bt851 => (spec_TwoPow.l0 k (wrap64 (Int.tdiv x1 2)) x844000 x844001 bt851.1 bt851.2))) else (some (x844000, x844001))
def spec_TwoPow.f (k : Nat) (a0_0 : Int) (a0_1 : Int) (a1 : Int) : Option (Int × Int) := if a1 < 0 then (some (0, 0)) else ((spec_FpOf.f a0_0).bind fun t844 => ((spec_FpOf.f a0_1).bind fun t845 => (spec_TwoPow.l0 k a1 1 0 t844 t845)))
theorem spec_TwoPow.mono_l : ∀ k, (∀ y0 y1 y2 y3 y4, LeO (spec_TwoPow.l0 k y0 y1 y2 y3 y4) (spec_TwoPow.l0 (k + 1) y0 y1 y2 y3 y4))
 | 0 => fun _ _ _ _ _ r h => by simp [spec_TwoPow.l0] at h
 | k + 1 => by
  have ih0 := spec_TwoPow.mono_l k
  ·intro y0 y1 y2 y3 y4
   unfold spec_TwoPow.l0
   repeat' first
   | (with_reducible exact ih0 _ _ _ _ _)
   | (with_reducible exact LeO.refl _)
   | (with_reducible exact LeO.none _)
   | (with_reducible refine LeO.ite ?_ ?_)
   | (with_reducible refine LeO.bind ?_ (fun _ => ?_))
   | exact ih0 _ _ _ _ _
   | exact LeO.none _
   | refine LeO.ite ?_ ?_
   | refine LeO.bind ?_ (fun _ => ?_)
theorem spec_TwoPow.mono : ∀ a0 a1 a2 k, LeO (spec_TwoPow.f k a0 a1 a2) (spec_TwoPow.f (k + 1) a0 a1 a2) := by
 intro a0 a1 a2 k
 have ih0 := spec_TwoPow.mono_l k
 unfold spec_TwoPow.f
 repeat' first
   | (with_reducible exact ih0 _ _ _ _ _)
   | (with_reducible exact LeO.refl _)
   | (with_reducible exact LeO.none _)
   | (with_reducible refine LeO.ite ?_ ?_)
   | (with_reducible refine LeO.bind ?_ (fun _ => ?_))
   | exact ih0 _ _ _ _ _
   | exact LeO.none _
   | refine LeO.ite ?_ ?_
   | refine LeO.bind ?_ (fun _ => ?_)
def spec_TwoPow.T4 : Bool × List (List Nat × List Nat) := (true, [([], []), ([0], [0]), ([1], [1]), ([], []), ([3], [3]), ([4, 2], [4]), ([2, 5], [2, 5]), ([], []), ([7, 6, 5, 0, 1, 2, 3, 4, 5, 6, 7], [6, 7])])
def spec_TwoPow.B4 : List Nat := [0, 1, 3, 0, 8, 31, 63, 0, 255]
theorem spec_TwoPow.tab4 : rtab .any (opsOf Try.f70 4) = spec_TwoPow.T4 := by kernel_rfl
theorem spec_TwoPow.bits4 : waitsOk spec_TwoPow.T4.2 spec_TwoPow.B4 = true := by kernel_rfl
set_option maxHeartbeats 8000000 in
set_option maxRecDepth 100000 in
theorem spec_TwoPow.calls (k : Nat) (a0_0 : Int) (a0_1 : Int) (a1 : Int) (r1 : Int) (r2 : Int) (w : World) (h : spec_TwoPow.f k a0_0 a0_1 a1 = some (r1, r2)) :
  Calls Try.prog 70 #[.agg #[.int .i64 a0_0, .int .i64 a0_1], .int .i64 a1] w fun e w' => e = .returned (.agg #[.int .i64 r1, .int .i64 r2]) ∧ Below w.heap.size w w' := by
 have hu31 := Try.underlying31
 have HB := Aside0.mk (Below.refl w.heap.size w)
 have H : (if a1 < 0 then (some (0, 0)) else ((spec_FpOf.f a0_0).bind fun t844 => ((spec_FpOf.f a0_1).bind fun t845 => (spec_TwoPow.l0 k a1 1 0 t844 t845)))) = some (r1, r2) := h
 clear h
 by_cases c3 : a1 < 0
 ·rw [if_pos c3] at H
  have c3b0 : decide (a1 < 0) = true := decide_eq_true c3
  clear c3
  simp only [Option.some.injEq, Prod.mk.injEq] at H
  obtain ⟨rfl, rfl⟩ := H
  go_enter Try.func70, Try.ntmps70
  go_wp2_with (first | ((with_reducible refine gate_dst (N := 2) rfl ?_); refine bE 2 #[.int .i64 a0_0, .int .i64 a0_1] 31 ?_; intro gb841 hg w4 hbox hb; have BK841 := Aside0.mk (hbox); have GW841 := bG HB hg; have GE841 := bG HB hg; replace HB := bS HB hb; clear hb hbox hg) | ((with_reducible refine gate_dst (N := 4) rfl ?_); refine bE 4 #[.int .i64 0, .int .i64 0] 31 ?_; intro gb842 hg w5 hbox hb; have BK842 := Aside0.mk (hbox); have GW842 := bG HB hg; have GE842 := bG HB hg; replace HB := bS HB hb; have NB841_842 := bL BK841 hg; have NB842_841 := bR BK841 hg; replace BK841 := bB BK841 hb; clear hb hbox hg; obtain ⟨hnb6, hnc6⟩ := nB NB842_841; obtain ⟨hcz7_0, hcz7_1, hfz7_0, hfz7_1⟩ := bK2 (w := w5) BK842))
  refine rC gb842 31 #[.int .i64 0, .int .i64 0] (bU BK842) Try.underlying31 ?_
  exact ⟨rR, bZ HB⟩
 ·rw [if_neg c3] at H
  have c3b0 : decide (a1 < 0) = false := decide_eq_false c3
  clear c3
  replace H := Option.bind_eq_some_iff.mp H
  obtain ⟨t844, A80, H⟩ := H
  have A8 := Aside0.mk A80
  clear A80
  replace H := Option.bind_eq_some_iff.mp H
  obtain ⟨t845, A90, H⟩ := H
  have A9 := Aside0.mk A90
  clear A90
  have H' := Aside0.mk H
  clear H
  go_enter Try.func70, Try.ntmps70
  try go_wp2_with (first | ((with_reducible refine gate_dst (N := 2) rfl ?_); refine bE 2 #[.int .i64 a0_0, .int .i64 a0_1] 31 ?_; intro gb841 hg w10 hbox hb; have BK841 := Aside0.mk (hbox); have GW841 := bG HB hg; have GE841 := bG HB hg; replace HB := bS HB hb; clear hb hbox hg) | ((with_reducible refine gate_dst (N := 4) rfl ?_); refine bE 4 #[.int .i64 0, .int .i64 0] 31 ?_; intro gb842 hg w11 hbox hb; have BK842 := Aside0.mk (hbox); have GW842 := bG HB hg; have GE842 := bG HB hg; replace HB := bS HB hb; have NB841_842 := bL BK841 hg; have NB842_841 := bR BK841 hg; replace BK841 := bB BK841 hb; clear hb hbox hg) | ((with_reducible refine gate_dst (N := 5) rfl ?_); refine bE 5 #[.int .i64 0, .int .i64 0] 31 ?_; intro gb843 hg w12 hbox hb; have BK843 := Aside0.mk (hbox); have GW843 := bG HB hg; have GE843 := bG HB hg; replace HB := bS HB hb; have NB841_843 := bL BK841 hg; have NB843_841 := bR BK841 hg; replace BK841 := bB BK841 hb; have NB842_843 := bL BK842 hg; have NB843_842 := bR BK842 hg; replace BK842 := bB BK842 hb; clear hb hbox hg; obtain ⟨hnb13, hnc13⟩ := nB NB843_841; obtain ⟨hnb14, hnc14⟩ := nB NB843_842; obtain ⟨hcz15_0, hcz15_1, hfz15_0, hfz15_1⟩ := bK2 (w := w12) BK843))
  obtain ⟨w16, hW_⟩ : ∃ W_ : World, W_ = ((w12.setCell ⟨gb843, 0, none⟩ (.int .i64 1)).setCell ⟨gb843, 1, none⟩ (.int .i64 0)) := ⟨_, rfl⟩
  replace BK841 := bW hW_ BK841
  replace BK842 := bW hW_ BK842
  replace BK843 := bX hW_ 31 #[.int .i64 1, .int .i64 0] BK843
  replace HB := zW hW_ HB
  rw [← hW_]
  clear hW_
  replace BK841 := Aside0.mk (blk_drew BK841.out)
  replace BK842 := Aside0.mk (blk_drew BK842.out)
  replace BK843 := Aside0.mk (blk_drew BK843.out)
  replace HB := Aside0.mk (below_drew1 HB.out)
  refine start_ (n := 9) (S := fun w' => SQ2 w' gb841 (.int .i64 a0_0) (.int .i64 a0_1)) (ds := []) #[false, false, false, false, false, false, false, false, false] (by kernel_rfl) rfl rfl (bT2 BK841) (fun hHeld => ?_); refine with_tabW spec_TwoPow.tab4 spec_TwoPow.bits4 (fun HT_ HW_ => ?_)
  generalize w16.drew = w17 at BK841 BK842 BK843 HB hHeld ⊢
  refine pI 0 (some 11) HT_.out ?_
  refine pI 3 (some 14) HT_.out ?_
  refine tI2 1 (some 12) HT_.out HW_.out hHeld ?_
  refine tI2 4 (some 15) HT_.out HW_.out hHeld ?_
  refine join_ (σ := Nat) 1 #[true, true, true, true, true, true, true, true, false] (fun s_ => [(13, .int .i64 t844), (16, .int .i64 t845), (6, .pointer (some ⟨s_, 0, none⟩)), (17, .agg #[.int .i64 t844, .int .i64 t845])]) (fun s_ w' => (w'.cell? ⟨gb841, 0, none⟩ = some (.int .i64 a0_0) ∧ w'.cell? ⟨gb841, 1, none⟩ = some (.int .i64 a0_1)) ∧ (w'.heap[gb841]? = some (.cells #[.int .i64 a0_0, .int .i64 a0_1] 31 (0, 0))) ∧ (w'.heap[gb842]? = some (.cells #[.int .i64 0, .int .i64 0] 31 (0, 0))) ∧ (w'.heap[gb843]? = some (.cells #[.int .i64 1, .int .i64 0] 31 (0, 0))) ∧ (w'.heap[s_]? = some (.cells #[.int .i64 0, .int .i64 0] 31 (0, 0))) ∧ (w.heap.size ≤ s_) ∧ (w.heap.size ≤ s_) ∧ (gb841 ≠ s_) ∧ (s_ ≠ gb841) ∧ (gb842 ≠ s_) ∧ (s_ ≠ gb842) ∧ (gb843 ≠ s_) ∧ (s_ ≠ gb843) ∧ (Below w.heap.size w w')) ?_ ?_
  rotate_left
  ·intro hCont
   refine two_ (i := 2) (j := 7) (Ni := some 13) (Nj := some 6) #[true, true, true, true, true, false, false, false, false] #[true, true, false, true, true, false, false, true, false] rfl rfl rfl rfl (two_of HT_.out (by kernel_rfl)) (by decide) (by decide) (fun K hK => ?_) (fun K hK => ?_)
   ·skip
    refine gO Try.func102 #[.int .i64 a0_0] ?_
    with_reducible refine (spec_FpOf.calls a0_0 t844 _ A8.out).mono ?_
    rintro e w' ⟨rfl, ⟨nd, rfl⟩⟩
    refine ⟨_, rfl, ?_⟩
    refine hK.out _ _ (bT2 BK841) (fun hHeld => ?_)
    clear hK K
    refine nO (some 13) ?_
    refine two_ (i := 5) (j := 7) (Ni := some 16) (Nj := some 6) #[true, true, true, true, true, true, false, false, false] #[true, true, true, true, true, false, false, true, false] rfl rfl rfl rfl (two_of HT_.out (by kernel_rfl)) (by decide) (by decide) (fun K hK => ?_) (fun K hK => ?_)
    ·skip
     refine gO Try.func102 #[.int .i64 a0_1] ?_
     with_reducible refine (spec_FpOf.calls a0_1 t845 _ A9.out).mono ?_
     rintro e w' ⟨rfl, ⟨nd, rfl⟩⟩
     refine ⟨_, rfl, ?_⟩
     refine hK.out _ _ (bT2 BK841) (fun hHeld => ?_)
     clear hK K
     refine nO (some 16) ?_
     refine pI 6 (some 17) HT_.out ?_
     refine oI 7 (some 6) HT_.out (fun K hK => ?_)
     refine box_step ?hg (N := 6) ?hd (cs := #[.int .i64 0, .int .i64 0]) (t := 31) ?hr ?_; (case hd => rfl); (case hg => rfl); (case hr => first | (go_simp; done) | (go_simp; rfl))
     intro gb846 hg w18 hbox hb
     have BK846 := Aside0.mk (hbox)
     have GW846 := bG HB hg
     have GE846 := bG HB hg
     replace HB := bS HB hb
     have NB841_846 := bL BK841 hg
     have NB846_841 := bR BK841 hg
     replace BK841 := bB BK841 hb
     have NB842_846 := bL BK842 hg
     have NB846_842 := bR BK842 hg
     replace BK842 := bB BK842 hb
     have NB843_846 := bL BK843 hg
     have NB846_843 := bR BK843 hg
     replace BK843 := bB BK843 hb
     clear hb hbox hg
     refine hK.out _ _ (bT2 BK841) (fun hHeld => ?_)
     clear hK K
     refine nO (some 6) ?_
     exact norm_ (by simp only [putAll, Act.put, List.setIfInBounds_toArray, List.set_cons_zero, List.set_cons_succ]) (hCont (gb846) _ ⟨hHeld, (bP BK841), (bP BK842), (bP BK843), (bP BK846), GW846.out, GE846.out, NB841_846.out, NB846_841.out, NB842_846.out, NB846_842.out, NB843_846.out, NB846_843.out, (bZ HB)⟩)
    ·skip
     refine box_step ?hg (N := 6) ?hd (cs := #[.int .i64 0, .int .i64 0]) (t := 31) ?hr ?_; (case hd => rfl); (case hg => rfl); (case hr => first | (go_simp; done) | (go_simp; rfl))
     intro gb846 hg w18 hbox hb
     have BK846 := Aside0.mk (hbox)
     have GW846 := bG HB hg
     have GE846 := bG HB hg
     replace HB := bS HB hb
     have NB841_846 := bL BK841 hg
     have NB846_841 := bR BK841 hg
     replace BK841 := bB BK841 hb
     have NB842_846 := bL BK842 hg
     have NB846_842 := bR BK842 hg
     replace BK842 := bB BK842 hb
     have NB843_846 := bL BK843 hg
     have NB846_843 := bR BK843 hg
     replace BK843 := bB BK843 hb
     clear hb hbox hg
     refine hK.out _ _ (bT2 BK841) (fun hHeld => ?_)
     clear hK K
     refine nO (some 6) ?_
     refine oI 5 (some 16) HT_.out (fun K hK => ?_)
     refine gO Try.func102 #[.int .i64 a0_1] ?_
     with_reducible refine (spec_FpOf.calls a0_1 t845 _ A9.out).mono ?_
     rintro e w' ⟨rfl, ⟨nd, rfl⟩⟩
     refine ⟨_, rfl, ?_⟩
     refine hK.out _ _ (bT2 BK841) (fun hHeld => ?_)
     clear hK K
     refine nO (some 16) ?_
     refine pI 6 (some 17) HT_.out ?_
     exact norm_ (by simp only [putAll, Act.put, List.setIfInBounds_toArray, List.set_cons_zero, List.set_cons_succ]) (hCont (gb846) _ ⟨hHeld, (bP BK841), (bP BK842), (bP BK843), (bP BK846), GW846.out, GE846.out, NB841_846.out, NB846_841.out, NB842_846.out, NB846_842.out, NB843_846.out, NB846_843.out, (bZ HB)⟩)
   ·skip
    refine box_step ?hg (N := 6) ?hd (cs := #[.int .i64 0, .int .i64 0]) (t := 31) ?hr ?_; (case hd => rfl); (case hg => rfl); (case hr => first | (go_simp; done) | (go_simp; rfl))
    intro gb846 hg w18 hbox hb
    have BK846 := Aside0.mk (hbox)
    have GW846 := bG HB hg
    have GE846 := bG HB hg
    replace HB := bS HB hb
    have NB841_846 := bL BK841 hg
    have NB846_841 := bR BK841 hg
    replace BK841 := bB BK841 hb
    have NB842_846 := bL BK842 hg
    have NB846_842 := bR BK842 hg
    replace BK842 := bB BK842 hb
    have NB843_846 := bL BK843 hg
    have NB846_843 := bR BK843 hg
    replace BK843 := bB BK843 hb
    clear hb hbox hg
    refine hK.out _ _ (bT2 BK841) (fun hHeld => ?_)
    clear hK K
    refine nO (some 6) ?_
    refine oI 2 (some 13) HT_.out (fun K hK => ?_)
    refine gO Try.func102 #[.int .i64 a0_0] ?_
    with_reducible refine (spec_FpOf.calls a0_0 t844 _ A8.out).mono ?_
    rintro e w' ⟨rfl, ⟨nd, rfl⟩⟩
    refine ⟨_, rfl, ?_⟩
    refine hK.out _ _ (bT2 BK841) (fun hHeld => ?_)
    clear hK K
    refine nO (some 13) ?_
    refine oI 5 (some 16) HT_.out (fun K hK => ?_)
    refine gO Try.func102 #[.int .i64 a0_1] ?_
    with_reducible refine (spec_FpOf.calls a0_1 t845 _ A9.out).mono ?_
    rintro e w' ⟨rfl, ⟨nd, rfl⟩⟩
    refine ⟨_, rfl, ?_⟩
    refine hK.out _ _ (bT2 BK841) (fun hHeld => ?_)
    clear hK K
    refine nO (some 16) ?_
    refine pI 6 (some 17) HT_.out ?_
    exact norm_ (by simp only [putAll, Act.put, List.setIfInBounds_toArray, List.set_cons_zero, List.set_cons_succ]) (hCont (gb846) _ ⟨hHeld, (bP BK841), (bP BK842), (bP BK843), (bP BK846), GW846.out, GE846.out, NB841_846.out, NB846_841.out, NB842_846.out, NB846_842.out, NB843_846.out, NB846_843.out, (bZ HB)⟩)
  rintro gb846 w19 ⟨hS_, h0_, h1_, h2_, h3_, h4_, h5_, h6_, h7_, h8_, h9_, h10_, h11_, h12_⟩
  replace BK841 : Aside0 (w19.heap[gb841]? = some (.cells #[.int .i64 a0_0, .int .i64 a0_1] 31 (0, 0))) := ⟨h0_⟩
  replace BK842 : Aside0 (w19.heap[gb842]? = some (.cells #[.int .i64 0, .int .i64 0] 31 (0, 0))) := ⟨h1_⟩
  replace BK843 : Aside0 (w19.heap[gb843]? = some (.cells #[.int .i64 1, .int .i64 0] 31 (0, 0))) := ⟨h2_⟩
  have BK846 : Aside0 (w19.heap[gb846]? = some (.cells #[.int .i64 0, .int .i64 0] 31 (0, 0))) := ⟨h3_⟩
  have GW846 : Aside0 (w.heap.size ≤ gb846) := ⟨h4_⟩
  have GE846 : Aside0 (w.heap.size ≤ gb846) := ⟨h5_⟩
  have NB841_846 : Aside0 (gb841 ≠ gb846) := ⟨h6_⟩
  have NB846_841 : Aside0 (gb846 ≠ gb841) := ⟨h7_⟩
  have NB842_846 : Aside0 (gb842 ≠ gb846) := ⟨h8_⟩
  have NB846_842 : Aside0 (gb846 ≠ gb842) := ⟨h9_⟩
  have NB843_846 : Aside0 (gb843 ≠ gb846) := ⟨h10_⟩
  have NB846_843 : Aside0 (gb846 ≠ gb843) := ⟨h11_⟩
  replace HB : Aside0 (Below w.heap.size w w19) := ⟨h12_⟩
  clear h0_ h1_ h2_ h3_ h4_ h5_ h6_ h7_ h8_ h9_ h10_ h11_ h12_
  have hHeld : w19.cell? ⟨gb841, 0, none⟩ = some (.int .i64 a0_0) ∧ w19.cell? ⟨gb841, 1, none⟩ = some (.int .i64 a0_1) := hS_
  refine norm_ (a' := ?_) ?_ ?_
  rotate_left
  ·simp only [putAll, Act.put, List.setIfInBounds_toArray, List.set_cons_zero, List.set_cons_succ]
   rfl
  refine oI 8 (none) HT_.out (fun K hK => ?_)
  have hs20 : w19.cell? ⟨gb846, 0, none⟩ = some (.int .i64 0) := bc BK846 0
  have hfs20 := blk_frozen BK846.out 0
  have hns20_0 := NB841_846.out
  have hns20_1 := NB842_846.out
  have hns20_2 := NB843_846.out
  have hms20_0 := NB846_841.out
  have hms20_1 := NB846_842.out
  have hms20_2 := NB846_843.out
  have hs21 : w19.cell? ⟨gb846, 1, none⟩ = some (.int .i64 0) := bc BK846 1
  have hfs21 := blk_frozen BK846.out 1
  have hns21_0 := NB841_846.out
  have hns21_1 := NB842_846.out
  have hns21_2 := NB843_846.out
  have hms21_0 := NB846_841.out
  have hms21_1 := NB846_842.out
  have hms21_2 := NB846_843.out
  refine skip_ (w1 := ?_) (by rfl) rfl ?_ ?_
  rotate_left
  ·go_simp
   rfl
  refine hK.out _ _ ⟨((cell_far (p := ⟨gb846, _, none⟩) NB841_846.out _).trans (((cell_far (p := ⟨gb846, _, none⟩) NB841_846.out _).trans (hHeld.1)))), ((cell_far (p := ⟨gb846, _, none⟩) NB841_846.out _).trans (((cell_far (p := ⟨gb846, _, none⟩) NB841_846.out _).trans (hHeld.2))))⟩ (fun hHeld => ?_)
  clear hK K
  refine done_ (done_of HT_.out (by kernel_rfl)) ?_
  try go_wp2
  go_loopg [1] k (fun kq v1 w' => ∃ (x1_1 : Int) (x844000_1 : Int) (x844001_1 : Int) (x847000_1 : Int) (x847001_1 : Int), v1 = .int .i64 x1_1 ∧ Aside0 (spec_TwoPow.l0 kq x1_1 x844000_1 x844001_1 x847000_1 x847001_1 = some (r1, r2)) ∧ Aside0 (kq ≤ k) ∧ Aside0 (w'.heap[gb841]? = some (.cells #[.int .i64 a0_0, .int .i64 a0_1] 31 (0, 0))) ∧ Aside0 (w'.heap[gb842]? = some (.cells #[.int .i64 0, .int .i64 0] 31 (0, 0))) ∧ Aside0 (w'.heap[gb843]? = some (.cells #[.int .i64 x844000_1, .int .i64 x844001_1] 31 (0, 0))) ∧ Aside0 (w'.heap[gb846]? = some (.cells #[.int .i64 x847000_1, .int .i64 x847001_1] 31 (0, 0))) ∧ Aside0 (Below w.heap.size w w'))
  case atStart => exact ⟨(a1), (1), (0), (t844), (t845), rS, H', ⟨Nat.le_refl _⟩, ⟨bP BK841⟩, ⟨bP BK842⟩, ⟨bP BK843⟩, ⟨bU BK846⟩, ⟨bZ HB⟩⟩
  case round =>
   clear H'
   try clear c1
   try clear p2
   try clear c3
   try clear c3b0
   try clear c6
   try clear c7
   try clear c10
   try clear c13
   try clear c14
   try clear hcz15_0
   try clear hcz15_1
   try clear hcz7_0
   try clear hcz7_1
   try clear hfz15_0
   try clear hfz15_1
   try clear hfz7_0
   try clear hfz7_1
   obtain ⟨x1_1, x844000_1, x844001_1, x847000_1, x847001_1, rfl, HA, HK1, BK841, BK842, BK843, BK846, HB⟩ := hrel
   cases gk with
   | zero => exact absurd HA.out (by simp [spec_TwoPow.l0])
   | succ k1 =>
    have H := HA.out
    clear HA
    simp only [spec_TwoPow.l0] at H
    by_cases c22 : x1_1 > 0
    ·rw [if_pos c22] at H
     have c22b0 : decide (0 < x1_1) = true := decide_eq_true c22
     clear c22
     by_cases c23 : (Int.tmod x1_1 2) = 1
     ·rw [if_pos c23] at H
      have c23b0 : ((Int.tmod x1_1 2) == 1) = true := beq_iff_eq.mpr c23
      have c23b1 : ((Int.tmod x1_1 2) != 1) = false := bne_eq_false_iff_eq.mpr c23
      clear c23
      replace H := Option.bind_eq_some_iff.mp H
      obtain ⟨⟨t847, t848⟩, A240, H⟩ := H
      have A24 := Aside0.mk A240
      clear A240
      replace H := Option.bind_eq_some_iff.mp H
      obtain ⟨⟨t849, t850⟩, A250, H⟩ := H
      have A25 := Aside0.mk A250
      clear A250
      have H' := Aside0.mk H
      clear H
      obtain ⟨hnb26, hnc26⟩ := nB NB843_841
      obtain ⟨hnb27, hnc27⟩ := nB NB843_842
      obtain ⟨hnb28, hnc28⟩ := nB NB843_846
      obtain ⟨hcz29_0, hcz29_1, hfz29_0, hfz29_1⟩ := bK2 (w := wr) BK843
      obtain ⟨hnb30, hnc30⟩ := nB NB846_841
      obtain ⟨hnb31, hnc31⟩ := nB NB846_842
      obtain ⟨hcz32_0, hcz32_1, hfz32_0, hfz32_1⟩ := bK2 (w := wr) BK846
      go_wp2_with (first | ((with_reducible refine gate_callee (f := 71) rfl ?_); refine gL (some 25) Try.func71 #[.agg #[.int .i64 x844000_1, .int .i64 x844001_1], .agg #[.int .i64 x847000_1, .int .i64 x847001_1]] ?_; (with_reducible refine (spec_TwoMul.calls x844000_1 x844001_1 x847000_1 x847001_1 t847 t848 _ A24.out).mono ?_); rintro e w33 ⟨rfl, hb⟩; refine ⟨_, rfl, ?_⟩; replace BK841 := bB BK841 hb; replace BK842 := bB BK842 hb; replace BK843 := bB BK843 hb; replace BK846 := bB BK846 hb; replace HB := bS HB hb; (try clear hb); obtain ⟨hcz34_0, hcz34_1, hfz34_0, hfz34_1⟩ := bK2 (w := w33) BK843; obtain ⟨hcz35_0, hcz35_1, hfz35_0, hfz35_1⟩ := bK2 (w := w33) BK846) | ((with_reducible refine gate_callee (f := 71) rfl ?_); refine gL (some 28) Try.func71 #[.agg #[.int .i64 x847000_1, .int .i64 x847001_1], .agg #[.int .i64 x847000_1, .int .i64 x847001_1]] ?_; (with_reducible refine (spec_TwoMul.calls x847000_1 x847001_1 x847000_1 x847001_1 t849 t850 _ A25.out).mono ?_); rintro e w36 ⟨rfl, hb⟩; refine ⟨_, rfl, ?_⟩; replace BK841 := bB BK841 hb; replace BK842 := bB BK842 hb; replace BK843 := bV 31 #[.int .i64 t847, .int .i64 t848] BK843 hb; replace BK846 := bB BK846 hb; replace HB := bS HB hb; (try clear hb); obtain ⟨hcz37_0, hcz37_1, hfz37_0, hfz37_1⟩ := bK2 (w := w36) BK846))
      go_roundg k1
      case measure => have := HK1.out; omega
      case rel => exact ⟨(wrap64 (Int.tdiv x1_1 2)), (t847), (t848), (t849), (t850), rS, H', ⟨by have := HK1.out; omega⟩, ⟨bP BK841⟩, ⟨bP BK842⟩, ⟨bP BK843⟩, ⟨bU BK846⟩, ⟨bZ HB⟩⟩
     ·rw [if_neg c23] at H
      have c23b0 : ((Int.tmod x1_1 2) == 1) = false := beq_eq_false_iff_ne.mpr c23
      have c23b1 : ((Int.tmod x1_1 2) != 1) = true := bne_iff_ne.mpr c23
      replace H := Option.bind_eq_some_iff.mp H
      obtain ⟨⟨t851, t852⟩, A380, H⟩ := H
      have A38 := Aside0.mk A380
      clear A380
      have H' := Aside0.mk H
      clear H
      obtain ⟨hnb39, hnc39⟩ := nB NB846_841
      obtain ⟨hnb40, hnc40⟩ := nB NB846_842
      obtain ⟨hnb41, hnc41⟩ := nB NB846_843
      obtain ⟨hcz42_0, hcz42_1, hfz42_0, hfz42_1⟩ := bK2 (w := wr) BK846
      go_wp2_with (first | ((with_reducible refine gate_callee (f := 71) rfl ?_); refine gL (some 28) Try.func71 #[.agg #[.int .i64 x847000_1, .int .i64 x847001_1], .agg #[.int .i64 x847000_1, .int .i64 x847001_1]] ?_; (with_reducible refine (spec_TwoMul.calls x847000_1 x847001_1 x847000_1 x847001_1 t851 t852 _ A38.out).mono ?_); rintro e w43 ⟨rfl, hb⟩; refine ⟨_, rfl, ?_⟩; replace BK841 := bB BK841 hb; replace BK842 := bB BK842 hb; replace BK843 := bB BK843 hb; replace BK846 := bB BK846 hb; replace HB := bS HB hb; (try clear hb); obtain ⟨hcz44_0, hcz44_1, hfz44_0, hfz44_1⟩ := bK2 (w := w43) BK846))
      go_roundg k1
      case measure => have := HK1.out; omega
      case rel => exact ⟨(wrap64 (Int.tdiv x1_1 2)), (x844000_1), (x844001_1), (t851), (t852), rS, H', ⟨by have := HK1.out; omega⟩, ⟨bP BK841⟩, ⟨bP BK842⟩, ⟨bP BK843⟩, ⟨bU BK846⟩, ⟨bZ HB⟩⟩
    ·rw [if_neg c22] at H
     have c22b0 : decide (0 < x1_1) = false := decide_eq_false c22
     clear c22
     simp only [Option.some.injEq, Prod.mk.injEq] at H
     obtain ⟨rfl, rfl⟩ := H
     obtain ⟨hnb45, hnc45⟩ := nB NB843_841
     obtain ⟨hnb46, hnc46⟩ := nB NB843_842
     obtain ⟨hnb47, hnc47⟩ := nB NB843_846
     obtain ⟨hcz48_0, hcz48_1, hfz48_0, hfz48_1⟩ := bK2 (w := wr) BK843
     obtain ⟨hnb49, hnc49⟩ := nB NB842_841
     obtain ⟨hnb50, hnc50⟩ := nB NB842_846
     obtain ⟨hcz51_0, hcz51_1, hfz51_0, hfz51_1⟩ := bK2 (w := wr) BK842
     go_wp2
     refine rC gb842 31 #[.int .i64 x844000_1, .int .i64 x844001_1] (bU BK842) Try.underlying31 ?_
     exact ⟨rR, bZ HB⟩
/-! ### spec_TwoTurn: function 72 -/
def spec_TwoTurn.f (a0_0 : Int) (a0_1 : Int) : Option (Int × Int) := (spec_FpOf.f a0_0).bind fun t855 => ((spec_FpSub.f 0 a0_1).bind fun t856 => (some (t855, t856)))
def spec_TwoTurn.T1 : Bool × List (List Nat × List Nat) := (true, [([], []), ([0], [0]), ([1], [1]), ([], []), ([3], [3]), ([4, 2], [4]), ([2, 5], [2, 5]), ([6, 5, 0, 1, 2, 3, 4, 5, 6], [6])])
def spec_TwoTurn.B1 : List Nat := [0, 1, 3, 0, 8, 31, 63, 127]
theorem spec_TwoTurn.tab1 : rtab .any (opsOf Try.f72 1) = spec_TwoTurn.T1 := by kernel_rfl
theorem spec_TwoTurn.bits1 : waitsOk spec_TwoTurn.T1.2 spec_TwoTurn.B1 = true := by kernel_rfl
set_option maxHeartbeats 8000000 in
set_option maxRecDepth 100000 in
theorem spec_TwoTurn.calls (a0_0 : Int) (a0_1 : Int) (r1 : Int) (r2 : Int) (w : World) (h : spec_TwoTurn.f a0_0 a0_1 = some (r1, r2)) :
  Calls Try.prog 72 #[.agg #[.int .i64 a0_0, .int .i64 a0_1]] w fun e w' => e = .returned (.agg #[.int .i64 r1, .int .i64 r2]) ∧ Below w.heap.size w w' := by
 have hu31 := Try.underlying31
 have HB := Aside0.mk (Below.refl w.heap.size w)
 have H : ((spec_FpOf.f a0_0).bind fun t855 => ((spec_FpSub.f 0 a0_1).bind fun t856 => (some (t855, t856)))) = some (r1, r2) := h
 clear h
 replace H := Option.bind_eq_some_iff.mp H
 obtain ⟨t855, A20, H⟩ := H
 have A2 := Aside0.mk A20
 clear A20
 replace H := Option.bind_eq_some_iff.mp H
 obtain ⟨t856, A30, H⟩ := H
 have A3 := Aside0.mk A30
 clear A30
 simp only [Option.some.injEq, Prod.mk.injEq] at H
 obtain ⟨rfl, rfl⟩ := H
 go_enter Try.func72, Try.ntmps72
 try go_wp2_with (first | ((with_reducible refine gate_dst (N := 1) rfl ?_); refine bE 1 #[.int .i64 a0_0, .int .i64 a0_1] 31 ?_; intro gb853 hg w4 hbox hb; have BK853 := Aside0.mk (hbox); have GW853 := bG HB hg; have GE853 := bG HB hg; replace HB := bS HB hb; clear hb hbox hg) | ((with_reducible refine gate_dst (N := 2) rfl ?_); refine bE 2 #[.int .i64 0, .int .i64 0] 31 ?_; intro gb854 hg w5 hbox hb; have BK854 := Aside0.mk (hbox); have GW854 := bG HB hg; have GE854 := bG HB hg; replace HB := bS HB hb; have NB853_854 := bL BK853 hg; have NB854_853 := bR BK853 hg; replace BK853 := bB BK853 hb; clear hb hbox hg))
 replace BK853 := Aside0.mk (blk_drew BK853.out)
 replace BK854 := Aside0.mk (blk_drew BK854.out)
 replace HB := Aside0.mk (below_drew1 HB.out)
 refine start_ (n := 8) (S := fun w' => SQ2 w' gb853 (.int .i64 a0_0) (.int .i64 a0_1)) (ds := []) #[false, false, false, false, false, false, false, false] (by kernel_rfl) rfl rfl (bT2 BK853) (fun hHeld => ?_); refine with_tabW spec_TwoTurn.tab1 spec_TwoTurn.bits1 (fun HT_ HW_ => ?_)
 generalize w5.drew = w6 at BK853 BK854 HB hHeld ⊢
 refine pI 0 (some 3) HT_.out ?_
 refine pI 3 (some 6) HT_.out ?_
 refine tI2 1 (some 4) HT_.out HW_.out hHeld ?_
 refine tI2 4 (some 7) HT_.out HW_.out hHeld ?_
 refine oI 2 (some 5) HT_.out (fun K hK => ?_)
 refine gO Try.func102 #[.int .i64 a0_0] ?_
 with_reducible refine (spec_FpOf.calls a0_0 t855 _ A2.out).mono ?_
 rintro e w' ⟨rfl, ⟨nd, rfl⟩⟩
 refine ⟨_, rfl, ?_⟩
 refine hK.out _ _ (bT2 BK853) (fun hHeld => ?_)
 clear hK K
 refine nO (some 5) ?_
 refine oI 5 (some 8) HT_.out (fun K hK => ?_)
 refine gO Try.func75 #[.int .i64 0, .int .i64 a0_1] ?_
 with_reducible refine (spec_FpSub.calls 0 a0_1 t856 _ A3.out).mono ?_
 rintro e w' ⟨rfl, ⟨nd, rfl⟩⟩
 refine ⟨_, rfl, ?_⟩
 refine hK.out _ _ (bT2 BK853) (fun hHeld => ?_)
 clear hK K
 refine nO (some 8) ?_
 refine pI 6 (some 9) HT_.out ?_
 refine oI 7 (none) HT_.out (fun K hK => ?_)
 have hs7 : w6.cell? ⟨gb854, 0, none⟩ = some (.int .i64 0) := bc BK854 0
 have hfs7 := blk_frozen BK854.out 0
 obtain ⟨hns7_0, hms7_0⟩ := nB NB853_854
 have hs8 : w6.cell? ⟨gb854, 1, none⟩ = some (.int .i64 0) := bc BK854 1
 have hfs8 := blk_frozen BK854.out 1
 obtain ⟨hns8_0, hms8_0⟩ := nB NB853_854
 refine skip_ (w1 := ?_) (by rfl) rfl ?_ ?_
 rotate_left
 ·go_simp
  rfl
 refine hK.out _ _ ⟨((cell_far (p := ⟨gb854, _, none⟩) NB853_854.out _).trans (((cell_far (p := ⟨gb854, _, none⟩) NB853_854.out _).trans (hHeld.1)))), ((cell_far (p := ⟨gb854, _, none⟩) NB853_854.out _).trans (((cell_far (p := ⟨gb854, _, none⟩) NB853_854.out _).trans (hHeld.2))))⟩ (fun hHeld => ?_)
 clear hK K
 refine done_ (done_of HT_.out (by kernel_rfl)) ?_
 try go_wp2
 refine rC gb854 31 #[.int .i64 t855, .int .i64 t856] (bU BK854) Try.underlying31 ?_
 exact ⟨rR, bZ HB⟩
/-! ### spec_TwoInv: function 73 -/
def spec_TwoInv.f (k : Nat) (a0_0 : Int) (a0_1 : Int) : Option (Int × Int) := (spec_FpMul.f a0_0 a0_0).bind fun t859 => ((spec_FpMul.f a0_1 a0_1).bind fun t860 => ((spec_FpAdd.f t859 t860).bind fun t861 => ((spec_FpInv.f k t861).bind fun t862 => ((spec_FpMul.f a0_0 t862).bind fun t863 => ((spec_FpSub.f 0 a0_1).bind fun t864 => ((spec_FpMul.f t864 t862).bind fun t865 => (some (t863, t865))))))))
theorem spec_TwoInv.mono : ∀ a0 a1 k, LeO (spec_TwoInv.f k a0 a1) (spec_TwoInv.f (k + 1) a0 a1) := by
 intro a0 a1 k
 unfold spec_TwoInv.f
 repeat' first
   | (with_reducible exact spec_FpInv.mono _ _)
   | (with_reducible exact LeO.refl _)
   | (with_reducible exact LeO.none _)
   | (with_reducible refine LeO.ite ?_ ?_)
   | (with_reducible refine LeO.bind ?_ (fun _ => ?_))
   | exact spec_FpInv.mono _ _
   | exact LeO.none _
   | refine LeO.ite ?_ ?_
   | refine LeO.bind ?_ (fun _ => ?_)
def spec_TwoInv.T1 : Bool × List (List Nat × List Nat) := (true, [([], []), ([0], [0]), ([], []), ([2], [2]), ([1, 3], [1, 3]), ([], []), ([5], [5]), ([], []), ([7], [7]), ([6, 8, 4], [6, 8]), ([4, 9, 9], [4, 9]), ([10, 10], [10]), ([11, 11, 0, 1, 2, 3, 4, 5, 6, 7, 8, 9, 10, 11], [11])])
def spec_TwoInv.B1 : List Nat := [0, 1, 0, 4, 15, 0, 32, 0, 128, 511, 1023, 2047, 4095]
theorem spec_TwoInv.tab1 : rtab .any (opsOf Try.f73 1) = spec_TwoInv.T1 := by kernel_rfl
theorem spec_TwoInv.bits1 : waitsOk spec_TwoInv.T1.2 spec_TwoInv.B1 = true := by kernel_rfl
def spec_TwoInv.T2 : Bool × List (List Nat × List Nat) := (true, [([], []), ([0], [0]), ([], []), ([1, 2], [1, 2]), ([], []), ([4], [4]), ([5, 3], [5]), ([], []), ([6, 7, 6], [6, 7]), ([3, 8], [3, 8]), ([9, 8, 0, 1, 2, 3, 4, 5, 6, 7, 8, 9], [9])])
def spec_TwoInv.B2 : List Nat := [0, 1, 0, 7, 0, 16, 63, 0, 255, 511, 1023]
theorem spec_TwoInv.tab2 : rtab .any (opsOf Try.f73 2) = spec_TwoInv.T2 := by kernel_rfl
theorem spec_TwoInv.bits2 : waitsOk spec_TwoInv.T2.2 spec_TwoInv.B2 = true := by kernel_rfl
set_option maxHeartbeats 8000000 in
set_option maxRecDepth 100000 in
theorem spec_TwoInv.calls (k : Nat) (a0_0 : Int) (a0_1 : Int) (r1 : Int) (r2 : Int) (w : World) (h : spec_TwoInv.f k a0_0 a0_1 = some (r1, r2)) :
  Calls Try.prog 73 #[.agg #[.int .i64 a0_0, .int .i64 a0_1]] w fun e w' => e = .returned (.agg #[.int .i64 r1, .int .i64 r2]) ∧ Below w.heap.size w w' := by
 have hu31 := Try.underlying31
 have HB := Aside0.mk (Below.refl w.heap.size w)
 have H : ((spec_FpMul.f a0_0 a0_0).bind fun t859 => ((spec_FpMul.f a0_1 a0_1).bind fun t860 => ((spec_FpAdd.f t859 t860).bind fun t861 => ((spec_FpInv.f k t861).bind fun t862 => ((spec_FpMul.f a0_0 t862).bind fun t863 => ((spec_FpSub.f 0 a0_1).bind fun t864 => ((spec_FpMul.f t864 t862).bind fun t865 => (some (t863, t865))))))))) = some (r1, r2) := h
 clear h
 replace H := Option.bind_eq_some_iff.mp H
 obtain ⟨t859, A20, H⟩ := H
 have A2 := Aside0.mk A20
 clear A20
 replace H := Option.bind_eq_some_iff.mp H
 obtain ⟨t860, A30, H⟩ := H
 have A3 := Aside0.mk A30
 clear A30
 replace H := Option.bind_eq_some_iff.mp H
 obtain ⟨t861, A40, H⟩ := H
 have A4 := Aside0.mk A40
 clear A40
 replace H := Option.bind_eq_some_iff.mp H
 obtain ⟨t862, A50, H⟩ := H
 have A5 := Aside0.mk A50
 clear A50
 replace H := Option.bind_eq_some_iff.mp H
 obtain ⟨t863, A60, H⟩ := H
 have A6 := Aside0.mk A60
 clear A60
 replace H := Option.bind_eq_some_iff.mp H
 obtain ⟨t864, A70, H⟩ := H
 have A7 := Aside0.mk A70
 clear A70
 replace H := Option.bind_eq_some_iff.mp H
 obtain ⟨t865, A80, H⟩ := H
 have A8 := Aside0.mk A80
 clear A80
 simp only [Option.some.injEq, Prod.mk.injEq] at H
 obtain ⟨rfl, rfl⟩ := H
 go_enter Try.func73, Try.ntmps73
 try go_wp2_with (first | ((with_reducible refine gate_dst (N := 1) rfl ?_); refine bE 1 #[.int .i64 a0_0, .int .i64 a0_1] 31 ?_; intro gb857 hg w9 hbox hb; have BK857 := Aside0.mk (hbox); have GW857 := bG HB hg; have GE857 := bG HB hg; replace HB := bS HB hb; clear hb hbox hg) | ((with_reducible refine gate_dst (N := 2) rfl ?_); refine bE 2 #[.int .i64 0, .int .i64 0] 31 ?_; intro gb858 hg w10 hbox hb; have BK858 := Aside0.mk (hbox); have GW858 := bG HB hg; have GE858 := bG HB hg; replace HB := bS HB hb; have NB857_858 := bL BK857 hg; have NB858_857 := bR BK857 hg; replace BK857 := bB BK857 hb; clear hb hbox hg))
 replace BK857 := Aside0.mk (blk_drew BK857.out)
 replace BK858 := Aside0.mk (blk_drew BK858.out)
 replace HB := Aside0.mk (below_drew1 HB.out)
 refine start_ (n := 13) (S := fun w' => SQ2 w' gb857 (.int .i64 a0_0) (.int .i64 a0_1)) (ds := []) #[false, false, false, false, false, false, false, false, false, false, false, false, false] (by kernel_rfl) rfl rfl (bT2 BK857) (fun hHeld => ?_); refine with_tabW spec_TwoInv.tab1 spec_TwoInv.bits1 (fun HT_ HW_ => ?_)
 generalize w10.drew = w11 at BK857 BK858 HB hHeld ⊢
 refine pI 0 (some 4) HT_.out ?_
 refine pI 2 (some 6) HT_.out ?_
 refine pI 5 (some 9) HT_.out ?_
 refine pI 7 (some 11) HT_.out ?_
 refine tI2 1 (some 5) HT_.out HW_.out hHeld ?_
 refine tI2 3 (some 7) HT_.out HW_.out hHeld ?_
 refine tI2 6 (some 10) HT_.out HW_.out hHeld ?_
 refine tI2 8 (some 12) HT_.out HW_.out hHeld ?_
 refine oI 4 (some 8) HT_.out (fun K hK => ?_)
 refine gO Try.func76 #[.int .i64 a0_0, .int .i64 a0_0] ?_
 with_reducible refine (spec_FpMul.calls a0_0 a0_0 t859 _ A2.out).mono ?_
 rintro e w' ⟨rfl, ⟨nd, rfl⟩⟩
 refine ⟨_, rfl, ?_⟩
 refine hK.out _ _ (bT2 BK857) (fun hHeld => ?_)
 clear hK K
 refine nO (some 8) ?_
 refine oI 9 (some 13) HT_.out (fun K hK => ?_)
 refine gO Try.func76 #[.int .i64 a0_1, .int .i64 a0_1] ?_
 with_reducible refine (spec_FpMul.calls a0_1 a0_1 t860 _ A3.out).mono ?_
 rintro e w' ⟨rfl, ⟨nd, rfl⟩⟩
 refine ⟨_, rfl, ?_⟩
 refine hK.out _ _ (bT2 BK857) (fun hHeld => ?_)
 clear hK K
 refine nO (some 13) ?_
 refine oI 10 (some 14) HT_.out (fun K hK => ?_)
 refine gO Try.func103 #[.int .i64 t859, .int .i64 t860] ?_
 with_reducible refine (spec_FpAdd.calls t859 t860 t861 _ A4.out).mono ?_
 rintro e w' ⟨rfl, ⟨nd, rfl⟩⟩
 refine ⟨_, rfl, ?_⟩
 refine hK.out _ _ (bT2 BK857) (fun hHeld => ?_)
 clear hK K
 refine nO (some 14) ?_
 refine oI 11 (some 15) HT_.out (fun K hK => ?_)
 refine gO Try.func104 #[.int .i64 t861] ?_
 with_reducible refine (spec_FpInv.calls k t861 t862 _ A5.out).mono ?_
 rintro e w' ⟨rfl, ⟨nd, rfl⟩⟩
 refine ⟨_, rfl, ?_⟩
 refine hK.out _ _ (bT2 BK857) (fun hHeld => ?_)
 clear hK K
 refine nO (some 15) ?_
 refine pI 12 (some 3) HT_.out ?_
 refine done_ (done_of HT_.out (by kernel_rfl)) ?_
 try go_wp2
 (try simp only [World.drewN_drewN]); (try (rw [drewN_self w11]; generalize hq_ : World.drewN w11 _ = w11; replace BK857 : Aside0 (w11.heap[gb857]? = some (.cells #[.int .i64 a0_0, .int .i64 a0_1] 31 (0, 0))) := ⟨by rw [← hq_]; exact (bP BK857)⟩; replace BK858 : Aside0 (w11.heap[gb858]? = some (.cells #[.int .i64 0, .int .i64 0] 31 (0, 0))) := ⟨by rw [← hq_]; exact (bP BK858)⟩; replace HB : Aside0 (Below w.heap.size w w11) := ⟨by rw [← hq_]; exact (bZ HB)⟩; clear hq_))
 replace BK857 := Aside0.mk (blk_drew BK857.out)
 replace BK858 := Aside0.mk (blk_drew BK858.out)
 replace HB := Aside0.mk (below_drew1 HB.out)
 refine start_ (n := 11) (S := fun w' => SQ2 w' gb857 (.int .i64 a0_0) (.int .i64 a0_1)) (ds := []) #[false, false, false, false, false, false, false, false, false, false, false] (by kernel_rfl) rfl rfl (bT2 BK857) (fun hHeld => ?_); refine with_tabW spec_TwoInv.tab2 spec_TwoInv.bits2 (fun HT_ HW_ => ?_)
 generalize w11.drew = w12 at BK857 BK858 HB hHeld ⊢
 refine pI 0 (some 16) HT_.out ?_
 refine pI 2 (some 18) HT_.out ?_
 refine pI 4 (some 20) HT_.out ?_
 refine pI 7 (some 23) HT_.out ?_
 refine tI2 1 (some 17) HT_.out HW_.out hHeld ?_
 refine tI2 5 (some 21) HT_.out HW_.out hHeld ?_
 refine oI 3 (some 19) HT_.out (fun K hK => ?_)
 refine gO Try.func76 #[.int .i64 a0_0, .int .i64 t862] ?_
 with_reducible refine (spec_FpMul.calls a0_0 t862 t863 _ A6.out).mono ?_
 rintro e w' ⟨rfl, ⟨nd, rfl⟩⟩
 refine ⟨_, rfl, ?_⟩
 refine hK.out _ _ (bT2 BK857) (fun hHeld => ?_)
 clear hK K
 refine nO (some 19) ?_
 refine oI 6 (some 22) HT_.out (fun K hK => ?_)
 refine gO Try.func75 #[.int .i64 0, .int .i64 a0_1] ?_
 with_reducible refine (spec_FpSub.calls 0 a0_1 t864 _ A7.out).mono ?_
 rintro e w' ⟨rfl, ⟨nd, rfl⟩⟩
 refine ⟨_, rfl, ?_⟩
 refine hK.out _ _ (bT2 BK857) (fun hHeld => ?_)
 clear hK K
 refine nO (some 22) ?_
 refine oI 8 (some 24) HT_.out (fun K hK => ?_)
 refine gO Try.func76 #[.int .i64 t864, .int .i64 t862] ?_
 with_reducible refine (spec_FpMul.calls t864 t862 t865 _ A8.out).mono ?_
 rintro e w' ⟨rfl, ⟨nd, rfl⟩⟩
 refine ⟨_, rfl, ?_⟩
 refine hK.out _ _ (bT2 BK857) (fun hHeld => ?_)
 clear hK K
 refine nO (some 24) ?_
 refine pI 9 (some 25) HT_.out ?_
 refine oI 10 (none) HT_.out (fun K hK => ?_)
 have hs13 : w12.cell? ⟨gb858, 0, none⟩ = some (.int .i64 0) := bc BK858 0
 have hfs13 := blk_frozen BK858.out 0
 obtain ⟨hns13_0, hms13_0⟩ := nB NB857_858
 have hs14 : w12.cell? ⟨gb858, 1, none⟩ = some (.int .i64 0) := bc BK858 1
 have hfs14 := blk_frozen BK858.out 1
 obtain ⟨hns14_0, hms14_0⟩ := nB NB857_858
 refine skip_ (w1 := ?_) (by rfl) rfl ?_ ?_
 rotate_left
 ·go_simp
  rfl
 refine hK.out _ _ ⟨((cell_far (p := ⟨gb858, _, none⟩) NB857_858.out _).trans (((cell_far (p := ⟨gb858, _, none⟩) NB857_858.out _).trans (hHeld.1)))), ((cell_far (p := ⟨gb858, _, none⟩) NB857_858.out _).trans (((cell_far (p := ⟨gb858, _, none⟩) NB857_858.out _).trans (hHeld.2))))⟩ (fun hHeld => ?_)
 clear hK K
 refine done_ (done_of HT_.out (by kernel_rfl)) ?_
 try go_wp2
 refine rC gb858 31 #[.int .i64 t863, .int .i64 t865] (bU BK858) Try.underlying31 ?_
 exact ⟨rR, bZ HB⟩
/-! ### spec_Pairing: function 22 -/
def spec_Pairing.j0 : Nat → Bool → Int → Int → Bool → Int → Int → Bool → Option (Int × Int)
 | 0, _, _, _, _, _, _, _ => none
 | k + 1, x21, x867000, x867001, x867002, x868000, x868001, x868002 => if x21 = true then (some (1, 0)) else ((spec_Miller.f k x867000 x867001 x867002 x868000 x868001 x868002).bind fun bt871 => ((spec_TwoTurn.f bt871.1 bt871.2).bind fun bt874 => ((spec_TwoInv.f k bt871.1 bt871.2).bind fun bt876 => ((spec_TwoMul.f bt874.1 bt874.2 bt876.1 bt876.2).bind fun bt878 => ((spec_TwoPow.f k bt878.1 bt878.2 12).bind fun bt880 => (some (bt880.1, bt880.2)))))))
def spec_Pairing.f (k : Nat) (a0_0 : Int) (a0_1 : Int) (a0_2 : Bool) (a1_0 : Int) (a1_1 : Int) (a1_2 : Bool) : Option (Int × Int) := (spec_InGroup.f k a0_0 a0_1 a0_2).bind fun t869 => (if t869 = true then ((spec_InGroup.f k a1_0 a1_1 a1_2).bind fun t870 => (if t870 = true then (if a0_2 = true then (spec_Pairing.j0 k true a0_0 a0_1 a0_2 a1_0 a1_1 a1_2) else (spec_Pairing.j0 k a1_2 a0_0 a0_1 a0_2 a1_0 a1_1 a1_2)) else (spec_Pairing.j0 k true a0_0 a0_1 a0_2 a1_0 a1_1 a1_2))) else (spec_Pairing.j0 k true a0_0 a0_1 a0_2 a1_0 a1_1 a1_2))
theorem spec_Pairing.mono_l : ∀ k, (∀ y0 y1 y2 y3 y4 y5 y6, LeO (spec_Pairing.j0 k y0 y1 y2 y3 y4 y5 y6) (spec_Pairing.j0 (k + 1) y0 y1 y2 y3 y4 y5 y6))
 | 0 => fun _ _ _ _ _ _ _ r h => by simp [spec_Pairing.j0] at h
 | k + 1 => by
  have ih0 := spec_Pairing.mono_l k
  ·intro y0 y1 y2 y3 y4 y5 y6
   unfold spec_Pairing.j0
   repeat' first
   | (with_reducible exact ih0 _ _ _ _ _ _ _)
   | (with_reducible exact spec_InGroup.mono _ _ _ _)
   | (with_reducible exact spec_Miller.mono _ _ _ _ _ _ _)
   | (with_reducible exact spec_TwoInv.mono _ _ _)
   | (with_reducible exact spec_TwoPow.mono _ _ _ _)
   | (with_reducible exact LeO.refl _)
   | (with_reducible exact LeO.none _)
   | (with_reducible refine LeO.ite ?_ ?_)
   | (with_reducible refine LeO.bind ?_ (fun _ => ?_))
   | exact ih0 _ _ _ _ _ _ _
   | exact spec_InGroup.mono _ _ _ _
   | exact spec_Miller.mono _ _ _ _ _ _ _
   | exact spec_TwoInv.mono _ _ _
   | exact spec_TwoPow.mono _ _ _ _
   | exact LeO.none _
   | refine LeO.ite ?_ ?_
   | refine LeO.bind ?_ (fun _ => ?_)
theorem spec_Pairing.mono : ∀ a0 a1 a2 a3 a4 a5 k, LeO (spec_Pairing.f k a0 a1 a2 a3 a4 a5) (spec_Pairing.f (k + 1) a0 a1 a2 a3 a4 a5) := by
 intro a0 a1 a2 a3 a4 a5 k
 have ih0 := spec_Pairing.mono_l k
 unfold spec_Pairing.f
 repeat' first
   | (with_reducible exact ih0 _ _ _ _ _ _ _)
   | (with_reducible exact spec_InGroup.mono _ _ _ _)
   | (with_reducible exact spec_Miller.mono _ _ _ _ _ _ _)
   | (with_reducible exact spec_TwoInv.mono _ _ _)
   | (with_reducible exact spec_TwoPow.mono _ _ _ _)
   | (with_reducible exact LeO.refl _)
   | (with_reducible exact LeO.none _)
   | (with_reducible refine LeO.ite ?_ ?_)
   | (with_reducible refine LeO.bind ?_ (fun _ => ?_))
   | exact ih0 _ _ _ _ _ _ _
   | exact spec_InGroup.mono _ _ _ _
   | exact spec_Miller.mono _ _ _ _ _ _ _
   | exact spec_TwoInv.mono _ _ _
   | exact spec_TwoPow.mono _ _ _ _
   | exact LeO.none _
   | refine LeO.ite ?_ ?_
   | refine LeO.bind ?_ (fun _ => ?_)
set_option maxHeartbeats 8000000 in
set_option maxRecDepth 100000 in
theorem spec_Pairing.calls (k : Nat) (a0_0 : Int) (a0_1 : Int) (a0_2 : Bool) (a1_0 : Int) (a1_1 : Int) (a1_2 : Bool) (r1 : Int) (r2 : Int) (w : World) (h : spec_Pairing.f k a0_0 a0_1 a0_2 a1_0 a1_1 a1_2 = some (r1, r2)) :
  Calls Try.prog 22 #[.agg #[.int .i64 a0_0, .int .i64 a0_1, .bool a0_2], .agg #[.int .i64 a1_0, .int .i64 a1_1, .bool a1_2]] w fun e w' => e = .returned (.agg #[.int .i64 r1, .int .i64 r2]) ∧ Below w.heap.size w w' := by
 have hu25 := Try.underlying25
 have hu31 := Try.underlying31
 have HB := Aside0.mk (Below.refl w.heap.size w)
 have H : ((spec_InGroup.f k a0_0 a0_1 a0_2).bind fun t869 => (if t869 = true then ((spec_InGroup.f k a1_0 a1_1 a1_2).bind fun t870 => (if t870 = true then (if a0_2 = true then (spec_Pairing.j0 k true a0_0 a0_1 a0_2 a1_0 a1_1 a1_2) else (spec_Pairing.j0 k a1_2 a0_0 a0_1 a0_2 a1_0 a1_1 a1_2)) else (spec_Pairing.j0 k true a0_0 a0_1 a0_2 a1_0 a1_1 a1_2))) else (spec_Pairing.j0 k true a0_0 a0_1 a0_2 a1_0 a1_1 a1_2))) = some (r1, r2) := h
 clear h
 have HC3 := Aside0.mk H
 clear H
 go_enter Try.func22, Try.ntmps22
 go_upto_region 1 with (first | ((with_reducible refine gate_dst (N := 2) rfl ?_); refine bE 2 #[.int .i64 a0_0, .int .i64 a0_1, .bool a0_2] 25 ?_; intro gb866 hg w4 hbox hb; have BK866 := Aside0.mk (hbox); have GW866 := bG HB hg; have GE866 := bG HB hg; replace HB := bS HB hb; clear hb hbox hg) | ((with_reducible refine gate_dst (N := 3) rfl ?_); refine bE 3 #[.int .i64 a1_0, .int .i64 a1_1, .bool a1_2] 25 ?_; intro gb867 hg w5 hbox hb; have BK867 := Aside0.mk (hbox); have GW867 := bG HB hg; have GE867 := bG HB hg; replace HB := bS HB hb; have NB866_867 := bL BK866 hg; have NB867_866 := bR BK866 hg; replace BK866 := bB BK866 hb; clear hb hbox hg) | ((with_reducible refine gate_dst (N := 4) rfl ?_); refine bE 4 #[.int .i64 0, .int .i64 0] 31 ?_; intro gb868 hg w6 hbox hb; have BK868 := Aside0.mk (hbox); have GW868 := bG HB hg; have GE868 := bG HB hg; replace HB := bS HB hb; have NB866_868 := bL BK866 hg; have NB868_866 := bR BK866 hg; replace BK866 := bB BK866 hb; have NB867_868 := bL BK867 hg; have NB868_867 := bR BK867 hg; replace BK867 := bB BK867 hb; clear hb hbox hg))
 (try simp only [Act.put, List.setIfInBounds_toArray, List.set_cons_zero, List.set_cons_succ])
 go_cut [21] (fun v21 wc => ∃ (kq : Nat) (x21_2 : Bool), v21 = .bool x21_2 ∧ Aside0 (spec_Pairing.j0 kq x21_2 a0_0 a0_1 a0_2 a1_0 a1_1 a1_2 = some (r1, r2)) ∧ Aside0 (kq ≤ k) ∧ Aside0 (wc.heap[gb866]? = some (.cells #[.int .i64 a0_0, .int .i64 a0_1, .bool a0_2] 25 (0, 0))) ∧ Aside0 (wc.heap[gb867]? = some (.cells #[.int .i64 a1_0, .int .i64 a1_1, .bool a1_2] 25 (0, 0))) ∧ Aside0 (wc.heap[gb868]? = some (.cells #[.int .i64 0, .int .i64 0] 31 (0, 0))) ∧ Aside0 (Below w.heap.size w wc))
 case first =>
  have H := HC3.out
  clear HC3
  replace H := Option.bind_eq_some_iff.mp H
  obtain ⟨t869, A70, H⟩ := H
  have A7 := Aside0.mk A70
  clear A70
  by_cases c8 : t869 = true
  ·subst c8
   rw [if_pos rfl] at H
   replace H := Option.bind_eq_some_iff.mp H
   obtain ⟨t870, A90, H⟩ := H
   have A9 := Aside0.mk A90
   clear A90
   by_cases c10 : t870 = true
   ·subst c10
    rw [if_pos rfl] at H
    by_cases c11 : a0_2 = true
    ·subst c11
     rw [if_pos rfl] at H
     have H' := Aside0.mk H
     clear H
     obtain ⟨hnb12, hnc12⟩ := nB NB866_867
     obtain ⟨hnb13, hnc13⟩ := nB NB866_868
     obtain ⟨hcz14_0, hcz14_1, hcz14_2, hfz14_0, hfz14_1, hfz14_2⟩ := bK3 (w := w6) BK866
     go_wp2_with (first | ((with_reducible refine gate_callee (f := 52) rfl ?_); refine gL (some 7) Try.func52 #[.agg #[.int .i64 a0_0, .int .i64 a0_1, .bool true]] ?_; (with_reducible refine (spec_InGroup.calls k a0_0 a0_1 true true _ A7.out).mono ?_); rintro e w15 ⟨rfl, hb⟩; refine ⟨_, rfl, ?_⟩; replace BK866 := bB BK866 hb; replace BK867 := bB BK867 hb; replace BK868 := bB BK868 hb; replace HB := bS HB hb; (try clear hb); obtain ⟨hnb16, hnc16⟩ := nB NB867_868; obtain ⟨hcz17_0, hcz17_1, hcz17_2, hfz17_0, hfz17_1, hfz17_2⟩ := bK3 (w := w15) BK867) | (go_at_call 52; (with_reducible refine (spec_InGroup.calls k a1_0 a1_1 a1_2 true _ A9.out).mono ?_); rintro e w18 ⟨rfl, hb⟩; replace BK866 := bB BK866 hb; replace BK867 := bB BK867 hb; replace BK868 := bB BK868 hb; replace HB := bS HB hb; (try clear hb); obtain ⟨hcz19_0, hcz19_1, hcz19_2, hfz19_0, hfz19_1, hfz19_2⟩ := bK3 (w := w18) BK866))
     go_meet
     case rel => exact ⟨_, (true), rS, H', ⟨by first | omega | exact Nat.le_refl _⟩, ⟨bP BK866⟩, ⟨bP BK867⟩, ⟨bP BK868⟩, ⟨bZ HB⟩⟩
    ·replace c11 := Bool.eq_false_iff.mpr c11
     subst c11
     rw [if_neg (show ¬ (false = true) by decide)] at H
     have H' := Aside0.mk H
     clear H
     obtain ⟨hnb20, hnc20⟩ := nB NB866_867
     obtain ⟨hnb21, hnc21⟩ := nB NB866_868
     obtain ⟨hcz22_0, hcz22_1, hcz22_2, hfz22_0, hfz22_1, hfz22_2⟩ := bK3 (w := w6) BK866
     go_wp2_with (first | ((with_reducible refine gate_callee (f := 52) rfl ?_); refine gL (some 7) Try.func52 #[.agg #[.int .i64 a0_0, .int .i64 a0_1, .bool false]] ?_; (with_reducible refine (spec_InGroup.calls k a0_0 a0_1 false true _ A7.out).mono ?_); rintro e w23 ⟨rfl, hb⟩; refine ⟨_, rfl, ?_⟩; replace BK866 := bB BK866 hb; replace BK867 := bB BK867 hb; replace BK868 := bB BK868 hb; replace HB := bS HB hb; (try clear hb); obtain ⟨hnb24, hnc24⟩ := nB NB867_868; obtain ⟨hcz25_0, hcz25_1, hcz25_2, hfz25_0, hfz25_1, hfz25_2⟩ := bK3 (w := w23) BK867) | (go_at_call 52; (with_reducible refine (spec_InGroup.calls k a1_0 a1_1 a1_2 true _ A9.out).mono ?_); rintro e w26 ⟨rfl, hb⟩; replace BK866 := bB BK866 hb; replace BK867 := bB BK867 hb; replace BK868 := bB BK868 hb; replace HB := bS HB hb; (try clear hb); obtain ⟨hcz27_0, hcz27_1, hcz27_2, hfz27_0, hfz27_1, hfz27_2⟩ := bK3 (w := w26) BK866; obtain ⟨hcz28_0, hcz28_1, hcz28_2, hfz28_0, hfz28_1, hfz28_2⟩ := bK3 (w := w26) BK867))
     go_meet
     case rel => exact ⟨_, (a1_2), rS, H', ⟨by first | omega | exact Nat.le_refl _⟩, ⟨bP BK866⟩, ⟨bP BK867⟩, ⟨bP BK868⟩, ⟨bZ HB⟩⟩
   ·replace c10 := Bool.eq_false_iff.mpr c10
    subst c10
    rw [if_neg (show ¬ (false = true) by decide)] at H
    have H' := Aside0.mk H
    clear H
    obtain ⟨hnb29, hnc29⟩ := nB NB866_867
    obtain ⟨hnb30, hnc30⟩ := nB NB866_868
    obtain ⟨hcz31_0, hcz31_1, hcz31_2, hfz31_0, hfz31_1, hfz31_2⟩ := bK3 (w := w6) BK866
    go_wp2_with (first | ((with_reducible refine gate_callee (f := 52) rfl ?_); refine gL (some 7) Try.func52 #[.agg #[.int .i64 a0_0, .int .i64 a0_1, .bool a0_2]] ?_; (with_reducible refine (spec_InGroup.calls k a0_0 a0_1 a0_2 true _ A7.out).mono ?_); rintro e w32 ⟨rfl, hb⟩; refine ⟨_, rfl, ?_⟩; replace BK866 := bB BK866 hb; replace BK867 := bB BK867 hb; replace BK868 := bB BK868 hb; replace HB := bS HB hb; (try clear hb); obtain ⟨hnb33, hnc33⟩ := nB NB867_868; obtain ⟨hcz34_0, hcz34_1, hcz34_2, hfz34_0, hfz34_1, hfz34_2⟩ := bK3 (w := w32) BK867) | (go_at_call 52; (with_reducible refine (spec_InGroup.calls k a1_0 a1_1 a1_2 false _ A9.out).mono ?_); rintro e w35 ⟨rfl, hb⟩; replace BK866 := bB BK866 hb; replace BK867 := bB BK867 hb; replace BK868 := bB BK868 hb; replace HB := bS HB hb; (try clear hb)))
    go_meet
    case rel => exact ⟨_, (true), rS, H', ⟨by first | omega | exact Nat.le_refl _⟩, ⟨bP BK866⟩, ⟨bP BK867⟩, ⟨bP BK868⟩, ⟨bZ HB⟩⟩
  ·replace c8 := Bool.eq_false_iff.mpr c8
   subst c8
   rw [if_neg (show ¬ (false = true) by decide)] at H
   have H' := Aside0.mk H
   clear H
   obtain ⟨hnb36, hnc36⟩ := nB NB866_867
   obtain ⟨hnb37, hnc37⟩ := nB NB866_868
   obtain ⟨hcz38_0, hcz38_1, hcz38_2, hfz38_0, hfz38_1, hfz38_2⟩ := bK3 (w := w6) BK866
   go_wp2_with (first | ((with_reducible refine gate_callee (f := 52) rfl ?_); refine gL (some 7) Try.func52 #[.agg #[.int .i64 a0_0, .int .i64 a0_1, .bool a0_2]] ?_; (with_reducible refine (spec_InGroup.calls k a0_0 a0_1 a0_2 false _ A7.out).mono ?_); rintro e w39 ⟨rfl, hb⟩; refine ⟨_, rfl, ?_⟩; replace BK866 := bB BK866 hb; replace BK867 := bB BK867 hb; replace BK868 := bB BK868 hb; replace HB := bS HB hb; (try clear hb)))
   go_meet
   case rel => exact ⟨_, (true), rS, H', ⟨by first | omega | exact Nat.le_refl _⟩, ⟨bP BK866⟩, ⟨bP BK867⟩, ⟨bP BK868⟩, ⟨bZ HB⟩⟩
 case rest =>
  clear HC3
  try clear c1
  try clear c2
  try clear p2
  try clear c3
  try clear c5
  try clear c8
  try clear c10
  try clear c11
  try clear c12
  try clear c13
  try clear c16
  try clear c20
  try clear c21
  try clear c22
  try clear c24
  try clear c29
  try clear c30
  try clear c33
  try clear c36
  try clear c37
  try clear hcz14_0
  try clear hcz14_1
  try clear hcz14_2
  try clear hcz17_0
  try clear hcz17_1
  try clear hcz17_2
  try clear hcz19_0
  try clear hcz19_1
  try clear hcz19_2
  try clear hcz22_0
  try clear hcz22_1
  try clear hcz22_2
  try clear hcz25_0
  try clear hcz25_1
  try clear hcz25_2
  try clear hcz27_0
  try clear hcz27_1
  try clear hcz27_2
  try clear hcz28_0
  try clear hcz28_1
  try clear hcz28_2
  try clear hcz31_0
  try clear hcz31_1
  try clear hcz31_2
  try clear hcz34_0
  try clear hcz34_1
  try clear hcz34_2
  try clear hcz38_0
  try clear hcz38_1
  try clear hcz38_2
  try clear hfz14_0
  try clear hfz14_1
  try clear hfz14_2
  try clear hfz17_0
  try clear hfz17_1
  try clear hfz17_2
  try clear hfz19_0
  try clear hfz19_1
  try clear hfz19_2
  try clear hfz22_0
  try clear hfz22_1
  try clear hfz22_2
  try clear hfz25_0
  try clear hfz25_1
  try clear hfz25_2
  try clear hfz27_0
  try clear hfz27_1
  try clear hfz27_2
  try clear hfz28_0
  try clear hfz28_1
  try clear hfz28_2
  try clear hfz31_0
  try clear hfz31_1
  try clear hfz31_2
  try clear hfz34_0
  try clear hfz34_1
  try clear hfz34_2
  try clear hfz38_0
  try clear hfz38_1
  try clear hfz38_2
  obtain ⟨kq, x21_2, rfl, HA, HJ2, BK866, BK867, BK868, HB⟩ := hcut
  cases kq with
  | zero => exact absurd HA.out (by simp [spec_Pairing.j0])
  | succ kj2 =>
   have H := HA.out
   clear HA
   simp only [spec_Pairing.j0] at H
   by_cases c40 : x21_2 = true
   ·subst c40
    rw [if_pos rfl] at H
    simp only [Option.some.injEq, Prod.mk.injEq] at H
    obtain ⟨rfl, rfl⟩ := H
    obtain ⟨hnb41, hnc41⟩ := nB NB868_866
    obtain ⟨hnb42, hnc42⟩ := nB NB868_867
    obtain ⟨hcz43_0, hcz43_1, hfz43_0, hfz43_1⟩ := bK2 (w := wc) BK868
    go_wp2
    refine rC gb868 31 #[.int .i64 1, .int .i64 0] (bU BK868) Try.underlying31 ?_
    exact ⟨rR, bZ HB⟩
   ·replace c40 := Bool.eq_false_iff.mpr c40
    subst c40
    rw [if_neg (show ¬ (false = true) by decide)] at H
    replace H := Option.bind_eq_some_iff.mp H
    obtain ⟨⟨t871, t872⟩, A440, H⟩ := H
    have A44 := Aside0.mk A440
    clear A440
    replace H := Option.bind_eq_some_iff.mp H
    obtain ⟨⟨t874, t875⟩, A450, H⟩ := H
    have A45 := Aside0.mk A450
    clear A450
    replace H := Option.bind_eq_some_iff.mp H
    obtain ⟨⟨t876, t877⟩, A460, H⟩ := H
    have A46 := Aside0.mk A460
    clear A460
    replace H := Option.bind_eq_some_iff.mp H
    obtain ⟨⟨t878, t879⟩, A470, H⟩ := H
    have A47 := Aside0.mk A470
    clear A470
    replace H := Option.bind_eq_some_iff.mp H
    obtain ⟨⟨t880, t881⟩, A480, H⟩ := H
    have A48 := Aside0.mk A480
    clear A480
    simp only [Option.some.injEq, Prod.mk.injEq] at H
    obtain ⟨rfl, rfl⟩ := H
    obtain ⟨hnb49, hnc49⟩ := nB NB866_867
    obtain ⟨hnb50, hnc50⟩ := nB NB866_868
    obtain ⟨hcz51_0, hcz51_1, hcz51_2, hfz51_0, hfz51_1, hfz51_2⟩ := bK3 (w := wc) BK866
    obtain ⟨hnb52, hnc52⟩ := nB NB867_868
    obtain ⟨hcz53_0, hcz53_1, hcz53_2, hfz53_0, hfz53_1, hfz53_2⟩ := bK3 (w := wc) BK867
    try go_wp2_with (first | ((with_reducible refine gate_callee (f := 39) rfl ?_); refine gL (some 25) Try.func39 #[.agg #[.int .i64 a0_0, .int .i64 a0_1, .bool a0_2], .agg #[.int .i64 a1_0, .int .i64 a1_1, .bool a1_2]] ?_; (with_reducible refine (spec_Miller.calls kj2 a0_0 a0_1 a0_2 a1_0 a1_1 a1_2 t871 t872 _ A44.out).mono ?_); rintro e w54 ⟨rfl, hb⟩; refine ⟨_, rfl, ?_⟩; replace BK866 := bB BK866 hb; replace BK867 := bB BK867 hb; replace BK868 := bB BK868 hb; replace HB := bS HB hb; (try clear hb)) | ((with_reducible refine gate_dst (N := 5) rfl ?_); refine bE 5 #[.int .i64 0, .int .i64 0] 31 ?_; intro gb873 hg w55 hbox hb; have BK873 := Aside0.mk (hbox); have GW873 := bG HB hg; have GE873 := bG HB hg; replace HB := bS HB hb; have NB866_873 := bL BK866 hg; have NB873_866 := bR BK866 hg; replace BK866 := bB BK866 hb; have NB867_873 := bL BK867 hg; have NB873_867 := bR BK867 hg; replace BK867 := bB BK867 hb; have NB868_873 := bL BK868 hg; have NB873_868 := bR BK868 hg; replace BK868 := bB BK868 hb; clear hb hbox hg; obtain ⟨hnb56, hnc56⟩ := nB NB873_866; obtain ⟨hnb57, hnc57⟩ := nB NB873_867; obtain ⟨hnb58, hnc58⟩ := nB NB873_868; obtain ⟨hcz59_0, hcz59_1, hfz59_0, hfz59_1⟩ := bK2 (w := w55) BK873))
    obtain ⟨w60, hW_⟩ : ∃ W_ : World, W_ = ((w55.setCell ⟨gb873, 0, none⟩ (.int .i64 t871)).setCell ⟨gb873, 1, none⟩ (.int .i64 t872)) := ⟨_, rfl⟩
    replace BK866 := bW hW_ BK866
    replace BK867 := bW hW_ BK867
    replace BK868 := bW hW_ BK868
    replace BK873 := bX hW_ 31 #[.int .i64 t871, .int .i64 t872] BK873
    replace HB := zW hW_ HB
    rw [← hW_]
    clear hW_
    replace BK866 := Aside0.mk (blk_drew BK866.out)
    replace BK867 := Aside0.mk (blk_drew BK867.out)
    replace BK868 := Aside0.mk (blk_drew BK868.out)
    replace BK873 := Aside0.mk (blk_drew BK873.out)
    replace HB := Aside0.mk (below_drew1 HB.out)
    refine start_ (n := 7) (S := fun w' => SQ2 w' gb873 (.int .i64 t871) (.int .i64 t872)) (ds := []) #[false, false, false, false, false, false, false] (by kernel_rfl) rfl rfl (bT2 BK873) (fun hHeld => ?_)
    generalize w60.drew = w61 at BK866 BK867 BK868 BK873 HB hHeld ⊢
    refine take_ (i := 0) (N := some 26) (v := ?_) (a' := ?_) #[true, false, false, false, false, false, false] rfl rfl (by kernel_rfl) (fun _ _ _ h => h) (Or.inl ⟨by rfl, ?_⟩) hHeld ?_ ?_
    rotate_left
    ·rintro w' ⟨s0, s1⟩
     go_simp
     with_reducible rfl
    rotate_left
    ·simp only [Act.put, List.setIfInBounds_toArray, List.set_cons_zero, List.set_cons_succ, i64_w, i32_w]
     rfl
    refine take_ (i := 2) (N := some 28) (v := ?_) (a' := ?_) #[true, false, true, false, false, false, false] rfl rfl (by kernel_rfl) (fun _ _ _ h => h) (Or.inl ⟨by rfl, ?_⟩) hHeld ?_ ?_
    rotate_left
    ·rintro w' ⟨s0, s1⟩
     go_simp
     with_reducible rfl
    rotate_left
    ·simp only [Act.put, List.setIfInBounds_toArray, List.set_cons_zero, List.set_cons_succ, i64_w, i32_w]
     rfl
    refine one_ (i := 1) (N := some 27) #[true, true, true, false, false, false, false] rfl rfl (by kernel_rfl) (by decide) (fun K hK => ?_)
    refine gO Try.func72 #[.agg #[.int .i64 t871, .int .i64 t872]] ?_
    with_reducible refine (spec_TwoTurn.calls t871 t872 t874 t875 _ A45.out).mono ?_
    rintro e w62 ⟨rfl, hb⟩
    refine ⟨_, rfl, ?_⟩
    replace BK866 := bB BK866 hb
    replace BK867 := bB BK867 hb
    replace BK868 := bB BK868 hb
    replace BK873 := bB BK873 hb
    replace HB := bS HB hb
    (try clear hb)
    refine hK.out _ _ (bT2 BK873) (fun hHeld => ?_)
    clear hK K
    refine nO (some 27) ?_
    refine one_ (i := 3) (N := some 29) #[true, true, true, true, false, false, false] rfl rfl (by kernel_rfl) (by decide) (fun K hK => ?_)
    refine gO Try.func73 #[.agg #[.int .i64 t871, .int .i64 t872]] ?_
    with_reducible refine (spec_TwoInv.calls kj2 t871 t872 t876 t877 _ A46.out).mono ?_
    rintro e w63 ⟨rfl, hb⟩
    refine ⟨_, rfl, ?_⟩
    replace BK866 := bB BK866 hb
    replace BK867 := bB BK867 hb
    replace BK868 := bB BK868 hb
    replace BK873 := bB BK873 hb
    replace HB := bS HB hb
    (try clear hb)
    refine hK.out _ _ (bT2 BK873) (fun hHeld => ?_)
    clear hK K
    refine nO (some 29) ?_
    refine one_ (i := 4) (N := some 30) #[true, true, true, true, true, false, false] rfl rfl (by kernel_rfl) (by decide) (fun K hK => ?_)
    refine gO Try.func71 #[.agg #[.int .i64 t874, .int .i64 t875], .agg #[.int .i64 t876, .int .i64 t877]] ?_
    with_reducible refine (spec_TwoMul.calls t874 t875 t876 t877 t878 t879 _ A47.out).mono ?_
    rintro e w64 ⟨rfl, hb⟩
    refine ⟨_, rfl, ?_⟩
    replace BK866 := bB BK866 hb
    replace BK867 := bB BK867 hb
    replace BK868 := bB BK868 hb
    replace BK873 := bB BK873 hb
    replace HB := bS HB hb
    (try clear hb)
    refine hK.out _ _ (bT2 BK873) (fun hHeld => ?_)
    clear hK K
    refine nO (some 30) ?_
    refine one_ (i := 5) (N := some 31) #[true, true, true, true, true, true, false] rfl rfl (by kernel_rfl) (by decide) (fun K hK => ?_)
    refine gO Try.func70 #[.agg #[.int .i64 t878, .int .i64 t879], .int .i64 12] ?_
    with_reducible refine (spec_TwoPow.calls kj2 t878 t879 12 t880 t881 _ A48.out).mono ?_
    rintro e w65 ⟨rfl, hb⟩
    refine ⟨_, rfl, ?_⟩
    replace BK866 := bB BK866 hb
    replace BK867 := bB BK867 hb
    replace BK868 := bB BK868 hb
    replace BK873 := bB BK873 hb
    replace HB := bS HB hb
    (try clear hb)
    refine hK.out _ _ (bT2 BK873) (fun hHeld => ?_)
    clear hK K
    refine nO (some 31) ?_
    refine one_ (i := 6) (N := none) #[true, true, true, true, true, true, true] rfl rfl (by kernel_rfl) (by decide) (fun K hK => ?_)
    have hs66 : w65.cell? ⟨gb868, 0, none⟩ = some (.int .i64 0) := bc BK868 0
    have hfs66 := blk_frozen BK868.out 0
    have hns66_0 := NB866_868.out
    have hns66_1 := NB867_868.out
    have hns66_3 := NB873_868.out
    have hms66_0 := NB868_866.out
    have hms66_1 := NB868_867.out
    have hms66_3 := NB868_873.out
    have hs67 : w65.cell? ⟨gb868, 1, none⟩ = some (.int .i64 0) := bc BK868 1
    have hfs67 := blk_frozen BK868.out 1
    have hns67_0 := NB866_868.out
    have hns67_1 := NB867_868.out
    have hns67_3 := NB873_868.out
    have hms67_0 := NB868_866.out
    have hms67_1 := NB868_867.out
    have hms67_3 := NB868_873.out
    refine skip_ (w1 := ?_) (by rfl) rfl ?_ ?_
    rotate_left
    ·go_simp
     rfl
    refine hK.out _ _ ⟨((cell_far (p := ⟨gb868, _, none⟩) NB873_868.out _).trans (((cell_far (p := ⟨gb868, _, none⟩) NB873_868.out _).trans (hHeld.1)))), ((cell_far (p := ⟨gb868, _, none⟩) NB873_868.out _).trans (((cell_far (p := ⟨gb868, _, none⟩) NB873_868.out _).trans (hHeld.2))))⟩ (fun hHeld => ?_)
    clear hK K
    refine done_ (by kernel_rfl) ?_
    try go_wp2
    refine rC gb868 31 #[.int .i64 t880, .int .i64 t881] (bU BK868) Try.underlying31 ?_
    exact ⟨rR, bZ HB⟩
end Go.Proofs.Ytmbjefdkjdemhaa.Pf
end
section
namespace Go.Proofs.Ytmbjefdkjdemhaa.Pf
open Go.RowKit Go.Proofs.YtmbjefdkjdemhaaW.PrintWords Go.Proofs.YtmbjefdkjdemhaaW.PrintLast Go.Proofs.YtmbjefdkjdemhaaW.PrintMore
attribute [local go_sem] max2_int min2_int max_two min_two max_three min_three max_four min_four   -- for this text's walks alone
set_option linter.unusedVariables false
set_option linter.unusedSimpArgs false

attribute [local go_sem high] eqA31
/-! ### spec_PairsRight: function 41 -/
mutual
def spec_PairsRight.l0 : Nat → List (S25) → List (S25) → Int → Int → Int → Option (Bool)
 | 0, _, _, _, _, _ => none
 | k + 1, x0, x1, x6, x883000, x883001 => if x6 < (x0.length : Int) then (if 0 ≤ x6 then ((spec_InGroup.f k ((rd_T25 x0 x6).f0) ((rd_T25 x0 x6).f1) ((rd_T25 x0 x6).f2)).bind fun t884 => (if t884 = true then (if x6 < (x1.length : Int) then ((spec_InGroup.f k ((rd_T25 x1 x6).f0) ((rd_T25 x1 x6).f1) ((rd_T25 x1 x6).f2)).bind fun t886 => (spec_PairsRight.j1 k x0 x1 x6 (!t886) x883000 x883001)) else (none)) else (spec_PairsRight.j1 k x0 x1 x6 true x883000 x883001))) else (none)) else (some (x883000 == 1 && (x883001 == 0)))
def spec_PairsRight.j1 : Nat → List (S25) → List (S25) → Int → Bool → Int → Int → Option (Bool)
 | 0, _, _, _, _, _, _ => none
 | k + 1, x0, x1, x6, x32, x883000, x883001 => if x32 = true then (some false) else (if 0 ≤ x6 then (if x6 < (x0.length : Int) then (if x6 < (x1.length : Int) then ((spec_Pairing.f k ((rd_T25 x0 x6).f0) ((rd_T25 x0 x6).f1) ((rd_T25 x0 x6).f2) ((rd_T25 x1 x6).f0) ((rd_T25 x1 x6).f1) ((rd_T25 x1 x6).f2)).bind fun bt889 => ((spec_TwoMul.f x883000 x883001 bt889.1 bt889.2).bind fun bt891 => (spec_PairsRight.l0 k x0 x1 (wrap64 (x6 + 1)) bt891.1 bt891.2))) else (none)) else (none)) else (none))
end
def spec_PairsRight.f (k : Nat) (l0 : List (S25)) (l1 : List (S25)) : Option (Bool) := if (l0.length : Int) = (l1.length : Int) then (spec_PairsRight.l0 k l0 l1 0 1 0) else (some false)
theorem spec_PairsRight.mono_l : ∀ k, (∀ y0 y1 y2 y3 y4, LeO (spec_PairsRight.l0 k y0 y1 y2 y3 y4) (spec_PairsRight.l0 (k + 1) y0 y1 y2 y3 y4)) ∧ (∀ y0 y1 y2 y3 y4 y5, LeO (spec_PairsRight.j1 k y0 y1 y2 y3 y4 y5) (spec_PairsRight.j1 (k + 1) y0 y1 y2 y3 y4 y5))
 | 0 => ⟨fun _ _ _ _ _ r h => by simp [spec_PairsRight.l0] at h, fun _ _ _ _ _ _ r h => by simp [spec_PairsRight.j1] at h⟩
 | k + 1 => by
  obtain ⟨ih0, ih1⟩ := spec_PairsRight.mono_l k
  refine ⟨?_, ?_⟩
  ·intro y0 y1 y2 y3 y4
   unfold spec_PairsRight.l0
   repeat' first
   | (with_reducible exact ih0 _ _ _ _ _)
   | (with_reducible exact ih1 _ _ _ _ _ _)
   | (with_reducible exact spec_InGroup.mono _ _ _ _)
   | (with_reducible exact spec_Pairing.mono _ _ _ _ _ _ _)
   | (with_reducible exact LeO.refl _)
   | (with_reducible exact LeO.none _)
   | (with_reducible refine LeO.ite ?_ ?_)
   | (with_reducible refine LeO.bind ?_ (fun _ => ?_))
   | exact ih0 _ _ _ _ _
   | exact ih1 _ _ _ _ _ _
   | exact spec_InGroup.mono _ _ _ _
   | exact spec_Pairing.mono _ _ _ _ _ _ _
   | exact LeO.none _
   | refine LeO.ite ?_ ?_
   | refine LeO.bind ?_ (fun _ => ?_)
  ·intro y0 y1 y2 y3 y4 y5
   unfold spec_PairsRight.j1
   repeat' first
   | (with_reducible exact ih0 _ _ _ _ _)
   | (with_reducible exact ih1 _ _ _ _ _ _)
   | (with_reducible exact spec_InGroup.mono _ _ _ _)
   | (with_reducible exact spec_Pairing.mono _ _ _ _ _ _ _)
   | (with_reducible exact LeO.refl _)
   | (with_reducible exact LeO.none _)
   | (with_reducible refine LeO.ite ?_ ?_)
   | (with_reducible refine LeO.bind ?_ (fun _ => ?_))
   | exact ih0 _ _ _ _ _
   | exact ih1 _ _ _ _ _ _
   | exact spec_InGroup.mono _ _ _ _
   | exact spec_Pairing.mono _ _ _ _ _ _ _
   | exact LeO.none _
   | refine LeO.ite ?_ ?_
   | refine LeO.bind ?_ (fun _ => ?_)
theorem spec_PairsRight.mono : ∀ a0 a1 k, LeO (spec_PairsRight.f k a0 a1) (spec_PairsRight.f (k + 1) a0 a1) := by
 intro a0 a1 k
 obtain ⟨ih0, ih1⟩ := spec_PairsRight.mono_l k
 unfold spec_PairsRight.f
 repeat' first
   | (with_reducible exact ih0 _ _ _ _ _)
   | (with_reducible exact ih1 _ _ _ _ _ _)
   | (with_reducible exact spec_InGroup.mono _ _ _ _)
   | (with_reducible exact spec_Pairing.mono _ _ _ _ _ _ _)
   | (with_reducible exact LeO.refl _)
   | (with_reducible exact LeO.none _)
   | (with_reducible refine LeO.ite ?_ ?_)
   | (with_reducible refine LeO.bind ?_ (fun _ => ?_))
   | exact ih0 _ _ _ _ _
   | exact ih1 _ _ _ _ _ _
   | exact spec_InGroup.mono _ _ _ _
   | exact spec_Pairing.mono _ _ _ _ _ _ _
   | exact LeO.none _
   | refine LeO.ite ?_ ?_
   | refine LeO.bind ?_ (fun _ => ?_)
def spec_PairsRight.T9 : Bool × List (List Nat × List Nat) := (true, [([], []), ([], []), ([], []), ([1, 2], [1, 2]), ([3], [3]), ([], []), ([], []), ([5, 6], [5, 6]), ([7], [7]), ([4, 8], [4, 8]), ([0, 9, 9], [0, 9]), ([10, 10, 0, 1, 2, 3, 4, 5, 6, 7, 8, 9, 10], [10])])
def spec_PairsRight.B9 : List Nat := [0, 0, 0, 6, 14, 0, 0, 96, 224, 510, 1023, 2047]
theorem spec_PairsRight.tab9 : rtab .any (opsOf Try.f41 9) = spec_PairsRight.T9 := by kernel_rfl
theorem spec_PairsRight.bits9 : waitsOk spec_PairsRight.T9.2 spec_PairsRight.B9 = true := by kernel_rfl
set_option maxHeartbeats 8000000 in
set_option maxRecDepth 100000 in
theorem spec_PairsRight.calls (k : Nat) (A0 : Option Addr) (c0 : Nat) (l0 : List (S25)) (A1 : Option Addr) (c1 : Nat) (l1 : List (S25)) (r : Bool) (w : World) (hr0 : Kd.C k25 w A0 l0.length l0) (hc0 : l0.length ≤ c0) (hr1 : Kd.C k25 w A1 l1.length l1) (hc1 : l1.length ≤ c1) (h : spec_PairsRight.f k l0 l1 = some r) :
  Calls Try.prog 41 #[.slice A0 l0.length c0, .slice A1 l1.length c1] w fun e w' => e = .returned (.bool r) ∧ Below w.heap.size w w' := by
 have hu31 := Try.underlying31
 have hu25 := Try.underlying25
 have HR0 := Aside0.mk hr0
 have HC0 := Aside0.mk hc0
 clear hr0 hc0
 have HR1 := Aside0.mk hr1
 have HC1 := Aside0.mk hc1
 clear hr1 hc1
 have HB := Aside0.mk (Below.refl w.heap.size w)
 have H : (if (l0.length : Int) = (l1.length : Int) then (spec_PairsRight.l0 k l0 l1 0 1 0) else (some false)) = some r := h
 clear h
 by_cases c3 : (l0.length : Int) = (l1.length : Int)
 ·rw [if_pos c3] at H
  have c3b0 : ((l0.length : Int) == (l1.length : Int)) = true := beq_iff_eq.mpr c3
  have c3b1 : ((l0.length : Int) != (l1.length : Int)) = false := bne_eq_false_iff_eq.mpr c3
  have c3b2 : (l0.length == l1.length) = true := by first | simpa using c3 | (simp at c3 ⊢; omega)
  clear c3
  have H' := Aside0.mk H
  clear H
  go_enter Try.func41, Try.ntmps41
  go_wp2_with (first | ((with_reducible refine gate_dst (N := 5) rfl ?_); refine bE 5 #[.int .i64 0, .int .i64 0] 31 ?_; intro gb882 hg w4 hbox hb; have BK882 := Aside0.mk (hbox); have GW882 := bG HB hg; have GE882 := bG HB hg; replace HB := bS HB hb; clear hb hbox hg; obtain ⟨hcz5_0, hcz5_1, hfz5_0, hfz5_1⟩ := bK2 (w := w4) BK882))
  go_loopg [6] k (fun kq v6 w' => ∃ (x6_1 : Int) (x883000_1 : Int) (x883001_1 : Int), v6 = .int .i64 x6_1 ∧ Aside0 (spec_PairsRight.l0 kq l0 l1 x6_1 x883000_1 x883001_1 = some r) ∧ Aside0 (kq ≤ k) ∧ Aside0 (w'.heap[gb882]? = some (.cells #[.int .i64 x883000_1, .int .i64 x883001_1] 31 (0, 0))) ∧ Aside0 (Below w.heap.size w w'))
  case atStart => exact ⟨(0), (1), (0), rS, H', ⟨Nat.le_refl _⟩, ⟨bU BK882⟩, ⟨bZ HB⟩⟩
  case round =>
   clear H'
   try clear c1
   try clear p2
   try clear c3
   try clear c3b0
   try clear c3b1
   try clear c3b2
   try clear c4
   try clear hcz5_0
   try clear hcz5_1
   try clear hfz5_0
   try clear hfz5_1
   obtain ⟨x6_1, x883000_1, x883001_1, rfl, HA, HK1, BK882, HB⟩ := hrel
   cases gk with
   | zero => exact absurd HA.out (by simp [spec_PairsRight.l0])
   | succ k1 =>
    have H := HA.out
    clear HA
    simp only [spec_PairsRight.l0] at H
    by_cases c6 : x6_1 < (l0.length : Int)
    ·rw [if_pos c6] at H
     have c6b0 : decide (x6_1 < (l0.length : Int)) = true := decide_eq_true c6
     clear c6
     have HC7 := Aside0.mk H
     clear H
     go_upto_region 7 with (fail)
     go_cut [32] (fun v32 wc => ∃ (kq : Nat) (x32_6 : Bool), v32 = .bool x32_6 ∧ Aside0 (spec_PairsRight.j1 kq l0 l1 x6_1 x32_6 x883000_1 x883001_1 = some r) ∧ Aside0 (kq ≤ k1) ∧ Aside0 (wc.heap[gb882]? = some (.cells #[.int .i64 x883000_1, .int .i64 x883001_1] 31 (0, 0))) ∧ Aside0 (Below w.heap.size w wc))
     case first =>
      have H := HC7.out
      clear HC7
      by_cases c8 : 0 ≤ x6_1
      ·rw [if_pos c8] at H
       have c8b0 : decide (0 ≤ x6_1) = true := decide_eq_true c8
       clear c8
       (first | rw [c8b0] | (simp only [i64_w, i32_w]; rw [c8b0]) | rw [c8b1] | skip)
       replace H := Option.bind_eq_some_iff.mp H
       obtain ⟨t884, A90, H⟩ := H
       have A9 := Aside0.mk A90
       clear A90
       by_cases c10 : t884 = true
       ·subst c10
        rw [if_pos rfl] at H
        by_cases c11 : x6_1 < (l1.length : Int)
        ·rw [if_pos c11] at H
         have c11b0 : decide (x6_1 < (l1.length : Int)) = true := decide_eq_true c11
         clear c11
         replace H := Option.bind_eq_some_iff.mp H
         obtain ⟨t886, A120, H⟩ := H
         have A12 := Aside0.mk A120
         clear A120
         have H' := Aside0.mk H
         clear H
         have p883 : 0 ≤ (x6_1 : Int) := of_decide_eq_true (by first | (with_reducible assumption) | assumption)
         have q883 : x6_1 < (l0.length : Int) := of_decide_eq_true (by first | (with_reducible assumption) | assumption)
         obtain ⟨ad883, e883, hx883_0, hx883_1, hx883_2⟩ := at_T25 HR0.out x6_1 p883 q883
         cases e883
         replace hx883_0 := hC HB hx883_0
         replace hx883_1 := hC HB hx883_1
         replace hx883_2 := hC HB hx883_2
         replace p883 := eq_true p883
         replace q883 := eq_true q883
         go_wp2_with (first | ((with_reducible refine gate_callee (f := 52) rfl ?_); refine gL (some 23) Try.func52 #[.agg #[.int .i64 ((rd_T25 l0 x6_1).f0), .int .i64 ((rd_T25 l0 x6_1).f1), .bool ((rd_T25 l0 x6_1).f2)]] ?_; (with_reducible refine (spec_InGroup.calls k1 ((rd_T25 l0 x6_1).f0) ((rd_T25 l0 x6_1).f1) ((rd_T25 l0 x6_1).f2) true _ A9.out).mono ?_); rintro e w13 ⟨rfl, hb⟩; refine ⟨_, rfl, ?_⟩; replace BK882 := bB BK882 hb; replace HB := bS HB hb; (try clear hb); have p885 : 0 ≤ (x6_1 : Int) := of_decide_eq_true (by first | (with_reducible assumption) | assumption); have q885 : x6_1 < (l1.length : Int) := of_decide_eq_true (by first | (with_reducible assumption) | assumption); obtain ⟨ad885, e885, hx885_0, hx885_1, hx885_2⟩ := at_T25 HR1.out x6_1 p885 q885; cases e885; replace hx885_0 := hC HB hx885_0; replace hx885_1 := hC HB hx885_1; replace hx885_2 := hC HB hx885_2; replace p885 := eq_true p885; replace q885 := eq_true q885) | (go_at_call 52; (with_reducible refine (spec_InGroup.calls k1 ((rd_T25 l1 x6_1).f0) ((rd_T25 l1 x6_1).f1) ((rd_T25 l1 x6_1).f2) t886 _ A12.out).mono ?_); rintro e w14 ⟨rfl, hb⟩; replace BK882 := bB BK882 hb; replace HB := bS HB hb; (try clear hb)))
         go_meet
         case rel => exact ⟨_, (!t886), rS, H', ⟨by have := HK1.out; first | omega | exact Nat.le_refl _⟩, ⟨bP BK882⟩, ⟨bZ HB⟩⟩
        ·rw [if_neg c11] at H
         exact absurd H (by simp)
       ·replace c10 := Bool.eq_false_iff.mpr c10
        subst c10
        rw [if_neg (show ¬ (false = true) by decide)] at H
        have H' := Aside0.mk H
        clear H
        have p883 : 0 ≤ (x6_1 : Int) := of_decide_eq_true (by first | (with_reducible assumption) | assumption)
        have q883 : x6_1 < (l0.length : Int) := of_decide_eq_true (by first | (with_reducible assumption) | assumption)
        obtain ⟨ad883, e883, hx883_0, hx883_1, hx883_2⟩ := at_T25 HR0.out x6_1 p883 q883
        cases e883
        replace hx883_0 := hC HB hx883_0
        replace hx883_1 := hC HB hx883_1
        replace hx883_2 := hC HB hx883_2
        replace p883 := eq_true p883
        replace q883 := eq_true q883
        go_wp2_with (first | ((with_reducible refine gate_callee (f := 52) rfl ?_); refine gL (some 23) Try.func52 #[.agg #[.int .i64 ((rd_T25 l0 x6_1).f0), .int .i64 ((rd_T25 l0 x6_1).f1), .bool ((rd_T25 l0 x6_1).f2)]] ?_; (with_reducible refine (spec_InGroup.calls k1 ((rd_T25 l0 x6_1).f0) ((rd_T25 l0 x6_1).f1) ((rd_T25 l0 x6_1).f2) false _ A9.out).mono ?_); rintro e w15 ⟨rfl, hb⟩; refine ⟨_, rfl, ?_⟩; replace BK882 := bB BK882 hb; replace HB := bS HB hb; (try clear hb)))
        go_meet
        case rel => exact ⟨_, (true), rS, H', ⟨by have := HK1.out; first | omega | exact Nat.le_refl _⟩, ⟨bP BK882⟩, ⟨bZ HB⟩⟩
      ·rw [if_neg c8] at H
       exact absurd H (by simp)
     case rest =>
      clear HC7
      try clear c1
      try clear p2
      try clear c3
      try clear c3b0
      try clear c3b1
      try clear c3b2
      try clear c4
      try clear c5
      try clear c6
      try clear c6b0
      try clear c8
      try clear c8b0
      try clear p8
      try clear q8
      try clear hx8
      try clear c10
      try clear c11
      try clear c11b0
      try clear hcz5_0
      try clear hcz5_1
      try clear hfz5_0
      try clear hfz5_1
      try clear hx883_0
      try clear hx883_1
      try clear hx883_2
      try clear hx885_0
      try clear hx885_1
      try clear hx885_2
      try clear p2
      try clear p883
      try clear p885
      try clear q883
      try clear q885
      obtain ⟨kq, x32_6, rfl, HA, HJ6, BK882, HB⟩ := hcut
      cases kq with
      | zero => exact absurd HA.out (by simp [spec_PairsRight.j1])
      | succ kj6 =>
       have H := HA.out
       clear HA
       simp only [spec_PairsRight.j1] at H
       by_cases c16 : x32_6 = true
       ·subst c16
        rw [if_pos rfl] at H
        obtain rfl := Option.some.inj H
        go_wp2
        go_ret
        exact ⟨rR, bZ HB⟩
       ·replace c16 := Bool.eq_false_iff.mpr c16
        subst c16
        rw [if_neg (show ¬ (false = true) by decide)] at H
        by_cases c17 : 0 ≤ x6_1
        ·rw [if_pos c17] at H
         have c17b0 : decide (0 ≤ x6_1) = true := decide_eq_true c17
         clear c17
         by_cases c18 : x6_1 < (l0.length : Int)
         ·rw [if_pos c18] at H
          have c18b0 : decide (x6_1 < (l0.length : Int)) = true := decide_eq_true c18
          clear c18
          by_cases c19 : x6_1 < (l1.length : Int)
          ·rw [if_pos c19] at H
           have c19b0 : decide (x6_1 < (l1.length : Int)) = true := decide_eq_true c19
           clear c19
           replace H := Option.bind_eq_some_iff.mp H
           obtain ⟨⟨t889, t890⟩, A200, H⟩ := H
           have A20 := Aside0.mk A200
           clear A200
           replace H := Option.bind_eq_some_iff.mp H
           obtain ⟨⟨t891, t892⟩, A210, H⟩ := H
           have A21 := Aside0.mk A210
           clear A210
           have H' := Aside0.mk H
           clear H
           try go_wp2
           replace BK882 := Aside0.mk (blk_drew BK882.out)
           replace HB := Aside0.mk (below_drew1 HB.out)
           have p887 : 0 ≤ (x6_1 : Int) := of_decide_eq_true (by first | (with_reducible assumption) | assumption)
           have q887 : x6_1 < (l0.length : Int) := of_decide_eq_true (by first | (with_reducible assumption) | assumption)
           obtain ⟨ad887, e887, hx887_0, hx887_1, hx887_2⟩ := at_T25 HR0.out x6_1 p887 q887
           have hw887_2 := hx887_2
           have hw887_1 := hx887_1
           have hw887_0 := hx887_0
           cases e887
           replace hx887_0 := hC HB hx887_0
           replace hx887_1 := hC HB hx887_1
           replace hx887_2 := hC HB hx887_2
           replace p887 := eq_true p887
           replace q887 := eq_true q887
           have p888 : 0 ≤ (x6_1 : Int) := of_decide_eq_true (by first | (with_reducible assumption) | assumption)
           have q888 : x6_1 < (l1.length : Int) := of_decide_eq_true (by first | (with_reducible assumption) | assumption)
           obtain ⟨ad888, e888, hx888_0, hx888_1, hx888_2⟩ := at_T25 HR1.out x6_1 p888 q888
           have hw888_2 := hx888_2
           have hw888_1 := hx888_1
           have hw888_0 := hx888_0
           cases e888
           replace hx888_0 := hC HB hx888_0
           replace hx888_1 := hC HB hx888_1
           replace hx888_2 := hC HB hx888_2
           replace p888 := eq_true p888
           replace q888 := eq_true q888
           refine start_ (n := 12) (S := fun w' => w'.cell? ⟨gb882, 0, none⟩ = some (.int .i64 x883000_1) ∧ w'.cell? ⟨gb882, 1, none⟩ = some (.int .i64 x883001_1) ∧ w'.cell? (ad887.add ((x6_1).toNat * 3)) = some (.int .i64 ((rd_T25 l0 x6_1).f0)) ∧ w'.cell? ⟨(ad887.add ((x6_1).toNat * 3)).block, (ad887.add ((x6_1).toNat * 3)).off + 1, none⟩ = some (.int .i64 ((rd_T25 l0 x6_1).f1)) ∧ w'.cell? ⟨(ad887.add ((x6_1).toNat * 3)).block, (ad887.add ((x6_1).toNat * 3)).off + 2, none⟩ = some (.bool ((rd_T25 l0 x6_1).f2)) ∧ w'.cell? (ad888.add ((x6_1).toNat * 3)) = some (.int .i64 ((rd_T25 l1 x6_1).f0)) ∧ w'.cell? ⟨(ad888.add ((x6_1).toNat * 3)).block, (ad888.add ((x6_1).toNat * 3)).off + 1, none⟩ = some (.int .i64 ((rd_T25 l1 x6_1).f1)) ∧ w'.cell? ⟨(ad888.add ((x6_1).toNat * 3)).block, (ad888.add ((x6_1).toNat * 3)).off + 2, none⟩ = some (.bool ((rd_T25 l1 x6_1).f2))) (ds := [11]) #[false, false, false, false, false, false, false, false, false, false, false, false] (by kernel_rfl) rfl rfl ⟨bc BK882 0, bc BK882 1, (hC HB hw887_0), (hC HB hw887_1), (hC HB hw887_2), (hC HB hw888_0), (hC HB hw888_1), (hC HB hw888_2)⟩ (fun hHeld => ?_); refine with_tabW spec_PairsRight.tab9 spec_PairsRight.bits9 (fun HT_ HW_ => ?_)
           generalize wc.drew = w22 at BK882 HB hx887_0 hx887_1 hx887_2 hx888_0 hx888_1 hx888_2 hHeld ⊢
           refine pI 1 (some 34) HT_.out ?_
           refine pI 2 (some 35) HT_.out ?_
           refine pI 3 (some 36) HT_.out ?_
           refine pI 5 (some 38) HT_.out ?_
           refine pI 6 (some 39) HT_.out ?_
           refine pI 7 (some 40) HT_.out ?_
           refine tI8 0 (some 33) HT_.out HW_.out hHeld ?_
           refine tI8 4 (some 37) HT_.out HW_.out hHeld ?_
           refine tI8 8 (some 41) HT_.out HW_.out hHeld ?_
           refine oI 9 (some 42) HT_.out (fun K hK => ?_)
           refine gO Try.func22 #[.agg #[.int .i64 ((rd_T25 l0 x6_1).f0), .int .i64 ((rd_T25 l0 x6_1).f1), .bool ((rd_T25 l0 x6_1).f2)], .agg #[.int .i64 ((rd_T25 l1 x6_1).f0), .int .i64 ((rd_T25 l1 x6_1).f1), .bool ((rd_T25 l1 x6_1).f2)]] ?_
           with_reducible refine (spec_Pairing.calls kj6 ((rd_T25 l0 x6_1).f0) ((rd_T25 l0 x6_1).f1) ((rd_T25 l0 x6_1).f2) ((rd_T25 l1 x6_1).f0) ((rd_T25 l1 x6_1).f1) ((rd_T25 l1 x6_1).f2) t889 t890 _ A20.out).mono ?_
           rintro e w23 ⟨rfl, hb⟩
           refine ⟨_, rfl, ?_⟩
           replace BK882 := bB BK882 hb
           replace HB := bS HB hb
           (try clear hb)
           refine hK.out _ _ ⟨bc BK882 0, bc BK882 1, (hC HB hw887_0), (hC HB hw887_1), (hC HB hw887_2), (hC HB hw888_0), (hC HB hw888_1), (hC HB hw888_2)⟩ (fun hHeld => ?_)
           clear hK K
           refine nO (some 42) ?_
           refine oI 10 (some 43) HT_.out (fun K hK => ?_)
           refine gO Try.func71 #[.agg #[.int .i64 x883000_1, .int .i64 x883001_1], .agg #[.int .i64 t889, .int .i64 t890]] ?_
           with_reducible refine (spec_TwoMul.calls x883000_1 x883001_1 t889 t890 t891 t892 _ A21.out).mono ?_
           rintro e w24 ⟨rfl, hb⟩
           refine ⟨_, rfl, ?_⟩
           replace BK882 := bB BK882 hb
           replace HB := bS HB hb
           (try clear hb)
           refine hK.out _ _ ⟨bc BK882 0, bc BK882 1, (hC HB hw887_0), (hC HB hw887_1), (hC HB hw887_2), (hC HB hw888_0), (hC HB hw888_1), (hC HB hw888_2)⟩ (fun hHeld => ?_)
           clear hK K
           refine nO (some 43) ?_
           refine last_ (i := 11) (N := none) #[true, true, true, true, true, true, true, true, true, true, true, true] rfl rfl (one_of HT_.out (by kernel_rfl)) (by decide) (fun K hK => ?_)
           have hs25 : w24.cell? ⟨gb882, 0, none⟩ = some (.int .i64 x883000_1) := bc BK882 0
           have hfs25 := blk_frozen BK882.out 0
           have hs26 : w24.cell? ⟨gb882, 1, none⟩ = some (.int .i64 x883001_1) := bc BK882 1
           have hfs26 := blk_frozen BK882.out 1
           refine skip_ (w1 := ?_) (by rfl) rfl ?_ ?_
           rotate_left
           ·go_simp
            rfl
           refine hK.out _ _ ?_
           clear hK K
           refine done_ (done_of HT_.out (by kernel_rfl)) ?_
           try go_wp2
           go_roundg kj6
           case measure => have := HK1.out; have := HJ6.out; omega
           case rel => exact ⟨(wrap64 (x6_1 + 1)), (t891), (t892), rS, H', ⟨by have := HK1.out; have := HJ6.out; omega⟩, ⟨bU BK882⟩, ⟨bZ HB⟩⟩
          ·rw [if_neg c19] at H
           exact absurd H (by simp)
         ·rw [if_neg c18] at H
          exact absurd H (by simp)
        ·rw [if_neg c17] at H
         exact absurd H (by simp)
    ·rw [if_neg c6] at H
     have c6b0 : decide (x6_1 < (l0.length : Int)) = false := decide_eq_false c6
     clear c6
     obtain rfl := Option.some.inj H
     obtain ⟨hcz27_0, hcz27_1, hfz27_0, hfz27_1⟩ := bK2 (w := wr) BK882
     go_wp2
     go_ret
     exact ⟨rR, bZ HB⟩
 ·rw [if_neg c3] at H
  have c3b0 : ((l0.length : Int) == (l1.length : Int)) = false := beq_eq_false_iff_ne.mpr c3
  have c3b1 : ((l0.length : Int) != (l1.length : Int)) = true := bne_iff_ne.mpr c3
  have c3b2 : (l0.length == l1.length) = false := by first | simpa using c3 | (simp at c3 ⊢; omega)
  obtain rfl := Option.some.inj H
  go_enter Try.func41, Try.ntmps41
  go_wp2
  go_ret
  exact ⟨rR, bZ HB⟩

end Go.Proofs.Ytmbjefdkjdemhaa.Pf
end
section
namespace Go.Proofs.Ytmbjefdkjdemhaa.Pf
open Go.RowKit Go.Proofs.YtmbjefdkjdemhaaW.PrintWords Go.Proofs.YtmbjefdkjdemhaaW.PrintLast Go.Proofs.YtmbjefdkjdemhaaW.PrintMore
attribute [local go_sem] max2_int min2_int max_two min_two max_three min_three max_four min_four   -- for this text's walks alone
set_option linter.unusedVariables false
set_option linter.unusedSimpArgs false

attribute [local go_sem high] eqA31
/-! ### impl_PairsRight: function 42 -/
mutual
def impl_PairsRight.l0 : Nat → List (S25) → List (S25) → Int → Int → Int → Int → Option (Bool)
 | 0, _, _, _, _, _, _ => none
 | k + 1, x0, x1, x14, x15, x894000, x894001 => if x15 < x14 then (if 0 ≤ x15 then (if x15 < (x0.length : Int) then ((impl_InGroup.f k ((rd_T25 x0 x15).f0) ((rd_T25 x0 x15).f1) ((rd_T25 x0 x15).f2)).bind fun t895 => (if t895 = true then (if x15 < (x1.length : Int) then ((impl_InGroup.f k ((rd_T25 x1 x15).f0) ((rd_T25 x1 x15).f1) ((rd_T25 x1 x15).f2)).bind fun t897 => (impl_PairsRight.j1 k x0 x1 x15 x14 x15 (!t897) x894000 x894001)) else (none)) else (impl_PairsRight.j1 k x0 x1 x15 x14 x15 true x894000 x894001))) else (none)) else (none)) else (some (x894000 == 1 && (x894001 == 0)))
def impl_PairsRight.j1 : Nat → List (S25) → List (S25) → Int → Int → Int → Bool → Int → Int → Option (Bool)
 | 0, _, _, _, _, _, _, _, _ => none
 | k + 1, x0, x1, x6, x14, x15, x31, x894000, x894001 => if x31 = true then (some false) else (if 0 ≤ x6 then (if x6 < (x0.length : Int) then (if x6 < (x1.length : Int) then ((impl_Pairing.f k ((rd_T25 x0 x6).f0) ((rd_T25 x0 x6).f1) ((rd_T25 x0 x6).f2) ((rd_T25 x1 x6).f0) ((rd_T25 x1 x6).f1) ((rd_T25 x1 x6).f2)).bind fun bt900 => ((impl_TwoMul.f x894000 x894001 bt900.1 bt900.2).bind fun bt902 => (impl_PairsRight.l0 k x0 x1 x14 (wrap64 (x15 + 1)) bt902.1 bt902.2))) else (none)) else (none)) else (none))
end
def impl_PairsRight.f (k : Nat) (l0 : List (S25)) (l1 : List (S25)) : Option (Bool) := if (l0.length : Int) = (l1.length : Int) then (impl_PairsRight.l0 k l0 l1 (l0.length : Int) 0 1 0) else (some false)
theorem impl_PairsRight.mono_l : ∀ k, (∀ y0 y1 y2 y3 y4 y5, LeO (impl_PairsRight.l0 k y0 y1 y2 y3 y4 y5) (impl_PairsRight.l0 (k + 1) y0 y1 y2 y3 y4 y5)) ∧ (∀ y0 y1 y2 y3 y4 y5 y6 y7, LeO (impl_PairsRight.j1 k y0 y1 y2 y3 y4 y5 y6 y7) (impl_PairsRight.j1 (k + 1) y0 y1 y2 y3 y4 y5 y6 y7))
 | 0 => ⟨fun _ _ _ _ _ _ r h => by simp [impl_PairsRight.l0] at h, fun _ _ _ _ _ _ _ _ r h => by simp [impl_PairsRight.j1] at h⟩
 | k + 1 => by
  obtain ⟨ih0, ih1⟩ := impl_PairsRight.mono_l k
  refine ⟨?_, ?_⟩
  ·intro y0 y1 y2 y3 y4 y5
   unfold impl_PairsRight.l0
   repeat' first
   | (with_reducible exact ih0 _ _ _ _ _ _)
   | (with_reducible exact ih1 _ _ _ _ _ _ _ _)
   | (with_reducible exact impl_InGroup.mono _ _ _ _)
   | (with_reducible exact impl_Pairing.mono _ _ _ _ _ _ _)
   | (with_reducible exact LeO.refl _)
   | (with_reducible exact LeO.none _)
   | (with_reducible refine LeO.ite ?_ ?_)
   | (with_reducible refine LeO.bind ?_ (fun _ => ?_))
   | exact ih0 _ _ _ _ _ _
   | exact ih1 _ _ _ _ _ _ _ _
   | exact impl_InGroup.mono _ _ _ _
   | exact impl_Pairing.mono _ _ _ _ _ _ _
   | exact LeO.none _
   | refine LeO.ite ?_ ?_
   | refine LeO.bind ?_ (fun _ => ?_)
  ·intro y0 y1 y2 y3 y4 y5 y6 y7
   unfold impl_PairsRight.j1
   repeat' first
   | (with_reducible exact ih0 _ _ _ _ _ _)
   | (with_reducible exact ih1 _ _ _ _ _ _ _ _)
   | (with_reducible exact impl_InGroup.mono _ _ _ _)
   | (with_reducible exact impl_Pairing.mono _ _ _ _ _ _ _)
   | (with_reducible exact LeO.refl _)
   | (with_reducible exact LeO.none _)
   | (with_reducible refine LeO.ite ?_ ?_)
   | (with_reducible refine LeO.bind ?_ (fun _ => ?_))
   | exact ih0 _ _ _ _ _ _
   | exact ih1 _ _ _ _ _ _ _ _
   | exact impl_InGroup.mono _ _ _ _
   | exact impl_Pairing.mono _ _ _ _ _ _ _
   | exact LeO.none _
   | refine LeO.ite ?_ ?_
   | refine LeO.bind ?_ (fun _ => ?_)
theorem impl_PairsRight.mono : ∀ a0 a1 k, LeO (impl_PairsRight.f k a0 a1) (impl_PairsRight.f (k + 1) a0 a1) := by
 intro a0 a1 k
 obtain ⟨ih0, ih1⟩ := impl_PairsRight.mono_l k
 unfold impl_PairsRight.f
 repeat' first
   | (with_reducible exact ih0 _ _ _ _ _ _)
   | (with_reducible exact ih1 _ _ _ _ _ _ _ _)
   | (with_reducible exact impl_InGroup.mono _ _ _ _)
   | (with_reducible exact impl_Pairing.mono _ _ _ _ _ _ _)
   | (with_reducible exact LeO.refl _)
   | (with_reducible exact LeO.none _)
   | (with_reducible refine LeO.ite ?_ ?_)
   | (with_reducible refine LeO.bind ?_ (fun _ => ?_))
   | exact ih0 _ _ _ _ _ _
   | exact ih1 _ _ _ _ _ _ _ _
   | exact impl_InGroup.mono _ _ _ _
   | exact impl_Pairing.mono _ _ _ _ _ _ _
   | exact LeO.none _
   | refine LeO.ite ?_ ?_
   | refine LeO.bind ?_ (fun _ => ?_)
def impl_PairsRight.T9 : Bool × List (List Nat × List Nat) := (true, [([], []), ([], []), ([], []), ([1, 2], [1, 2]), ([3], [3]), ([], []), ([], []), ([5, 6], [5, 6]), ([7], [7]), ([4, 8], [4, 8]), ([0, 9, 9], [0, 9]), ([10, 10, 0, 1, 2, 3, 4, 5, 6, 7, 8, 9, 10], [10])])
def impl_PairsRight.B9 : List Nat := [0, 0, 0, 6, 14, 0, 0, 96, 224, 510, 1023, 2047]
theorem impl_PairsRight.tab9 : rtab .any (opsOf Try.f42 9) = impl_PairsRight.T9 := by kernel_rfl
theorem impl_PairsRight.bits9 : waitsOk impl_PairsRight.T9.2 impl_PairsRight.B9 = true := by kernel_rfl
set_option maxHeartbeats 8000000 in
set_option maxRecDepth 100000 in
theorem impl_PairsRight.calls (k : Nat) (A0 : Option Addr) (c0 : Nat) (l0 : List (S25)) (A1 : Option Addr) (c1 : Nat) (l1 : List (S25)) (r : Bool) (w : World) (hr0 : Kd.C k25 w A0 l0.length l0) (hc0 : l0.length ≤ c0) (hr1 : Kd.C k25 w A1 l1.length l1) (hc1 : l1.length ≤ c1) (h : impl_PairsRight.f k l0 l1 = some r) :
  Calls Try.prog 42 #[.slice A0 l0.length c0, .slice A1 l1.length c1] w fun e w' => e = .returned (.bool r) ∧ Below w.heap.size w w' := by
 have hu31 := Try.underlying31
 have hu25 := Try.underlying25
 have HR0 := Aside0.mk hr0
 have HC0 := Aside0.mk hc0
 clear hr0 hc0
 have HR1 := Aside0.mk hr1
 have HC1 := Aside0.mk hc1
 clear hr1 hc1
 have HB := Aside0.mk (Below.refl w.heap.size w)
 have H : (if (l0.length : Int) = (l1.length : Int) then (impl_PairsRight.l0 k l0 l1 (l0.length : Int) 0 1 0) else (some false)) = some r := h
 clear h
 by_cases c3 : (l0.length : Int) = (l1.length : Int)
 ·rw [if_pos c3] at H
  have c3b0 : ((l0.length : Int) == (l1.length : Int)) = true := beq_iff_eq.mpr c3
  have c3b1 : ((l0.length : Int) != (l1.length : Int)) = false := bne_eq_false_iff_eq.mpr c3
  have c3b2 : (l0.length == l1.length) = true := by first | simpa using c3 | (simp at c3 ⊢; omega)
  clear c3
  have H' := Aside0.mk H
  clear H
  go_enter Try.func42, Try.ntmps42
  go_wp2_with (first | ((with_reducible refine gate_dst (N := 5) rfl ?_); refine bE 5 #[.int .i64 0, .int .i64 0] 31 ?_; intro gb893 hg w4 hbox hb; have BK893 := Aside0.mk (hbox); have GW893 := bG HB hg; have GE893 := bG HB hg; replace HB := bS HB hb; clear hb hbox hg; obtain ⟨hcz5_0, hcz5_1, hfz5_0, hfz5_1⟩ := bK2 (w := w4) BK893))
  go_loopg [15] k (fun kq v15 w' => ∃ (x15_1 : Int) (x894000_1 : Int) (x894001_1 : Int), v15 = .int .i64 x15_1 ∧ Aside0 (impl_PairsRight.l0 kq l0 l1 (l0.length : Int) x15_1 x894000_1 x894001_1 = some r) ∧ Aside0 (kq ≤ k) ∧ Aside0 (w'.heap[gb893]? = some (.cells #[.int .i64 x894000_1, .int .i64 x894001_1] 31 (0, 0))) ∧ Aside0 (Below w.heap.size w w'))
  case atStart => exact ⟨(0), (1), (0), rS, H', ⟨Nat.le_refl _⟩, ⟨bU BK893⟩, ⟨bZ HB⟩⟩
  case round =>
   clear H'
   try clear c1
   try clear p2
   try clear c3
   try clear c3b0
   try clear c3b1
   try clear c3b2
   try clear c4
   try clear hcz5_0
   try clear hcz5_1
   try clear hfz5_0
   try clear hfz5_1
   obtain ⟨x15_1, x894000_1, x894001_1, rfl, HA, HK1, BK893, HB⟩ := hrel
   cases gk with
   | zero => exact absurd HA.out (by simp [impl_PairsRight.l0])
   | succ k1 =>
    have H := HA.out
    clear HA
    simp only [impl_PairsRight.l0] at H
    by_cases c6 : x15_1 < (l0.length : Int)
    ·rw [if_pos c6] at H
     have c6b0 : decide (x15_1 < (l0.length : Int)) = true := decide_eq_true c6
     clear c6
     have HC7 := Aside0.mk H
     clear H
     go_upto_region 7 with (fail)
     go_cut [31] (fun v31 wc => ∃ (kq : Nat) (x31_6 : Bool), v31 = .bool x31_6 ∧ Aside0 (impl_PairsRight.j1 kq l0 l1 x15_1 (l0.length : Int) x15_1 x31_6 x894000_1 x894001_1 = some r) ∧ Aside0 (kq ≤ k1) ∧ Aside0 (wc.heap[gb893]? = some (.cells #[.int .i64 x894000_1, .int .i64 x894001_1] 31 (0, 0))) ∧ Aside0 (Below w.heap.size w wc))
     case first =>
      have H := HC7.out
      clear HC7
      by_cases c8 : 0 ≤ x15_1
      ·rw [if_pos c8] at H
       have c8b0 : decide (0 ≤ x15_1) = true := decide_eq_true c8
       clear c8
       (first | rw [c8b0] | (simp only [i64_w, i32_w]; rw [c8b0]) | rw [c8b1] | skip)
       by_cases c9 : x15_1 < (l0.length : Int)
       ·rw [if_pos c9] at H
        have c9b0 : decide (x15_1 < (l0.length : Int)) = true := decide_eq_true c9
        clear c9
        replace H := Option.bind_eq_some_iff.mp H
        obtain ⟨t895, A100, H⟩ := H
        have A10 := Aside0.mk A100
        clear A100
        by_cases c11 : t895 = true
        ·subst c11
         rw [if_pos rfl] at H
         by_cases c12 : x15_1 < (l1.length : Int)
         ·rw [if_pos c12] at H
          have c12b0 : decide (x15_1 < (l1.length : Int)) = true := decide_eq_true c12
          clear c12
          replace H := Option.bind_eq_some_iff.mp H
          obtain ⟨t897, A130, H⟩ := H
          have A13 := Aside0.mk A130
          clear A130
          have H' := Aside0.mk H
          clear H
          have p894 : 0 ≤ (x15_1 : Int) := of_decide_eq_true (by first | (with_reducible assumption) | assumption)
          have q894 : x15_1 < (l0.length : Int) := of_decide_eq_true (by first | (with_reducible assumption) | assumption)
          obtain ⟨ad894, e894, hx894_0, hx894_1, hx894_2⟩ := at_T25 HR0.out x15_1 p894 q894
          cases e894
          replace hx894_0 := hC HB hx894_0
          replace hx894_1 := hC HB hx894_1
          replace hx894_2 := hC HB hx894_2
          replace p894 := eq_true p894
          replace q894 := eq_true q894
          go_wp2_with (first | ((with_reducible refine gate_callee (f := 51) rfl ?_); refine gL (some 22) Try.func51 #[.agg #[.int .i64 ((rd_T25 l0 x15_1).f0), .int .i64 ((rd_T25 l0 x15_1).f1), .bool ((rd_T25 l0 x15_1).f2)]] ?_; (with_reducible refine (impl_InGroup.calls k1 ((rd_T25 l0 x15_1).f0) ((rd_T25 l0 x15_1).f1) ((rd_T25 l0 x15_1).f2) true _ A10.out).mono ?_); rintro e w14 ⟨rfl, hb⟩; refine ⟨_, rfl, ?_⟩; replace BK893 := bB BK893 hb; replace HB := bS HB hb; (try clear hb); have p896 : 0 ≤ (x15_1 : Int) := of_decide_eq_true (by first | (with_reducible assumption) | assumption); have q896 : x15_1 < (l1.length : Int) := of_decide_eq_true (by first | (with_reducible assumption) | assumption); obtain ⟨ad896, e896, hx896_0, hx896_1, hx896_2⟩ := at_T25 HR1.out x15_1 p896 q896; cases e896; replace hx896_0 := hC HB hx896_0; replace hx896_1 := hC HB hx896_1; replace hx896_2 := hC HB hx896_2; replace p896 := eq_true p896; replace q896 := eq_true q896) | (go_at_call 51; (with_reducible refine (impl_InGroup.calls k1 ((rd_T25 l1 x15_1).f0) ((rd_T25 l1 x15_1).f1) ((rd_T25 l1 x15_1).f2) t897 _ A13.out).mono ?_); rintro e w15 ⟨rfl, hb⟩; replace BK893 := bB BK893 hb; replace HB := bS HB hb; (try clear hb)))
          go_meet
          case rel => exact ⟨_, (!t897), rS, H', ⟨by have := HK1.out; first | omega | exact Nat.le_refl _⟩, ⟨bP BK893⟩, ⟨bZ HB⟩⟩
         ·rw [if_neg c12] at H
          exact absurd H (by simp)
        ·replace c11 := Bool.eq_false_iff.mpr c11
         subst c11
         rw [if_neg (show ¬ (false = true) by decide)] at H
         have H' := Aside0.mk H
         clear H
         have p894 : 0 ≤ (x15_1 : Int) := of_decide_eq_true (by first | (with_reducible assumption) | assumption)
         have q894 : x15_1 < (l0.length : Int) := of_decide_eq_true (by first | (with_reducible assumption) | assumption)
         obtain ⟨ad894, e894, hx894_0, hx894_1, hx894_2⟩ := at_T25 HR0.out x15_1 p894 q894
         cases e894
         replace hx894_0 := hC HB hx894_0
         replace hx894_1 := hC HB hx894_1
         replace hx894_2 := hC HB hx894_2
         replace p894 := eq_true p894
         replace q894 := eq_true q894
         go_wp2_with (first | ((with_reducible refine gate_callee (f := 51) rfl ?_); refine gL (some 22) Try.func51 #[.agg #[.int .i64 ((rd_T25 l0 x15_1).f0), .int .i64 ((rd_T25 l0 x15_1).f1), .bool ((rd_T25 l0 x15_1).f2)]] ?_; (with_reducible refine (impl_InGroup.calls k1 ((rd_T25 l0 x15_1).f0) ((rd_T25 l0 x15_1).f1) ((rd_T25 l0 x15_1).f2) false _ A10.out).mono ?_); rintro e w16 ⟨rfl, hb⟩; refine ⟨_, rfl, ?_⟩; replace BK893 := bB BK893 hb; replace HB := bS HB hb; (try clear hb)))
         go_meet
         case rel => exact ⟨_, (true), rS, H', ⟨by have := HK1.out; first | omega | exact Nat.le_refl _⟩, ⟨bP BK893⟩, ⟨bZ HB⟩⟩
       ·rw [if_neg c9] at H
        exact absurd H (by simp)
      ·rw [if_neg c8] at H
       exact absurd H (by simp)
     case rest =>
      clear HC7
      try clear c1
      try clear p2
      try clear c3
      try clear c3b0
      try clear c3b1
      try clear c3b2
      try clear c4
      try clear c5
      try clear c6
      try clear c6b0
      try clear c8
      try clear c8b0
      try clear p8
      try clear q8
      try clear hx8
      try clear c9
      try clear c9b0
      try clear c11
      try clear c12
      try clear c12b0
      try clear hcz5_0
      try clear hcz5_1
      try clear hfz5_0
      try clear hfz5_1
      try clear hx894_0
      try clear hx894_1
      try clear hx894_2
      try clear hx896_0
      try clear hx896_1
      try clear hx896_2
      try clear p2
      try clear p894
      try clear p896
      try clear q894
      try clear q896
      obtain ⟨kq, x31_6, rfl, HA, HJ6, BK893, HB⟩ := hcut
      cases kq with
      | zero => exact absurd HA.out (by simp [impl_PairsRight.j1])
      | succ kj6 =>
       have H := HA.out
       clear HA
       simp only [impl_PairsRight.j1] at H
       by_cases c17 : x31_6 = true
       ·subst c17
        rw [if_pos rfl] at H
        obtain rfl := Option.some.inj H
        go_wp2
        go_ret
        exact ⟨rR, bZ HB⟩
       ·replace c17 := Bool.eq_false_iff.mpr c17
        subst c17
        rw [if_neg (show ¬ (false = true) by decide)] at H
        by_cases c18 : 0 ≤ x15_1
        ·rw [if_pos c18] at H
         have c18b0 : decide (0 ≤ x15_1) = true := decide_eq_true c18
         clear c18
         by_cases c19 : x15_1 < (l0.length : Int)
         ·rw [if_pos c19] at H
          have c19b0 : decide (x15_1 < (l0.length : Int)) = true := decide_eq_true c19
          clear c19
          by_cases c20 : x15_1 < (l1.length : Int)
          ·rw [if_pos c20] at H
           have c20b0 : decide (x15_1 < (l1.length : Int)) = true := decide_eq_true c20
           clear c20
           replace H := Option.bind_eq_some_iff.mp H
           obtain ⟨⟨t900, t901⟩, A210, H⟩ := H
           have A21 := Aside0.mk A210
           clear A210
           replace H := Option.bind_eq_some_iff.mp H
           obtain ⟨⟨t902, t903⟩, A220, H⟩ := H
           have A22 := Aside0.mk A220
           clear A220
           have H' := Aside0.mk H
           clear H
           try go_wp2
           replace BK893 := Aside0.mk (blk_drew BK893.out)
           replace HB := Aside0.mk (below_drew1 HB.out)
           have p898 : 0 ≤ (x15_1 : Int) := of_decide_eq_true (by first | (with_reducible assumption) | assumption)
           have q898 : x15_1 < (l0.length : Int) := of_decide_eq_true (by first | (with_reducible assumption) | assumption)
           obtain ⟨ad898, e898, hx898_0, hx898_1, hx898_2⟩ := at_T25 HR0.out x15_1 p898 q898
           have hw898_2 := hx898_2
           have hw898_1 := hx898_1
           have hw898_0 := hx898_0
           cases e898
           replace hx898_0 := hC HB hx898_0
           replace hx898_1 := hC HB hx898_1
           replace hx898_2 := hC HB hx898_2
           replace p898 := eq_true p898
           replace q898 := eq_true q898
           have p899 : 0 ≤ (x15_1 : Int) := of_decide_eq_true (by first | (with_reducible assumption) | assumption)
           have q899 : x15_1 < (l1.length : Int) := of_decide_eq_true (by first | (with_reducible assumption) | assumption)
           obtain ⟨ad899, e899, hx899_0, hx899_1, hx899_2⟩ := at_T25 HR1.out x15_1 p899 q899
           have hw899_2 := hx899_2
           have hw899_1 := hx899_1
           have hw899_0 := hx899_0
           cases e899
           replace hx899_0 := hC HB hx899_0
           replace hx899_1 := hC HB hx899_1
           replace hx899_2 := hC HB hx899_2
           replace p899 := eq_true p899
           replace q899 := eq_true q899
           refine start_ (n := 12) (S := fun w' => w'.cell? ⟨gb893, 0, none⟩ = some (.int .i64 x894000_1) ∧ w'.cell? ⟨gb893, 1, none⟩ = some (.int .i64 x894001_1) ∧ w'.cell? (ad898.add ((x15_1).toNat * 3)) = some (.int .i64 ((rd_T25 l0 x15_1).f0)) ∧ w'.cell? ⟨(ad898.add ((x15_1).toNat * 3)).block, (ad898.add ((x15_1).toNat * 3)).off + 1, none⟩ = some (.int .i64 ((rd_T25 l0 x15_1).f1)) ∧ w'.cell? ⟨(ad898.add ((x15_1).toNat * 3)).block, (ad898.add ((x15_1).toNat * 3)).off + 2, none⟩ = some (.bool ((rd_T25 l0 x15_1).f2)) ∧ w'.cell? (ad899.add ((x15_1).toNat * 3)) = some (.int .i64 ((rd_T25 l1 x15_1).f0)) ∧ w'.cell? ⟨(ad899.add ((x15_1).toNat * 3)).block, (ad899.add ((x15_1).toNat * 3)).off + 1, none⟩ = some (.int .i64 ((rd_T25 l1 x15_1).f1)) ∧ w'.cell? ⟨(ad899.add ((x15_1).toNat * 3)).block, (ad899.add ((x15_1).toNat * 3)).off + 2, none⟩ = some (.bool ((rd_T25 l1 x15_1).f2))) (ds := [11]) #[false, false, false, false, false, false, false, false, false, false, false, false] (by kernel_rfl) rfl rfl ⟨bc BK893 0, bc BK893 1, (hC HB hw898_0), (hC HB hw898_1), (hC HB hw898_2), (hC HB hw899_0), (hC HB hw899_1), (hC HB hw899_2)⟩ (fun hHeld => ?_); refine with_tabW impl_PairsRight.tab9 impl_PairsRight.bits9 (fun HT_ HW_ => ?_)
           generalize wc.drew = w23 at BK893 HB hx898_0 hx898_1 hx898_2 hx899_0 hx899_1 hx899_2 hHeld ⊢
           refine pI 1 (some 33) HT_.out ?_
           refine pI 2 (some 34) HT_.out ?_
           refine pI 3 (some 35) HT_.out ?_
           refine pI 5 (some 37) HT_.out ?_
           refine pI 6 (some 38) HT_.out ?_
           refine pI 7 (some 39) HT_.out ?_
           refine tI8 0 (some 32) HT_.out HW_.out hHeld ?_
           refine tI8 4 (some 36) HT_.out HW_.out hHeld ?_
           refine tI8 8 (some 40) HT_.out HW_.out hHeld ?_
           refine oI 9 (some 41) HT_.out (fun K hK => ?_)
           refine gO Try.func17 #[.agg #[.int .i64 ((rd_T25 l0 x15_1).f0), .int .i64 ((rd_T25 l0 x15_1).f1), .bool ((rd_T25 l0 x15_1).f2)], .agg #[.int .i64 ((rd_T25 l1 x15_1).f0), .int .i64 ((rd_T25 l1 x15_1).f1), .bool ((rd_T25 l1 x15_1).f2)]] ?_
           with_reducible refine (impl_Pairing.calls kj6 ((rd_T25 l0 x15_1).f0) ((rd_T25 l0 x15_1).f1) ((rd_T25 l0 x15_1).f2) ((rd_T25 l1 x15_1).f0) ((rd_T25 l1 x15_1).f1) ((rd_T25 l1 x15_1).f2) t900 t901 _ A21.out).mono ?_
           rintro e w24 ⟨rfl, hb⟩
           refine ⟨_, rfl, ?_⟩
           replace BK893 := bB BK893 hb
           replace HB := bS HB hb
           (try clear hb)
           refine hK.out _ _ ⟨bc BK893 0, bc BK893 1, (hC HB hw898_0), (hC HB hw898_1), (hC HB hw898_2), (hC HB hw899_0), (hC HB hw899_1), (hC HB hw899_2)⟩ (fun hHeld => ?_)
           clear hK K
           refine nO (some 41) ?_
           refine oI 10 (some 42) HT_.out (fun K hK => ?_)
           refine gO Try.func21 #[.agg #[.int .i64 x894000_1, .int .i64 x894001_1], .agg #[.int .i64 t900, .int .i64 t901]] ?_
           with_reducible refine (impl_TwoMul.calls x894000_1 x894001_1 t900 t901 t902 t903 _ A22.out).mono ?_
           rintro e w25 ⟨rfl, hb⟩
           refine ⟨_, rfl, ?_⟩
           replace BK893 := bB BK893 hb
           replace HB := bS HB hb
           (try clear hb)
           refine hK.out _ _ ⟨bc BK893 0, bc BK893 1, (hC HB hw898_0), (hC HB hw898_1), (hC HB hw898_2), (hC HB hw899_0), (hC HB hw899_1), (hC HB hw899_2)⟩ (fun hHeld => ?_)
           clear hK K
           refine nO (some 42) ?_
           refine last_ (i := 11) (N := none) #[true, true, true, true, true, true, true, true, true, true, true, true] rfl rfl (one_of HT_.out (by kernel_rfl)) (by decide) (fun K hK => ?_)
           have hs26 : w25.cell? ⟨gb893, 0, none⟩ = some (.int .i64 x894000_1) := bc BK893 0
           have hfs26 := blk_frozen BK893.out 0
           have hs27 : w25.cell? ⟨gb893, 1, none⟩ = some (.int .i64 x894001_1) := bc BK893 1
           have hfs27 := blk_frozen BK893.out 1
           refine skip_ (w1 := ?_) (by rfl) rfl ?_ ?_
           rotate_left
           ·go_simp
            rfl
           refine hK.out _ _ ?_
           clear hK K
           refine done_ (done_of HT_.out (by kernel_rfl)) ?_
           try go_wp2
           go_roundg kj6
           case measure => have := HK1.out; have := HJ6.out; omega
           case rel => exact ⟨(wrap64 (x15_1 + 1)), (t902), (t903), rS, H', ⟨by have := HK1.out; have := HJ6.out; omega⟩, ⟨bU BK893⟩, ⟨bZ HB⟩⟩
          ·rw [if_neg c20] at H
           exact absurd H (by simp)
         ·rw [if_neg c19] at H
          exact absurd H (by simp)
        ·rw [if_neg c18] at H
         exact absurd H (by simp)
    ·rw [if_neg c6] at H
     have c6b0 : decide (x15_1 < (l0.length : Int)) = false := decide_eq_false c6
     clear c6
     obtain rfl := Option.some.inj H
     obtain ⟨hcz28_0, hcz28_1, hfz28_0, hfz28_1⟩ := bK2 (w := wr) BK893
     go_wp2
     go_ret
     exact ⟨rR, bZ HB⟩
 ·rw [if_neg c3] at H
  have c3b0 : ((l0.length : Int) == (l1.length : Int)) = false := beq_eq_false_iff_ne.mpr c3
  have c3b1 : ((l0.length : Int) != (l1.length : Int)) = true := bne_iff_ne.mpr c3
  have c3b2 : (l0.length == l1.length) = false := by first | simpa using c3 | (simp at c3 ⊢; omega)
  obtain rfl := Option.some.inj H
  go_enter Try.func42, Try.ntmps42
  go_wp2
  go_ret
  exact ⟨rR, bZ HB⟩

end Go.Proofs.Ytmbjefdkjdemhaa.Pf
end
section
namespace Go.Proofs.Ytmbjefdkjdemhaa.Pf
open Go.RowKit Go.Proofs.YtmbjefdkjdemhaaW.PrintWords Go.Proofs.YtmbjefdkjdemhaaW.PrintLast Go.Proofs.YtmbjefdkjdemhaaW.PrintMore
attribute [local go_sem] max2_int min2_int max_two min_two max_three min_three max_four min_four   -- for this text's walks alone
set_option linter.unusedVariables false
set_option linter.unusedSimpArgs false
/-! ### spec_FpRoot: function 94 -/
def spec_FpRoot.f (k : Nat) (a0 : Int) : Option (Int × Bool) := (spec_FpPow.f k a0 3027).bind fun t266 => ((spec_FpMul.f t266 t266).bind fun t267 => ((spec_FpOf.f a0).bind fun t268 => (if t267 = t268 then ((spec_FpSub.f 0 t266).bind fun t269 => (if t269 < t266 then ((spec_FpSub.f 0 t266).bind fun t270 => (some (t270, true))) else (some (t266, true)))) else (some (0, false)))))
theorem spec_FpRoot.mono : ∀ a0 k, LeO (spec_FpRoot.f k a0) (spec_FpRoot.f (k + 1) a0) := by
 intro a0 k
 unfold spec_FpRoot.f
 repeat' first
   | (with_reducible exact spec_FpPow.mono _ _ _)
   | (with_reducible exact LeO.refl _)
   | (with_reducible exact LeO.none _)
   | (with_reducible refine LeO.ite ?_ ?_)
   | (with_reducible refine LeO.bind ?_ (fun _ => ?_))
   | exact spec_FpPow.mono _ _ _
   | exact LeO.none _
   | refine LeO.ite ?_ ?_
   | refine LeO.bind ?_ (fun _ => ?_)
set_option maxHeartbeats 8000000 in
set_option maxRecDepth 100000 in
theorem spec_FpRoot.calls (k : Nat) (a0 : Int) (r1 : Int) (r2 : Bool) (w : World) (h : spec_FpRoot.f k a0 = some (r1, r2)) :
  Calls Try.prog 94 #[.int .i64 a0] w fun e w' => e = .returned (.tuple #[.int .i64 r1, .bool r2]) ∧ Drawn0 w w' := by
 have H : ((spec_FpPow.f k a0 3027).bind fun t266 => ((spec_FpMul.f t266 t266).bind fun t267 => ((spec_FpOf.f a0).bind fun t268 => (if t267 = t268 then ((spec_FpSub.f 0 t266).bind fun t269 => (if t269 < t266 then ((spec_FpSub.f 0 t266).bind fun t270 => (some (t270, true))) else (some (t266, true)))) else (some (0, false)))))) = some (r1, r2) := h
 clear h
 replace H := Option.bind_eq_some_iff.mp H
 obtain ⟨t266, A20, H⟩ := H
 have A2 := Aside0.mk A20
 clear A20
 replace H := Option.bind_eq_some_iff.mp H
 obtain ⟨t267, A30, H⟩ := H
 have A3 := Aside0.mk A30
 clear A30
 replace H := Option.bind_eq_some_iff.mp H
 obtain ⟨t268, A40, H⟩ := H
 have A4 := Aside0.mk A40
 clear A40
 by_cases c5 : t267 = t268
 ·rw [if_pos c5] at H
  have c5b0 : (t267 == t268) = true := beq_iff_eq.mpr c5
  have c5b1 : (t267 != t268) = false := bne_eq_false_iff_eq.mpr c5
  clear c5
  replace H := Option.bind_eq_some_iff.mp H
  obtain ⟨t269, A60, H⟩ := H
  have A6 := Aside0.mk A60
  clear A60
  by_cases c7 : t269 < t266
  ·rw [if_pos c7] at H
   have c7b0 : decide (t269 < t266) = true := decide_eq_true c7
   clear c7
   replace H := Option.bind_eq_some_iff.mp H
   obtain ⟨t270, A80, H⟩ := H
   have A8 := Aside0.mk A80
   clear A80
   have et270_ : t269 = t270 := Option.some.inj (A6.out.symm.trans A8.out)
   subst et270_
   simp only [Option.some.injEq, Prod.mk.injEq] at H
   obtain ⟨rfl, rfl⟩ := H
   go_enter Try.func94, Try.ntmps94
   go_wp2_with (first | ((with_reducible refine gate_callee (f := 110) rfl ?_); refine gL (some 6) Try.func110 #[.int .i64 a0, .int .i64 3027] ?_; (with_reducible refine (spec_FpPow.calls k a0 3027 t266 _ A2.out).mono ?_); rintro e w' ⟨rfl, ⟨nd, rfl⟩⟩; refine ⟨_, rfl, ?_⟩) | ((with_reducible refine gate_callee (f := 76) rfl ?_); refine gL (some 9) Try.func76 #[.int .i64 t266, .int .i64 t266] ?_; (with_reducible refine (spec_FpMul.calls t266 t266 t267 _ A3.out).mono ?_); rintro e w' ⟨rfl, ⟨nd, rfl⟩⟩; refine ⟨_, rfl, ?_⟩) | ((with_reducible refine gate_callee (f := 102) rfl ?_); refine gL (some 11) Try.func102 #[.int .i64 a0] ?_; (with_reducible refine (spec_FpOf.calls a0 t268 _ A4.out).mono ?_); rintro e w' ⟨rfl, ⟨nd, rfl⟩⟩; refine ⟨_, rfl, ?_⟩) | ((with_reducible refine gate_callee (f := 75) rfl ?_); refine gL (some 14) Try.func75 #[.int .i64 0, .int .i64 t266] ?_; (with_reducible refine (spec_FpSub.calls 0 t266 t269 _ A6.out).mono ?_); rintro e w' ⟨rfl, ⟨nd, rfl⟩⟩; refine ⟨_, rfl, ?_⟩) | ((with_reducible refine gate_callee (f := 75) rfl ?_); refine gL (some 18) Try.func75 #[.int .i64 0, .int .i64 t266] ?_; (with_reducible refine (spec_FpSub.calls 0 t266 t269 _ A8.out).mono ?_); rintro e w' ⟨rfl, ⟨nd, rfl⟩⟩; refine ⟨_, rfl, ?_⟩))
   go_ret2
   exact ⟨rS, rD⟩
  ·rw [if_neg c7] at H
   have c7b0 : decide (t269 < t266) = false := decide_eq_false c7
   clear c7
   simp only [Option.some.injEq, Prod.mk.injEq] at H
   obtain ⟨rfl, rfl⟩ := H
   go_enter Try.func94, Try.ntmps94
   go_wp2_with (first | ((with_reducible refine gate_callee (f := 110) rfl ?_); refine gL (some 6) Try.func110 #[.int .i64 a0, .int .i64 3027] ?_; (with_reducible refine (spec_FpPow.calls k a0 3027 t266 _ A2.out).mono ?_); rintro e w' ⟨rfl, ⟨nd, rfl⟩⟩; refine ⟨_, rfl, ?_⟩) | ((with_reducible refine gate_callee (f := 76) rfl ?_); refine gL (some 9) Try.func76 #[.int .i64 t266, .int .i64 t266] ?_; (with_reducible refine (spec_FpMul.calls t266 t266 t267 _ A3.out).mono ?_); rintro e w' ⟨rfl, ⟨nd, rfl⟩⟩; refine ⟨_, rfl, ?_⟩) | ((with_reducible refine gate_callee (f := 102) rfl ?_); refine gL (some 11) Try.func102 #[.int .i64 a0] ?_; (with_reducible refine (spec_FpOf.calls a0 t268 _ A4.out).mono ?_); rintro e w' ⟨rfl, ⟨nd, rfl⟩⟩; refine ⟨_, rfl, ?_⟩) | ((with_reducible refine gate_callee (f := 75) rfl ?_); refine gL (some 14) Try.func75 #[.int .i64 0, .int .i64 t266] ?_; (with_reducible refine (spec_FpSub.calls 0 t266 t269 _ A6.out).mono ?_); rintro e w' ⟨rfl, ⟨nd, rfl⟩⟩; refine ⟨_, rfl, ?_⟩))
   go_ret2
   exact ⟨rS, rD⟩
 ·rw [if_neg c5] at H
  have c5b0 : (t267 == t268) = false := beq_eq_false_iff_ne.mpr c5
  have c5b1 : (t267 != t268) = true := bne_iff_ne.mpr c5
  simp only [Option.some.injEq, Prod.mk.injEq] at H
  obtain ⟨rfl, rfl⟩ := H
  go_enter Try.func94, Try.ntmps94
  go_wp2_with (first | ((with_reducible refine gate_callee (f := 110) rfl ?_); refine gL (some 6) Try.func110 #[.int .i64 a0, .int .i64 3027] ?_; (with_reducible refine (spec_FpPow.calls k a0 3027 t266 _ A2.out).mono ?_); rintro e w' ⟨rfl, ⟨nd, rfl⟩⟩; refine ⟨_, rfl, ?_⟩) | ((with_reducible refine gate_callee (f := 76) rfl ?_); refine gL (some 9) Try.func76 #[.int .i64 t266, .int .i64 t266] ?_; (with_reducible refine (spec_FpMul.calls t266 t266 t267 _ A3.out).mono ?_); rintro e w' ⟨rfl, ⟨nd, rfl⟩⟩; refine ⟨_, rfl, ?_⟩) | ((with_reducible refine gate_callee (f := 102) rfl ?_); refine gL (some 11) Try.func102 #[.int .i64 a0] ?_; (with_reducible refine (spec_FpOf.calls a0 t268 _ A4.out).mono ?_); rintro e w' ⟨rfl, ⟨nd, rfl⟩⟩; refine ⟨_, rfl, ?_⟩))
  go_ret2
  exact ⟨rS, rD⟩
/-! ### spec_l07Curve: function 81 -/
def spec_l07Curve.l0 : Nat → Int → Int → List Int → Int → Int → Option (Int × Int × Bool × Int × Int)
 | 0, _, _, _, _, _ => none
 | k + 1, x3, x4, x1000, x1001, x1002 => if x4 < 60 then ((spec_l07Right.f (wrap64 (x3 + x4))).bind fun t278 => ((spec_FpRoot.f k t278).bind fun bt279 => (if bt279.2 = true then (some (wrap64 (x3 + x4), bt279.1, false, x1001, x1002)) else (spec_l07Curve.l0 k x3 (wrap64 (x4 + 1)) x1000 x1001 x1002)))) else ((spec_Base.f).bind fun bt275 => (some (bt275.1, bt275.2.1, bt275.2.2, x1001, x1002)))
def spec_l07Curve.f (k : Nat) (s0_0 : List Int) (s0_1 : Int) (s0_2 : Int) : Option (Int × Int × Bool × Int × Int) := (spec_l01Below.f s0_0 s0_1 s0_2 250).bind fun bt272 => (spec_l07Curve.l0 k bt272.1 0 s0_0 bt272.2.1 bt272.2.2)
theorem spec_l07Curve.mono_l : ∀ k, (∀ y0 y1 y2 y3 y4, LeO (spec_l07Curve.l0 k y0 y1 y2 y3 y4) (spec_l07Curve.l0 (k + 1) y0 y1 y2 y3 y4))
 | 0 => fun _ _ _ _ _ r h => by simp [spec_l07Curve.l0] at h
 | k + 1 => by
  have ih0 := spec_l07Curve.mono_l k
  ·intro y0 y1 y2 y3 y4
   unfold spec_l07Curve.l0
   repeat' first
   | (with_reducible exact ih0 _ _ _ _ _)
   | (with_reducible exact spec_FpRoot.mono _ _)
   | (with_reducible exact LeO.refl _)
   | (with_reducible exact LeO.none _)
   | (with_reducible refine LeO.ite ?_ ?_)
   | (with_reducible refine LeO.bind ?_ (fun _ => ?_))
   | exact ih0 _ _ _ _ _
   | exact spec_FpRoot.mono _ _
   | exact LeO.none _
   | refine LeO.ite ?_ ?_
   | refine LeO.bind ?_ (fun _ => ?_)
theorem spec_l07Curve.mono : ∀ a0 a1 a2 k, LeO (spec_l07Curve.f k a0 a1 a2) (spec_l07Curve.f (k + 1) a0 a1 a2) := by
 intro a0 a1 a2 k
 have ih0 := spec_l07Curve.mono_l k
 unfold spec_l07Curve.f
 repeat' first
   | (with_reducible exact ih0 _ _ _ _ _)
   | (with_reducible exact spec_FpRoot.mono _ _)
   | (with_reducible exact LeO.refl _)
   | (with_reducible exact LeO.none _)
   | (with_reducible refine LeO.ite ?_ ?_)
   | (with_reducible refine LeO.bind ?_ (fun _ => ?_))
   | exact ih0 _ _ _ _ _
   | exact spec_FpRoot.mono _ _
   | exact LeO.none _
   | refine LeO.ite ?_ ?_
   | refine LeO.bind ?_ (fun _ => ?_)
set_option maxHeartbeats 8000000 in
set_option maxRecDepth 100000 in
theorem spec_l07Curve.calls (k : Nat) (g : Nat) (s0_0 : List Int) (s0_1 : Int) (s0_2 : Int) (r1 : Int) (r2 : Int) (r3 : Bool) (r4 : Int) (r5 : Int) (w0 w : World) (hI : IsS89 w0 w g s0_0 s0_1 s0_2) (hB : Below w0.heap.size w0 w) (h : spec_l07Curve.f k s0_0 s0_1 s0_2 = some (r1, r2, r3, r4, r5)) :
  Calls Try.prog 81 #[.pointer (some ⟨g, 0, none⟩)] w fun e w' => e = .returned (.agg #[.int .i64 r1, .int .i64 r2, .bool r3]) ∧ IsS89 w0 w' g s0_0 r4 r5 ∧ Below w0.heap.size w0 w' ∧ KeepBut w w' g none := by
 have hu25 := Try.underlying25
 have HI0 := Aside0.mk hI
 have HK := Aside0.mk (KeepBut.refl w g none)
 have HL := Aside0.mk hB.size
 clear hI
 have HW0 := Aside0.mk hB.size
 have HB := Aside0.mk hB
 clear hB
 have H : ((spec_l01Below.f s0_0 s0_1 s0_2 250).bind fun bt272 => (spec_l07Curve.l0 k bt272.1 0 s0_0 bt272.2.1 bt272.2.2)) = some (r1, r2, r3, r4, r5) := h
 clear h
 replace H := Option.bind_eq_some_iff.mp H
 obtain ⟨⟨t272, t273, t274⟩, A20, H⟩ := H
 have A2 := Aside0.mk A20
 clear A20
 have H' := Aside0.mk H
 clear H
 go_enter Try.func81, Try.ntmps81
 go_wp2_with (first | ((with_reducible refine gate_dst (N := 2) rfl ?_); refine bE 2 #[.int .i64 0, .int .i64 0, .bool false] 25 ?_; intro gb271 hg w3 hbox hb; replace HB := Aside0.mk (below_step (by repeat (first | (with_reducible first | exact HB.out | apply below_alloc | apply pw_below_drewN | apply below_drew1 | refine below_set ?_ (IsS89.ge HI0.out)) | exact HB.out)) hb); have BK271 := Aside0.mk (hbox); have GW271 := Aside0.mk ((by rw [hg]; exact (keep_size (w := w) (g := g) (row := none) (by repeat (first | (with_reducible first | exact HK.out | apply KeepBut.set_ | apply keep_drewN | apply keep_drew | apply keep_alloc) | exact HK.out))) : w.heap.size ≤ gb271)); have GE271 := Aside0.mk ((Nat.le_trans HW0.out (by rw [hg]; exact (keep_size (w := w) (g := g) (row := none) (by repeat (first | (with_reducible first | exact HK.out | apply KeepBut.set_ | apply keep_drewN | apply keep_drew | apply keep_alloc) | exact HK.out))) : w.heap.size ≤ gb271) : w0.heap.size ≤ gb271)); replace HK := Aside0.mk (KeepBut.trans (by repeat (first | (with_reducible first | exact HK.out | apply KeepBut.set_ | apply keep_drewN | apply keep_drew | apply keep_alloc) | exact HK.out)) (KeepBut.of_below hb g none) (.inl rfl)); have NB0_271 := Aside0.mk ((by rw [hg]; exact Nat.ne_of_lt (IsS89.lt (show IsS89 w0 _ g s0_0 s0_1 s0_2 from by repeat (first | (with_reducible first | exact HI0.out | apply IsS89.alloc | apply IsS89.drewN | apply IsS89.drew | apply IsS89.set_1 | apply IsS89.set_2) | exact HI0.out))) : g ≠ gb271)); have NB271_0 := Aside0.mk ((by rw [hg]; exact Nat.ne_of_gt (IsS89.lt (show IsS89 w0 _ g s0_0 s0_1 s0_2 from by repeat (first | (with_reducible first | exact HI0.out | apply IsS89.alloc | apply IsS89.drewN | apply IsS89.drew | apply IsS89.set_1 | apply IsS89.set_2) | exact HI0.out))) : gb271 ≠ g)); replace HI0 := Aside0.mk (IsS89.below (by repeat (first | (with_reducible first | exact HI0.out | apply IsS89.alloc | apply IsS89.drewN | apply IsS89.drew | apply IsS89.set_1 | apply IsS89.set_2) | exact HI0.out)) hb); clear hb hbox hg) | ((with_reducible refine gate_callee (f := 62) rfl ?_); refine gL (some 8) Try.func62 #[.pointer (some ⟨g, 0, none⟩), .int .i64 250] ?_; (with_reducible refine (spec_l01Below.calls g s0_0 s0_1 s0_2 250 t272 t273 t274 w0 _ ?side1 ?side2 A2.out).mono ?_); (case side1 => repeat (first | (with_reducible first | exact HI0.out | apply IsS89.alloc | apply IsS89.drewN | apply IsS89.drew | apply IsS89.set_1 | apply IsS89.set_2 | refine IsS89.far ?_ NB0_271.out _) | exact HI0.out)); (case side2 => repeat (first | (with_reducible first | exact HB.out | apply below_alloc | apply pw_below_drewN | apply below_drew1 | refine below_set ?_ (IsS89.ge HI0.out) | refine below_set ?_ GE271.out) | exact HB.out)); rintro e w4 ⟨rfl, hi, hb, hk⟩; refine ⟨_, rfl, ?_⟩; replace BK271 := Aside0.mk (KeepBut.blk hk (g' := gb271) (o := .cells #[.int .i64 0, .int .i64 0, .bool false] 25 (0, 0)) (bP BK271) NB271_0.out (by simp)); replace HK := Aside0.mk (KeepBut.trans (by repeat (first | (with_reducible first | exact HK.out | apply KeepBut.set_ | apply keep_drewN | apply keep_drew | apply keep_alloc | refine keep_far ?_ GW271.out _) | exact HK.out)) hk (.inl rfl)); replace HB := Aside0.mk (hb); replace HI0 := Aside0.mk (hi); (try clear hb)))
 go_loopg [4] k (fun kq v4 w' => ∃ (x4_1 : Int) (x272000_1 : Int) (x272001_1 : Int) (x272002_1 : Bool), v4 = .int .i64 x4_1 ∧ Aside0 (spec_l07Curve.l0 kq t272 x4_1 s0_0 t273 t274 = some (r1, r2, r3, r4, r5)) ∧ Aside0 (kq ≤ k) ∧ Aside0 (w'.heap[gb271]? = some (.cells #[.int .i64 x272000_1, .int .i64 x272001_1, .bool x272002_1] 25 (0, 0))) ∧ Aside0 (IsS89 w0 w' g s0_0 t273 t274) ∧ Aside0 (KeepBut w w' g none) ∧ Aside0 (Below w0.heap.size w0 w'))
 case atStart => exact ⟨(0), (0), (0), (false), rS, H', ⟨Nat.le_refl _⟩, ⟨bP BK271⟩, ⟨by repeat (first | (with_reducible first | exact HI0.out | apply IsS89.alloc | apply IsS89.drewN | apply IsS89.drew | apply IsS89.set_1 | apply IsS89.set_2 | refine IsS89.far ?_ NB0_271.out _) | exact HI0.out)⟩, ⟨by repeat (first | (with_reducible first | exact HK.out | apply KeepBut.set_ | apply keep_drewN | apply keep_drew | apply keep_alloc | refine keep_far ?_ GW271.out _) | exact HK.out)⟩, ⟨by repeat (first | (with_reducible first | exact HB.out | apply below_alloc | apply pw_below_drewN | apply below_drew1 | refine below_set ?_ (IsS89.ge HI0.out) | refine below_set ?_ GE271.out) | exact HB.out)⟩⟩
 case round =>
  clear H'
  try clear p2
  obtain ⟨x4_1, x272000_1, x272001_1, x272002_1, rfl, HA, HK1, BK271, HI0, HK, HB⟩ := hrel
  cases gk with
  | zero => exact absurd HA.out (by simp [spec_l07Curve.l0])
  | succ k1 =>
   have H := HA.out
   clear HA
   simp only [spec_l07Curve.l0] at H
   by_cases c5 : x4_1 < 60
   ·rw [if_pos c5] at H
    have c5b0 : decide (x4_1 < 60) = true := decide_eq_true c5
    clear c5
    replace H := Option.bind_eq_some_iff.mp H
    obtain ⟨t278, A60, H⟩ := H
    have A6 := Aside0.mk A60
    clear A60
    replace H := Option.bind_eq_some_iff.mp H
    obtain ⟨⟨t279, t280⟩, A70, H⟩ := H
    have A7 := Aside0.mk A70
    clear A70
    by_cases c8 : t280 = true
    ·subst c8
     rw [if_pos rfl] at H
     simp only [Option.some.injEq, Prod.mk.injEq] at H
     obtain ⟨rfl, rfl, rfl, rfl, rfl⟩ := H
     go_wp2_with (first | ((with_reducible refine gate_callee (f := 95) rfl ?_); refine gL (some 17) Try.func95 #[.int .i64 (wrap64 (t272 + x4_1))] ?_; (with_reducible refine (spec_l07Right.calls (wrap64 (t272 + x4_1)) t278 _ A6.out).mono ?_); rintro e w' ⟨rfl, ⟨nd, rfl⟩⟩; refine ⟨_, rfl, ?_⟩; (try simp only [World.drewN_drewN]); (try (rw [drewN_self wr]; generalize hq_ : World.drewN wr _ = wr; replace BK271 : Aside0 (wr.heap[gb271]? = some (.cells #[.int .i64 x272000_1, .int .i64 x272001_1, .bool x272002_1] 25 (0, 0))) := ⟨by rw [← hq_]; exact (bP BK271)⟩; replace HK : Aside0 (KeepBut w wr g none) := ⟨by rw [← hq_]; exact (by repeat (first | (with_reducible first | exact HK.out | apply KeepBut.set_ | apply keep_drewN | apply keep_drew | apply keep_alloc | refine keep_far ?_ GW271.out _) | exact HK.out))⟩; replace HB : Aside0 (Below w0.heap.size w0 wr) := ⟨by rw [← hq_]; exact (by repeat (first | (with_reducible first | exact HB.out | apply below_alloc | apply pw_below_drewN | apply below_drew1 | refine below_set ?_ (IsS89.ge HI0.out) | refine below_set ?_ GE271.out) | exact HB.out))⟩; replace HI0 : Aside0 (IsS89 w0 wr g s0_0 t273 t274) := ⟨by rw [← hq_]; exact (by repeat (first | (with_reducible first | exact HI0.out | apply IsS89.alloc | apply IsS89.drewN | apply IsS89.drew | apply IsS89.set_1 | apply IsS89.set_2 | refine IsS89.far ?_ NB0_271.out _) | exact HI0.out))⟩; clear hq_))) | ((with_reducible refine gate_callee (f := 94) rfl ?_); refine gL (some 18) Try.func94 #[.int .i64 t278] ?_; (with_reducible refine (spec_FpRoot.calls k1 t278 t279 true _ A7.out).mono ?_); rintro e w' ⟨rfl, ⟨nd, rfl⟩⟩; refine ⟨_, rfl, ?_⟩; (try simp only [World.drewN_drewN]); (try (rw [drewN_self wr]; generalize hq_ : World.drewN wr _ = wr; replace BK271 : Aside0 (wr.heap[gb271]? = some (.cells #[.int .i64 x272000_1, .int .i64 x272001_1, .bool x272002_1] 25 (0, 0))) := ⟨by rw [← hq_]; exact (bP BK271)⟩; replace HK : Aside0 (KeepBut w wr g none) := ⟨by rw [← hq_]; exact (by repeat (first | (with_reducible first | exact HK.out | apply KeepBut.set_ | apply keep_drewN | apply keep_drew | apply keep_alloc | refine keep_far ?_ GW271.out _) | exact HK.out))⟩; replace HB : Aside0 (Below w0.heap.size w0 wr) := ⟨by rw [← hq_]; exact (by repeat (first | (with_reducible first | exact HB.out | apply below_alloc | apply pw_below_drewN | apply below_drew1 | refine below_set ?_ (IsS89.ge HI0.out) | refine below_set ?_ GE271.out) | exact HB.out))⟩; replace HI0 : Aside0 (IsS89 w0 wr g s0_0 t273 t274) := ⟨by rw [← hq_]; exact (by repeat (first | (with_reducible first | exact HI0.out | apply IsS89.alloc | apply IsS89.drewN | apply IsS89.drew | apply IsS89.set_1 | apply IsS89.set_2 | refine IsS89.far ?_ NB0_271.out _) | exact HI0.out))⟩; clear hq_)); obtain ⟨hnb9, hnc9⟩ := nB NB271_0; obtain ⟨hcz10_0, hcz10_1, hcz10_2, hfz10_0, hfz10_1, hfz10_2⟩ := bK3 (w := wr) BK271))
     refine rC gb271 25 #[.int .i64 (wrap64 (t272 + x4_1)), .int .i64 t279, .bool false] (bU BK271) Try.underlying25 ?_
     exact ⟨by first | rfl | (simp [errW_none, errW_some] <;> rfl) | (simp [*, errW_none, errW_some] <;> rfl), by repeat (first | (with_reducible first | exact HI0.out | apply IsS89.alloc | apply IsS89.drewN | apply IsS89.drew | apply IsS89.set_1 | apply IsS89.set_2 | refine IsS89.far ?_ NB0_271.out _) | exact HI0.out), by repeat (first | (with_reducible first | exact HB.out | apply below_alloc | apply pw_below_drewN | apply below_drew1 | refine below_set ?_ (IsS89.ge HI0.out) | refine below_set ?_ GE271.out) | exact HB.out), by repeat (first | (with_reducible first | exact HK.out | apply KeepBut.set_ | apply keep_drewN | apply keep_drew | apply keep_alloc | refine keep_far ?_ GW271.out _) | exact HK.out)⟩
    ·replace c8 := Bool.eq_false_iff.mpr c8
     subst c8
     rw [if_neg (show ¬ (false = true) by decide)] at H
     have H' := Aside0.mk H
     clear H
     go_wp2_with (first | ((with_reducible refine gate_callee (f := 95) rfl ?_); refine gL (some 17) Try.func95 #[.int .i64 (wrap64 (t272 + x4_1))] ?_; (with_reducible refine (spec_l07Right.calls (wrap64 (t272 + x4_1)) t278 _ A6.out).mono ?_); rintro e w' ⟨rfl, ⟨nd, rfl⟩⟩; refine ⟨_, rfl, ?_⟩) | ((with_reducible refine gate_callee (f := 94) rfl ?_); refine gL (some 18) Try.func94 #[.int .i64 t278] ?_; (with_reducible refine (spec_FpRoot.calls k1 t278 t279 false _ A7.out).mono ?_); rintro e w' ⟨rfl, ⟨nd, rfl⟩⟩; refine ⟨_, rfl, ?_⟩))
     go_roundg k1
     case measure => have := HK1.out; omega
     case rel => exact ⟨(wrap64 (x4_1 + 1)), (x272000_1), (x272001_1), (x272002_1), rS, H', ⟨by have := HK1.out; omega⟩, ⟨bP BK271⟩, ⟨by repeat (first | (with_reducible first | exact HI0.out | apply IsS89.alloc | apply IsS89.drewN | apply IsS89.drew | apply IsS89.set_1 | apply IsS89.set_2 | refine IsS89.far ?_ NB0_271.out _) | exact HI0.out)⟩, ⟨by repeat (first | (with_reducible first | exact HK.out | apply KeepBut.set_ | apply keep_drewN | apply keep_drew | apply keep_alloc | refine keep_far ?_ GW271.out _) | exact HK.out)⟩, ⟨by repeat (first | (with_reducible first | exact HB.out | apply below_alloc | apply pw_below_drewN | apply below_drew1 | refine below_set ?_ (IsS89.ge HI0.out) | refine below_set ?_ GE271.out) | exact HB.out)⟩⟩
   ·rw [if_neg c5] at H
    have c5b0 : decide (x4_1 < 60) = false := decide_eq_false c5
    clear c5
    replace H := Option.bind_eq_some_iff.mp H
    obtain ⟨⟨t275, t276, t277⟩, A110, H⟩ := H
    have A11 := Aside0.mk A110
    clear A110
    simp only [Option.some.injEq, Prod.mk.injEq] at H
    obtain ⟨rfl, rfl, rfl, rfl, rfl⟩ := H
    go_wp2_with (first | ((with_reducible refine gate_callee (f := 85) rfl ?_); refine gL (some 27) Try.func85 #[] ?_; (with_reducible refine (spec_Base.calls  t275 t276 t277 _ A11.out).mono ?_); rintro e w12 ⟨rfl, hb⟩; refine ⟨_, rfl, ?_⟩; replace BK271 := bB BK271 hb; replace HK := Aside0.mk (KeepBut.trans (by repeat (first | (with_reducible first | exact HK.out | apply KeepBut.set_ | apply keep_drewN | apply keep_drew | apply keep_alloc | refine keep_far ?_ GW271.out _) | exact HK.out)) (KeepBut.of_below hb g none) (.inl rfl)); replace HB := Aside0.mk (below_step (by repeat (first | (with_reducible first | exact HB.out | apply below_alloc | apply pw_below_drewN | apply below_drew1 | refine below_set ?_ (IsS89.ge HI0.out) | refine below_set ?_ GE271.out) | exact HB.out)) hb); replace HI0 := Aside0.mk (IsS89.below (by repeat (first | (with_reducible first | exact HI0.out | apply IsS89.alloc | apply IsS89.drewN | apply IsS89.drew | apply IsS89.set_1 | apply IsS89.set_2 | refine IsS89.far ?_ NB0_271.out _) | exact HI0.out)) hb); (try clear hb); obtain ⟨hnb13, hnc13⟩ := nB NB271_0; obtain ⟨hcz14_0, hcz14_1, hcz14_2, hfz14_0, hfz14_1, hfz14_2⟩ := bK3 (w := w12) BK271))
    refine rC gb271 25 #[.int .i64 t275, .int .i64 t276, .bool t277] (bU BK271) Try.underlying25 ?_
    exact ⟨by first | rfl | (simp [errW_none, errW_some] <;> rfl) | (simp [*, errW_none, errW_some] <;> rfl), by repeat (first | (with_reducible first | exact HI0.out | apply IsS89.alloc | apply IsS89.drewN | apply IsS89.drew | apply IsS89.set_1 | apply IsS89.set_2 | refine IsS89.far ?_ NB0_271.out _) | exact HI0.out), by repeat (first | (with_reducible first | exact HB.out | apply below_alloc | apply pw_below_drewN | apply below_drew1 | refine below_set ?_ (IsS89.ge HI0.out) | refine below_set ?_ GE271.out) | exact HB.out), by repeat (first | (with_reducible first | exact HK.out | apply KeepBut.set_ | apply keep_drewN | apply keep_drew | apply keep_alloc | refine keep_far ?_ GW271.out _) | exact HK.out)⟩
/-! ### spec_l04Num: function 108 -/
def spec_l04Num.f (s0_0 : List Int) (s0_1 : Int) (s0_2 : Int) : Option (Int × Int × Int) := (spec_l01Below.f s0_0 s0_1 s0_2 256).bind fun bt380 => ((spec_l01Below.f s0_0 bt380.2.1 bt380.2.2 256).bind fun bt383 => ((spec_l01PickInt.f s0_0 bt383.2.1 bt383.2.2 (([0, 1, 2, 3, 12106, 12107, 12108, (-1), wrap64 (5000 + bt380.1), wrap64 (bt383.1 * 47), (-9223372036854775808), 9223372036854775807] : List Int))).bind fun bt389 => (some (bt389.1, bt389.2.1, bt389.2.2))))
set_option maxHeartbeats 8000000 in
set_option maxRecDepth 100000 in
theorem spec_l04Num.calls (g : Nat) (s0_0 : List Int) (s0_1 : Int) (s0_2 : Int) (r1 : Int) (r2 : Int) (r3 : Int) (w0 w : World) (hI : IsS89 w0 w g s0_0 s0_1 s0_2) (hB : Below w0.heap.size w0 w) (h : spec_l04Num.f s0_0 s0_1 s0_2 = some (r1, r2, r3)) :
  Calls Try.prog 108 #[.pointer (some ⟨g, 0, none⟩)] w fun e w' => e = .returned (.int .i64 r1) ∧ IsS89 w0 w' g s0_0 r2 r3 ∧ Below w0.heap.size w0 w' ∧ KeepBut w w' g none := by
 have HI0 := Aside0.mk hI
 have HK := Aside0.mk (KeepBut.refl w g none)
 have HL := Aside0.mk hB.size
 clear hI
 have HW0 := Aside0.mk hB.size
 have HB := Aside0.mk hB
 clear hB
 have H : ((spec_l01Below.f s0_0 s0_1 s0_2 256).bind fun bt380 => ((spec_l01Below.f s0_0 bt380.2.1 bt380.2.2 256).bind fun bt383 => ((spec_l01PickInt.f s0_0 bt383.2.1 bt383.2.2 (([0, 1, 2, 3, 12106, 12107, 12108, (-1), wrap64 (5000 + bt380.1), wrap64 (bt383.1 * 47), (-9223372036854775808), 9223372036854775807] : List Int))).bind fun bt389 => (some (bt389.1, bt389.2.1, bt389.2.2))))) = some (r1, r2, r3) := h
 clear h
 replace H := Option.bind_eq_some_iff.mp H
 obtain ⟨⟨t380, t381, t382⟩, A20, H⟩ := H
 have A2 := Aside0.mk A20
 clear A20
 replace H := Option.bind_eq_some_iff.mp H
 obtain ⟨⟨t383, t384, t385⟩, A30, H⟩ := H
 have A3 := Aside0.mk A30
 clear A30
 obtain ⟨y386, hy386⟩ : ∃ y_ : List Int, y_ = (([0, 1, 2, 3, 12106, 12107, 12108, (-1), wrap64 (5000 + t380), wrap64 (t383 * 47), (-9223372036854775808), 9223372036854775807] : List Int)) := ⟨_, rfl⟩
 replace H : ((spec_l01PickInt.f s0_0 t384 t385 y386).bind fun bt389 => (some (bt389.1, bt389.2.1, bt389.2.2))) = some (r1, r2, r3) := by first | (rw [hy386]; with_reducible exact H) | (have H2_ := (Option.bind_some _ _).symm.trans H; rw [hy386]; with_reducible exact H2_) | (have H2_ := (Option.bind_some _ _).symm.trans H; with_reducible exact H2_) | with_reducible exact H | (rw [hy386]; exact H) | exact H
 have Ny386 := Aside0.mk hy386
 clear hy386
 replace H := Option.bind_eq_some_iff.mp H
 obtain ⟨⟨t389, t390, t391⟩, A40, H⟩ := H
 have A4 := Aside0.mk A40
 clear A40
 simp only [Option.some.injEq, Prod.mk.injEq] at H
 obtain ⟨rfl, rfl, rfl⟩ := H
 go_enter Try.func108, Try.ntmps108
 go_wp2_with (first | ((with_reducible refine gate_callee (f := 62) rfl ?_); refine gL (some 5) Try.func62 #[.pointer (some ⟨g, 0, none⟩), .int .i64 256] ?_; (with_reducible refine (spec_l01Below.calls g s0_0 s0_1 s0_2 256 t380 t381 t382 w0 _ ?side1 ?side2 A2.out).mono ?_); (case side1 => repeat (first | (with_reducible first | exact HI0.out | apply IsS89.alloc | apply IsS89.drewN | apply IsS89.drew | apply IsS89.set_1 | apply IsS89.set_2) | exact HI0.out)); (case side2 => repeat (first | (with_reducible first | exact HB.out | apply below_alloc | apply pw_below_drewN | apply below_drew1 | refine below_set ?_ (IsS89.ge HI0.out)) | exact HB.out)); rintro e w5 ⟨rfl, hi, hb, hk⟩; refine ⟨_, rfl, ?_⟩; replace HK := Aside0.mk (KeepBut.trans (by repeat (first | (with_reducible first | exact HK.out | apply KeepBut.set_ | apply keep_drewN | apply keep_drew | apply keep_alloc) | exact HK.out)) hk (.inl rfl)); replace HB := Aside0.mk (hb); replace HI0 := Aside0.mk (hi); (try clear hb)) | ((with_reducible refine gate_callee (f := 62) rfl ?_); refine gL (some 8) Try.func62 #[.pointer (some ⟨g, 0, none⟩), .int .i64 256] ?_; (with_reducible refine (spec_l01Below.calls g s0_0 t381 t382 256 t383 t384 t385 w0 _ ?side1 ?side2 A3.out).mono ?_); (case side1 => repeat (first | (with_reducible first | exact HI0.out | apply IsS89.alloc | apply IsS89.drewN | apply IsS89.drew | apply IsS89.set_1 | apply IsS89.set_2) | exact HI0.out)); (case side2 => repeat (first | (with_reducible first | exact HB.out | apply below_alloc | apply pw_below_drewN | apply below_drew1 | refine below_set ?_ (IsS89.ge HI0.out)) | exact HB.out)); rintro e w6 ⟨rfl, hi, hb, hk⟩; refine ⟨_, rfl, ?_⟩; replace HK := Aside0.mk (KeepBut.trans (by repeat (first | (with_reducible first | exact HK.out | apply KeepBut.set_ | apply keep_drewN | apply keep_drew | apply keep_alloc) | exact HK.out)) hk (.inl rfl)); replace HB := Aside0.mk (hb); replace HI0 := Aside0.mk (hi); (try clear hb)) | ((with_reducible refine gate_dst (N := 10) rfl ?_); refine Kd.R_lit (Kd.int .i64) _ 3 ?hg (N := 10) ?hd (xs := ([0, 1, 2, 3, 12106, 12107, 12108, (-1), wrap64 (5000 + t380), wrap64 (t383 * 47), (-9223372036854775808), 9223372036854775807] : List Int)) (inner := [.int .i64 0, .int .i64 1, .int .i64 2, .int .i64 3, .int .i64 12106, .int .i64 12107, .int .i64 12108, .int .i64 (-1), .int .i64 (wrap64 (5000 + t380)), .int .i64 (wrap64 (t383 * 47)), .int .i64 (-9223372036854775808), .int .i64 9223372036854775807]) (ok := fun _ => True) (okp := fun _ => True) ?hr ?hp (fun _ hk => hk) trivial (Below.refl _ _) (Nat.le_refl _) (by simp) ?_; (case hd => rfl); (case hg => rfl); (case hr => first | (go_simp; done) | (go_simp; rfl)); (case hp => exact (Reps.one (show Kd.M (Kd.int .i64) _ _ _ 0 [.int .i64 0] from rfl) (Reps.one (show Kd.M (Kd.int .i64) _ _ _ 1 [.int .i64 1] from rfl) (Reps.one (show Kd.M (Kd.int .i64) _ _ _ 2 [.int .i64 2] from rfl) (Reps.one (show Kd.M (Kd.int .i64) _ _ _ 3 [.int .i64 3] from rfl) (Reps.one (show Kd.M (Kd.int .i64) _ _ _ 12106 [.int .i64 12106] from rfl) (Reps.one (show Kd.M (Kd.int .i64) _ _ _ 12107 [.int .i64 12107] from rfl) (Reps.one (show Kd.M (Kd.int .i64) _ _ _ 12108 [.int .i64 12108] from rfl) (Reps.one (show Kd.M (Kd.int .i64) _ _ _ (-1) [.int .i64 (-1)] from rfl) (Reps.one (show Kd.M (Kd.int .i64) _ _ _ (wrap64 (5000 + t380)) [.int .i64 (wrap64 (5000 + t380))] from rfl) (Reps.one (show Kd.M (Kd.int .i64) _ _ _ (wrap64 (t383 * 47)) [.int .i64 (wrap64 (t383 * 47))] from rfl) (Reps.one (show Kd.M (Kd.int .i64) _ _ _ (-9223372036854775808) [.int .i64 (-9223372036854775808)] from rfl) (Reps.one (show Kd.M (Kd.int .i64) _ _ _ 9223372036854775807 [.int .i64 9223372036854775807] from rfl) (Reps.none _ _)))))))))))))); intro v387 w7 ho8 hb hg_ hnew_; clear hg_ hnew_; (first | rw [← Ny386.out] at ho8 | (simp only [Int.reduceToNat] at ho8; rw [← Ny386.out] at ho8)); have HO388 := Aside0.mk (Kd.R_lower ho8 (keep_size (w := w) (g := g) (row := none) (by repeat (first | (with_reducible first | exact HK.out | apply KeepBut.set_ | apply keep_drewN | apply keep_drew | apply keep_alloc) | exact HK.out)))); replace HK := Aside0.mk (KeepBut.trans (by repeat (first | (with_reducible first | exact HK.out | apply KeepBut.set_ | apply keep_drewN | apply keep_drew | apply keep_alloc) | exact HK.out)) (KeepBut.of_below hb g none) (.inl rfl)); replace HB := Aside0.mk (below_step (by repeat (first | (with_reducible first | exact HB.out | apply below_alloc | apply pw_below_drewN | apply below_drew1 | refine below_set ?_ (IsS89.ge HI0.out)) | exact HB.out)) hb); replace HI0 := Aside0.mk (IsS89.below (by repeat (first | (with_reducible first | exact HI0.out | apply IsS89.alloc | apply IsS89.drewN | apply IsS89.drew | apply IsS89.set_1 | apply IsS89.set_2) | exact HI0.out)) hb); clear hb ho8; obtain ⟨Ao9, co9, eo9⟩ := Kd.R_slice HO388.out; subst eo9) | ((with_reducible refine gate_callee (f := 97) rfl ?_); refine gL (some 11) Try.func97 #[.pointer (some ⟨g, 0, none⟩), .slice Ao9 y386.length co9] ?_; (with_reducible refine (spec_l01PickInt.calls g s0_0 t384 t385 _ _ y386 t389 t390 t391 w0 _ ?side1 ?side2 ?side3 ?side4 ?side5 A4.out).mono ?_); (case side1 => repeat (first | (with_reducible first | exact HI0.out | apply IsS89.alloc | apply IsS89.drewN | apply IsS89.drew | apply IsS89.set_1 | apply IsS89.set_2) | exact HI0.out)); (case side2 => repeat (first | (with_reducible first | exact HB.out | apply below_alloc | apply pw_below_drewN | apply below_drew1 | refine below_set ?_ (IsS89.ge HI0.out)) | exact HB.out)); (case side3 => exact cP ((Kd.R_reads' HO388.out).2.2)); (case side4 => exact (Kd.R_reads' HO388.out).2.1); (case side5 => exact far_slice (IsS89.own_ne HI0.out HO388.out (by decide))); rintro e w10 ⟨rfl, hi, hb, hk⟩; refine ⟨_, rfl, ?_⟩; replace HO388 := Aside0.mk (Kd.R_mono (Kd.R_keep (IsS89.apart (show IsS89 w0 _ g s0_0 t384 t385 from by repeat (first | (with_reducible first | exact HI0.out | apply IsS89.alloc | apply IsS89.drewN | apply IsS89.drew | apply IsS89.set_1 | apply IsS89.set_2) | exact HI0.out)) (rP HO388) (by decide)) hk (fun _ h => h.2)) (fun _ h => h.1)); replace HK := Aside0.mk (KeepBut.trans (by repeat (first | (with_reducible first | exact HK.out | apply KeepBut.set_ | apply keep_drewN | apply keep_drew | apply keep_alloc) | exact HK.out)) hk (.inl rfl)); replace HB := Aside0.mk (hb); replace HI0 := Aside0.mk (hi); (try clear hb)))
 go_ret
 exact ⟨by first | rfl | (simp [errW_none, errW_some] <;> rfl) | (simp [*, errW_none, errW_some] <;> rfl), by repeat (first | (with_reducible first | exact HI0.out | apply IsS89.alloc | apply IsS89.drewN | apply IsS89.drew | apply IsS89.set_1 | apply IsS89.set_2) | exact HI0.out), by repeat (first | (with_reducible first | exact HB.out | apply below_alloc | apply pw_below_drewN | apply below_drew1 | refine below_set ?_ (IsS89.ge HI0.out)) | exact HB.out), by repeat (first | (with_reducible first | exact HK.out | apply KeepBut.set_ | apply keep_drewN | apply keep_drew | apply keep_alloc) | exact HK.out)⟩
/-! ### spec_l07Any: function 90 -/
def spec_l07Any.j0 : Nat → Int → Bool → List Int → Int → Int → Option (Int × Int × Bool × Int × Int)
 | 0, _, _, _, _, _ => none
 | k + 1, x4, x5, x1000, x1001, x1002 => if x5 = true then ((spec_l07Curve.f k x1000 x1001 x1002).bind fun bt396 => (some (bt396.1, bt396.2.1, bt396.2.2.1, bt396.2.2.2.1, bt396.2.2.2.2))) else (if x4 = 3 then ((spec_l04Num.f x1000 x1001 x1002).bind fun bt401 => ((spec_l04Num.f x1000 bt401.2.1 bt401.2.2).bind fun bt404 => (some (bt401.1, bt404.1, false, bt404.2.1, bt404.2.2)))) else (if x4 = 4 then ((spec_l01Below.f x1000 x1001 x1002 3).bind fun bt407 => (some (bt407.1, 0, true, bt407.2.1, bt407.2.2))) else (if x4 = 5 then (some (0, 0, false, x1001, x1002)) else ((spec_l07Group.f k x1000 x1001 x1002).bind fun bt410 => (some (bt410.1, bt410.2.1, bt410.2.2.1, bt410.2.2.2.1, bt410.2.2.2.2))))))
def spec_l07Any.f (k : Nat) (s0_0 : List Int) (s0_1 : Int) (s0_2 : Int) : Option (Int × Int × Bool × Int × Int) := (spec_l01Below.f s0_0 s0_1 s0_2 10).bind fun bt393 => (if bt393.1 = 0 then (spec_l07Any.j0 k bt393.1 (bt393.1 == 0) s0_0 bt393.2.1 bt393.2.2) else (if bt393.1 = 1 then (spec_l07Any.j0 k bt393.1 (bt393.1 == 1) s0_0 bt393.2.1 bt393.2.2) else (spec_l07Any.j0 k bt393.1 (bt393.1 == 2) s0_0 bt393.2.1 bt393.2.2)))
theorem spec_l07Any.mono_l : ∀ k, (∀ y0 y1 y2 y3 y4, LeO (spec_l07Any.j0 k y0 y1 y2 y3 y4) (spec_l07Any.j0 (k + 1) y0 y1 y2 y3 y4))
 | 0 => fun _ _ _ _ _ r h => by simp [spec_l07Any.j0] at h
 | k + 1 => by
  have ih0 := spec_l07Any.mono_l k
  ·intro y0 y1 y2 y3 y4
   unfold spec_l07Any.j0
   repeat' first
   | (with_reducible exact ih0 _ _ _ _ _)
   | (with_reducible exact spec_l07Curve.mono _ _ _ _)
   | (with_reducible exact spec_l07Group.mono _ _ _ _)
   | (with_reducible exact LeO.refl _)
   | (with_reducible exact LeO.none _)
   | (with_reducible refine LeO.ite ?_ ?_)
   | (with_reducible refine LeO.bind ?_ (fun _ => ?_))
   | exact ih0 _ _ _ _ _
   | exact spec_l07Curve.mono _ _ _ _
   | exact spec_l07Group.mono _ _ _ _
   | exact LeO.none _
   | refine LeO.ite ?_ ?_
   | refine LeO.bind ?_ (fun _ => ?_)
theorem spec_l07Any.mono : ∀ a0 a1 a2 k, LeO (spec_l07Any.f k a0 a1 a2) (spec_l07Any.f (k + 1) a0 a1 a2) := by
 intro a0 a1 a2 k
 have ih0 := spec_l07Any.mono_l k
 unfold spec_l07Any.f
 repeat' first
   | (with_reducible exact ih0 _ _ _ _ _)
   | (with_reducible exact spec_l07Curve.mono _ _ _ _)
   | (with_reducible exact spec_l07Group.mono _ _ _ _)
   | (with_reducible exact LeO.refl _)
   | (with_reducible exact LeO.none _)
   | (with_reducible refine LeO.ite ?_ ?_)
   | (with_reducible refine LeO.bind ?_ (fun _ => ?_))
   | exact ih0 _ _ _ _ _
   | exact spec_l07Curve.mono _ _ _ _
   | exact spec_l07Group.mono _ _ _ _
   | exact LeO.none _
   | refine LeO.ite ?_ ?_
   | refine LeO.bind ?_ (fun _ => ?_)
set_option maxHeartbeats 8000000 in
set_option maxRecDepth 100000 in
theorem spec_l07Any.calls (k : Nat) (g : Nat) (s0_0 : List Int) (s0_1 : Int) (s0_2 : Int) (r1 : Int) (r2 : Int) (r3 : Bool) (r4 : Int) (r5 : Int) (w0 w : World) (hI : IsS89 w0 w g s0_0 s0_1 s0_2) (hB : Below w0.heap.size w0 w) (h : spec_l07Any.f k s0_0 s0_1 s0_2 = some (r1, r2, r3, r4, r5)) :
  Calls Try.prog 90 #[.pointer (some ⟨g, 0, none⟩)] w fun e w' => e = .returned (.agg #[.int .i64 r1, .int .i64 r2, .bool r3]) ∧ IsS89 w0 w' g s0_0 r4 r5 ∧ Below w0.heap.size w0 w' ∧ KeepBut w w' g none := by
 have hu25 := Try.underlying25
 have HI0 := Aside0.mk hI
 have HK := Aside0.mk (KeepBut.refl w g none)
 have HL := Aside0.mk hB.size
 clear hI
 have HW0 := Aside0.mk hB.size
 have HB := Aside0.mk hB
 clear hB
 have H : ((spec_l01Below.f s0_0 s0_1 s0_2 10).bind fun bt393 => (if bt393.1 = 0 then (spec_l07Any.j0 k bt393.1 (bt393.1 == 0) s0_0 bt393.2.1 bt393.2.2) else (if bt393.1 = 1 then (spec_l07Any.j0 k bt393.1 (bt393.1 == 1) s0_0 bt393.2.1 bt393.2.2) else (spec_l07Any.j0 k bt393.1 (bt393.1 == 2) s0_0 bt393.2.1 bt393.2.2)))) = some (r1, r2, r3, r4, r5) := h
 clear h
 replace H := Option.bind_eq_some_iff.mp H
 obtain ⟨⟨t393, t394, t395⟩, A20, H⟩ := H
 have A2 := Aside0.mk A20
 clear A20
 have HC3 := Aside0.mk H
 clear H
 go_enter Try.func90, Try.ntmps90
 go_upto_if 5 with (first | ((with_reducible refine gate_dst (N := 2) rfl ?_); refine bE 2 #[.int .i64 0, .int .i64 0, .bool false] 25 ?_; intro gb392 hg w4 hbox hb; replace HB := Aside0.mk (below_step (by repeat (first | (with_reducible first | exact HB.out | apply below_alloc | apply pw_below_drewN | apply below_drew1 | refine below_set ?_ (IsS89.ge HI0.out)) | exact HB.out)) hb); have BK392 := Aside0.mk (hbox); have GW392 := Aside0.mk ((by rw [hg]; exact (keep_size (w := w) (g := g) (row := none) (by repeat (first | (with_reducible first | exact HK.out | apply KeepBut.set_ | apply keep_drewN | apply keep_drew | apply keep_alloc) | exact HK.out))) : w.heap.size ≤ gb392)); have GE392 := Aside0.mk ((Nat.le_trans HW0.out (by rw [hg]; exact (keep_size (w := w) (g := g) (row := none) (by repeat (first | (with_reducible first | exact HK.out | apply KeepBut.set_ | apply keep_drewN | apply keep_drew | apply keep_alloc) | exact HK.out))) : w.heap.size ≤ gb392) : w0.heap.size ≤ gb392)); replace HK := Aside0.mk (KeepBut.trans (by repeat (first | (with_reducible first | exact HK.out | apply KeepBut.set_ | apply keep_drewN | apply keep_drew | apply keep_alloc) | exact HK.out)) (KeepBut.of_below hb g none) (.inl rfl)); have NB0_392 := Aside0.mk ((by rw [hg]; exact Nat.ne_of_lt (IsS89.lt (show IsS89 w0 _ g s0_0 s0_1 s0_2 from by repeat (first | (with_reducible first | exact HI0.out | apply IsS89.alloc | apply IsS89.drewN | apply IsS89.drew | apply IsS89.set_1 | apply IsS89.set_2) | exact HI0.out))) : g ≠ gb392)); have NB392_0 := Aside0.mk ((by rw [hg]; exact Nat.ne_of_gt (IsS89.lt (show IsS89 w0 _ g s0_0 s0_1 s0_2 from by repeat (first | (with_reducible first | exact HI0.out | apply IsS89.alloc | apply IsS89.drewN | apply IsS89.drew | apply IsS89.set_1 | apply IsS89.set_2) | exact HI0.out))) : gb392 ≠ g)); replace HI0 := Aside0.mk (IsS89.below (by repeat (first | (with_reducible first | exact HI0.out | apply IsS89.alloc | apply IsS89.drewN | apply IsS89.drew | apply IsS89.set_1 | apply IsS89.set_2) | exact HI0.out)) hb); clear hb hbox hg) | ((with_reducible refine gate_callee (f := 62) rfl ?_); refine gL (some 4) Try.func62 #[.pointer (some ⟨g, 0, none⟩), .int .i64 10] ?_; (with_reducible refine (spec_l01Below.calls g s0_0 s0_1 s0_2 10 t393 t394 t395 w0 _ ?side1 ?side2 A2.out).mono ?_); (case side1 => repeat (first | (with_reducible first | exact HI0.out | apply IsS89.alloc | apply IsS89.drewN | apply IsS89.drew | apply IsS89.set_1 | apply IsS89.set_2 | refine IsS89.far ?_ NB0_392.out _) | exact HI0.out)); (case side2 => repeat (first | (with_reducible first | exact HB.out | apply below_alloc | apply pw_below_drewN | apply below_drew1 | refine below_set ?_ (IsS89.ge HI0.out) | refine below_set ?_ GE392.out) | exact HB.out)); rintro e w5 ⟨rfl, hi, hb, hk⟩; refine ⟨_, rfl, ?_⟩; replace BK392 := Aside0.mk (KeepBut.blk hk (g' := gb392) (o := .cells #[.int .i64 0, .int .i64 0, .bool false] 25 (0, 0)) (bP BK392) NB392_0.out (by simp)); replace HK := Aside0.mk (KeepBut.trans (by repeat (first | (with_reducible first | exact HK.out | apply KeepBut.set_ | apply keep_drewN | apply keep_drew | apply keep_alloc | refine keep_far ?_ GW392.out _) | exact HK.out)) hk (.inl rfl)); replace HB := Aside0.mk (hb); replace HI0 := Aside0.mk (hi); (try clear hb)))
 (try simp only [Act.put, List.setIfInBounds_toArray, List.set_cons_zero, List.set_cons_succ])
 go_cut [5] (fun v5 wc => ∃ (kq : Nat) (x5_2 : Bool), v5 = .bool x5_2 ∧ Aside0 (spec_l07Any.j0 kq t393 x5_2 s0_0 t394 t395 = some (r1, r2, r3, r4, r5)) ∧ Aside0 (kq ≤ k) ∧ Aside0 (wc.heap[gb392]? = some (.cells #[.int .i64 0, .int .i64 0, .bool false] 25 (0, 0))) ∧ Aside0 (IsS89 w0 wc g s0_0 t394 t395) ∧ Aside0 (KeepBut w wc g none) ∧ Aside0 (Below w0.heap.size w0 wc))
 case first =>
  have H := HC3.out
  clear HC3
  by_cases c6 : t393 = 0
  ·rw [if_pos c6] at H
   have c6b0 : (t393 == 0) = true := beq_iff_eq.mpr c6
   have c6b1 : (t393 != 0) = false := bne_eq_false_iff_eq.mpr c6
   clear c6
   (first | rw [c6b0] | (simp only [i64_w, i32_w]; rw [c6b0]) | rw [c6b1] | skip)
   have H' := Aside0.mk H
   clear H
   go_wp2
   go_meet
   case rel => exact ⟨_, ((t393 == 0)), rS, H', ⟨by first | omega | exact Nat.le_refl _⟩, ⟨bP BK392⟩, ⟨by repeat (first | (with_reducible first | exact HI0.out | apply IsS89.alloc | apply IsS89.drewN | apply IsS89.drew | apply IsS89.set_1 | apply IsS89.set_2 | refine IsS89.far ?_ NB0_392.out _) | exact HI0.out)⟩, ⟨by repeat (first | (with_reducible first | exact HK.out | apply KeepBut.set_ | apply keep_drewN | apply keep_drew | apply keep_alloc | refine keep_far ?_ GW392.out _) | exact HK.out)⟩, ⟨by repeat (first | (with_reducible first | exact HB.out | apply below_alloc | apply pw_below_drewN | apply below_drew1 | refine below_set ?_ (IsS89.ge HI0.out) | refine below_set ?_ GE392.out) | exact HB.out)⟩⟩
  ·rw [if_neg c6] at H
   have c6b0 : (t393 == 0) = false := beq_eq_false_iff_ne.mpr c6
   have c6b1 : (t393 != 0) = true := bne_iff_ne.mpr c6
   (first | rw [c6b0] | (simp only [i64_w, i32_w]; rw [c6b0]) | rw [c6b1] | skip)
   by_cases c7 : t393 = 1
   ·rw [if_pos c7] at H
    have c7b0 : (t393 == 1) = true := beq_iff_eq.mpr c7
    have c7b1 : (t393 != 1) = false := bne_eq_false_iff_eq.mpr c7
    clear c7
    have H' := Aside0.mk H
    clear H
    go_wp2
    go_meet
    case rel => exact ⟨_, ((t393 == 1)), rS, H', ⟨by first | omega | exact Nat.le_refl _⟩, ⟨bP BK392⟩, ⟨by repeat (first | (with_reducible first | exact HI0.out | apply IsS89.alloc | apply IsS89.drewN | apply IsS89.drew | apply IsS89.set_1 | apply IsS89.set_2 | refine IsS89.far ?_ NB0_392.out _) | exact HI0.out)⟩, ⟨by repeat (first | (with_reducible first | exact HK.out | apply KeepBut.set_ | apply keep_drewN | apply keep_drew | apply keep_alloc | refine keep_far ?_ GW392.out _) | exact HK.out)⟩, ⟨by repeat (first | (with_reducible first | exact HB.out | apply below_alloc | apply pw_below_drewN | apply below_drew1 | refine below_set ?_ (IsS89.ge HI0.out) | refine below_set ?_ GE392.out) | exact HB.out)⟩⟩
   ·rw [if_neg c7] at H
    have c7b0 : (t393 == 1) = false := beq_eq_false_iff_ne.mpr c7
    have c7b1 : (t393 != 1) = true := bne_iff_ne.mpr c7
    have H' := Aside0.mk H
    clear H
    go_wp2
    go_meet
    case rel => exact ⟨_, ((t393 == 2)), rS, H', ⟨by first | omega | exact Nat.le_refl _⟩, ⟨bP BK392⟩, ⟨by repeat (first | (with_reducible first | exact HI0.out | apply IsS89.alloc | apply IsS89.drewN | apply IsS89.drew | apply IsS89.set_1 | apply IsS89.set_2 | refine IsS89.far ?_ NB0_392.out _) | exact HI0.out)⟩, ⟨by repeat (first | (with_reducible first | exact HK.out | apply KeepBut.set_ | apply keep_drewN | apply keep_drew | apply keep_alloc | refine keep_far ?_ GW392.out _) | exact HK.out)⟩, ⟨by repeat (first | (with_reducible first | exact HB.out | apply below_alloc | apply pw_below_drewN | apply below_drew1 | refine below_set ?_ (IsS89.ge HI0.out) | refine below_set ?_ GE392.out) | exact HB.out)⟩⟩
 case rest =>
  clear HC3
  try clear p2
  try clear c6
  try clear c6b0
  try clear c6b1
  try clear c7
  try clear c7b0
  try clear c7b1
  obtain ⟨kq, x5_2, rfl, HA, HJ2, BK392, HI0, HK, HB⟩ := hcut
  cases kq with
  | zero => exact absurd HA.out (by simp [spec_l07Any.j0])
  | succ kj2 =>
   have H := HA.out
   clear HA
   simp only [spec_l07Any.j0] at H
   by_cases c8 : x5_2 = true
   ·subst c8
    rw [if_pos rfl] at H
    replace H := Option.bind_eq_some_iff.mp H
    obtain ⟨⟨t396, t397, t398, t399, t400⟩, A90, H⟩ := H
    have A9 := Aside0.mk A90
    clear A90
    simp only [Option.some.injEq, Prod.mk.injEq] at H
    obtain ⟨rfl, rfl, rfl, rfl, rfl⟩ := H
    go_wp2_with (first | ((with_reducible refine gate_callee (f := 81) rfl ?_); refine gL (some 10) Try.func81 #[.pointer (some ⟨g, 0, none⟩)] ?_; (with_reducible refine (spec_l07Curve.calls kj2 g s0_0 t394 t395 t396 t397 t398 t399 t400 w0 _ ?side1 ?side2 A9.out).mono ?_); (case side1 => repeat (first | (with_reducible first | exact HI0.out | apply IsS89.alloc | apply IsS89.drewN | apply IsS89.drew | apply IsS89.set_1 | apply IsS89.set_2 | refine IsS89.far ?_ NB0_392.out _) | exact HI0.out)); (case side2 => repeat (first | (with_reducible first | exact HB.out | apply below_alloc | apply pw_below_drewN | apply below_drew1 | refine below_set ?_ (IsS89.ge HI0.out) | refine below_set ?_ GE392.out) | exact HB.out)); rintro e w10 ⟨rfl, hi, hb, hk⟩; refine ⟨_, rfl, ?_⟩; replace BK392 := Aside0.mk (KeepBut.blk hk (g' := gb392) (o := .cells #[.int .i64 0, .int .i64 0, .bool false] 25 (0, 0)) (bP BK392) NB392_0.out (by simp)); replace HK := Aside0.mk (KeepBut.trans (by repeat (first | (with_reducible first | exact HK.out | apply KeepBut.set_ | apply keep_drewN | apply keep_drew | apply keep_alloc | refine keep_far ?_ GW392.out _) | exact HK.out)) hk (.inl rfl)); replace HB := Aside0.mk (hb); replace HI0 := Aside0.mk (hi); (try clear hb); obtain ⟨hnb11, hnc11⟩ := nB NB392_0; obtain ⟨hcz12_0, hcz12_1, hcz12_2, hfz12_0, hfz12_1, hfz12_2⟩ := bK3 (w := w10) BK392))
    refine rC gb392 25 #[.int .i64 t396, .int .i64 t397, .bool t398] (bU BK392) Try.underlying25 ?_
    exact ⟨by first | rfl | (simp [errW_none, errW_some] <;> rfl) | (simp [*, errW_none, errW_some] <;> rfl), by repeat (first | (with_reducible first | exact HI0.out | apply IsS89.alloc | apply IsS89.drewN | apply IsS89.drew | apply IsS89.set_1 | apply IsS89.set_2 | refine IsS89.far ?_ NB0_392.out _) | exact HI0.out), by repeat (first | (with_reducible first | exact HB.out | apply below_alloc | apply pw_below_drewN | apply below_drew1 | refine below_set ?_ (IsS89.ge HI0.out) | refine below_set ?_ GE392.out) | exact HB.out), by repeat (first | (with_reducible first | exact HK.out | apply KeepBut.set_ | apply keep_drewN | apply keep_drew | apply keep_alloc | refine keep_far ?_ GW392.out _) | exact HK.out)⟩
   ·replace c8 := Bool.eq_false_iff.mpr c8
    subst c8
    rw [if_neg (show ¬ (false = true) by decide)] at H
    by_cases c13 : t393 = 3
    ·rw [if_pos c13] at H
     have c13b0 : (t393 == 3) = true := beq_iff_eq.mpr c13
     have c13b1 : (t393 != 3) = false := bne_eq_false_iff_eq.mpr c13
     clear c13
     replace H := Option.bind_eq_some_iff.mp H
     obtain ⟨⟨t401, t402, t403⟩, A140, H⟩ := H
     have A14 := Aside0.mk A140
     clear A140
     replace H := Option.bind_eq_some_iff.mp H
     obtain ⟨⟨t404, t405, t406⟩, A150, H⟩ := H
     have A15 := Aside0.mk A150
     clear A150
     simp only [Option.some.injEq, Prod.mk.injEq] at H
     obtain ⟨rfl, rfl, rfl, rfl, rfl⟩ := H
     go_wp2_with (first | ((with_reducible refine gate_callee (f := 108) rfl ?_); refine gL (some 14) Try.func108 #[.pointer (some ⟨g, 0, none⟩)] ?_; (with_reducible refine (spec_l04Num.calls g s0_0 t394 t395 t401 t402 t403 w0 _ ?side1 ?side2 A14.out).mono ?_); (case side1 => repeat (first | (with_reducible first | exact HI0.out | apply IsS89.alloc | apply IsS89.drewN | apply IsS89.drew | apply IsS89.set_1 | apply IsS89.set_2 | refine IsS89.far ?_ NB0_392.out _) | exact HI0.out)); (case side2 => repeat (first | (with_reducible first | exact HB.out | apply below_alloc | apply pw_below_drewN | apply below_drew1 | refine below_set ?_ (IsS89.ge HI0.out) | refine below_set ?_ GE392.out) | exact HB.out)); rintro e w16 ⟨rfl, hi, hb, hk⟩; refine ⟨_, rfl, ?_⟩; replace BK392 := Aside0.mk (KeepBut.blk hk (g' := gb392) (o := .cells #[.int .i64 0, .int .i64 0, .bool false] 25 (0, 0)) (bP BK392) NB392_0.out (by simp)); replace HK := Aside0.mk (KeepBut.trans (by repeat (first | (with_reducible first | exact HK.out | apply KeepBut.set_ | apply keep_drewN | apply keep_drew | apply keep_alloc | refine keep_far ?_ GW392.out _) | exact HK.out)) hk (.inl rfl)); replace HB := Aside0.mk (hb); replace HI0 := Aside0.mk (hi); (try clear hb)) | ((with_reducible refine gate_callee (f := 108) rfl ?_); refine gL (some 16) Try.func108 #[.pointer (some ⟨g, 0, none⟩)] ?_; (with_reducible refine (spec_l04Num.calls g s0_0 t402 t403 t404 t405 t406 w0 _ ?side1 ?side2 A15.out).mono ?_); (case side1 => repeat (first | (with_reducible first | exact HI0.out | apply IsS89.alloc | apply IsS89.drewN | apply IsS89.drew | apply IsS89.set_1 | apply IsS89.set_2 | refine IsS89.far ?_ NB0_392.out _) | exact HI0.out)); (case side2 => repeat (first | (with_reducible first | exact HB.out | apply below_alloc | apply pw_below_drewN | apply below_drew1 | refine below_set ?_ (IsS89.ge HI0.out) | refine below_set ?_ GE392.out) | exact HB.out)); rintro e w17 ⟨rfl, hi, hb, hk⟩; refine ⟨_, rfl, ?_⟩; replace BK392 := Aside0.mk (KeepBut.blk hk (g' := gb392) (o := .cells #[.int .i64 0, .int .i64 0, .bool false] 25 (0, 0)) (bP BK392) NB392_0.out (by simp)); replace HK := Aside0.mk (KeepBut.trans (by repeat (first | (with_reducible first | exact HK.out | apply KeepBut.set_ | apply keep_drewN | apply keep_drew | apply keep_alloc | refine keep_far ?_ GW392.out _) | exact HK.out)) hk (.inl rfl)); replace HB := Aside0.mk (hb); replace HI0 := Aside0.mk (hi); (try clear hb); obtain ⟨hnb18, hnc18⟩ := nB NB392_0; obtain ⟨hcz19_0, hcz19_1, hcz19_2, hfz19_0, hfz19_1, hfz19_2⟩ := bK3 (w := w17) BK392))
     refine rC gb392 25 #[.int .i64 t401, .int .i64 t404, .bool false] (bU BK392) Try.underlying25 ?_
     exact ⟨by first | rfl | (simp [errW_none, errW_some] <;> rfl) | (simp [*, errW_none, errW_some] <;> rfl), by repeat (first | (with_reducible first | exact HI0.out | apply IsS89.alloc | apply IsS89.drewN | apply IsS89.drew | apply IsS89.set_1 | apply IsS89.set_2 | refine IsS89.far ?_ NB0_392.out _) | exact HI0.out), by repeat (first | (with_reducible first | exact HB.out | apply below_alloc | apply pw_below_drewN | apply below_drew1 | refine below_set ?_ (IsS89.ge HI0.out) | refine below_set ?_ GE392.out) | exact HB.out), by repeat (first | (with_reducible first | exact HK.out | apply KeepBut.set_ | apply keep_drewN | apply keep_drew | apply keep_alloc | refine keep_far ?_ GW392.out _) | exact HK.out)⟩
    ·rw [if_neg c13] at H
     have c13b0 : (t393 == 3) = false := beq_eq_false_iff_ne.mpr c13
     have c13b1 : (t393 != 3) = true := bne_iff_ne.mpr c13
     by_cases c20 : t393 = 4
     ·rw [if_pos c20] at H
      have c20b0 : (t393 == 4) = true := beq_iff_eq.mpr c20
      have c20b1 : (t393 != 4) = false := bne_eq_false_iff_eq.mpr c20
      clear c20
      replace H := Option.bind_eq_some_iff.mp H
      obtain ⟨⟨t407, t408, t409⟩, A210, H⟩ := H
      have A21 := Aside0.mk A210
      clear A210
      simp only [Option.some.injEq, Prod.mk.injEq] at H
      obtain ⟨rfl, rfl, rfl, rfl, rfl⟩ := H
      go_wp2_with (first | ((with_reducible refine gate_callee (f := 62) rfl ?_); refine gL (some 21) Try.func62 #[.pointer (some ⟨g, 0, none⟩), .int .i64 3] ?_; (with_reducible refine (spec_l01Below.calls g s0_0 t394 t395 3 t407 t408 t409 w0 _ ?side1 ?side2 A21.out).mono ?_); (case side1 => repeat (first | (with_reducible first | exact HI0.out | apply IsS89.alloc | apply IsS89.drewN | apply IsS89.drew | apply IsS89.set_1 | apply IsS89.set_2 | refine IsS89.far ?_ NB0_392.out _) | exact HI0.out)); (case side2 => repeat (first | (with_reducible first | exact HB.out | apply below_alloc | apply pw_below_drewN | apply below_drew1 | refine below_set ?_ (IsS89.ge HI0.out) | refine below_set ?_ GE392.out) | exact HB.out)); rintro e w22 ⟨rfl, hi, hb, hk⟩; refine ⟨_, rfl, ?_⟩; replace BK392 := Aside0.mk (KeepBut.blk hk (g' := gb392) (o := .cells #[.int .i64 0, .int .i64 0, .bool false] 25 (0, 0)) (bP BK392) NB392_0.out (by simp)); replace HK := Aside0.mk (KeepBut.trans (by repeat (first | (with_reducible first | exact HK.out | apply KeepBut.set_ | apply keep_drewN | apply keep_drew | apply keep_alloc | refine keep_far ?_ GW392.out _) | exact HK.out)) hk (.inl rfl)); replace HB := Aside0.mk (hb); replace HI0 := Aside0.mk (hi); (try clear hb); obtain ⟨hnb23, hnc23⟩ := nB NB392_0; obtain ⟨hcz24_0, hcz24_1, hcz24_2, hfz24_0, hfz24_1, hfz24_2⟩ := bK3 (w := w22) BK392))
      refine rC gb392 25 #[.int .i64 t407, .int .i64 0, .bool true] (bU BK392) Try.underlying25 ?_
      exact ⟨by first | rfl | (simp [errW_none, errW_some] <;> rfl) | (simp [*, errW_none, errW_some] <;> rfl), by repeat (first | (with_reducible first | exact HI0.out | apply IsS89.alloc | apply IsS89.drewN | apply IsS89.drew | apply IsS89.set_1 | apply IsS89.set_2 | refine IsS89.far ?_ NB0_392.out _) | exact HI0.out), by repeat (first | (with_reducible first | exact HB.out | apply below_alloc | apply pw_below_drewN | apply below_drew1 | refine below_set ?_ (IsS89.ge HI0.out) | refine below_set ?_ GE392.out) | exact HB.out), by repeat (first | (with_reducible first | exact HK.out | apply KeepBut.set_ | apply keep_drewN | apply keep_drew | apply keep_alloc | refine keep_far ?_ GW392.out _) | exact HK.out)⟩
     ·rw [if_neg c20] at H
      have c20b0 : (t393 == 4) = false := beq_eq_false_iff_ne.mpr c20
      have c20b1 : (t393 != 4) = true := bne_iff_ne.mpr c20
      by_cases c25 : t393 = 5
      ·rw [if_pos c25] at H
       have c25b0 : (t393 == 5) = true := beq_iff_eq.mpr c25
       have c25b1 : (t393 != 5) = false := bne_eq_false_iff_eq.mpr c25
       clear c25
       simp only [Option.some.injEq, Prod.mk.injEq] at H
       obtain ⟨rfl, rfl, rfl, rfl, rfl⟩ := H
       obtain ⟨hnb26, hnc26⟩ := nB NB392_0
       obtain ⟨hcz27_0, hcz27_1, hcz27_2, hfz27_0, hfz27_1, hfz27_2⟩ := bK3 (w := wc) BK392
       go_wp2
       refine rC gb392 25 #[.int .i64 0, .int .i64 0, .bool false] (bU BK392) Try.underlying25 ?_
       exact ⟨by first | rfl | (simp [errW_none, errW_some] <;> rfl) | (simp [*, errW_none, errW_some] <;> rfl), by repeat (first | (with_reducible first | exact HI0.out | apply IsS89.alloc | apply IsS89.drewN | apply IsS89.drew | apply IsS89.set_1 | apply IsS89.set_2 | refine IsS89.far ?_ NB0_392.out _) | exact HI0.out), by repeat (first | (with_reducible first | exact HB.out | apply below_alloc | apply pw_below_drewN | apply below_drew1 | refine below_set ?_ (IsS89.ge HI0.out) | refine below_set ?_ GE392.out) | exact HB.out), by repeat (first | (with_reducible first | exact HK.out | apply KeepBut.set_ | apply keep_drewN | apply keep_drew | apply keep_alloc | refine keep_far ?_ GW392.out _) | exact HK.out)⟩
      ·rw [if_neg c25] at H
       have c25b0 : (t393 == 5) = false := beq_eq_false_iff_ne.mpr c25
       have c25b1 : (t393 != 5) = true := bne_iff_ne.mpr c25
       replace H := Option.bind_eq_some_iff.mp H
       obtain ⟨⟨t410, t411, t412, t413, t414⟩, A280, H⟩ := H
       have A28 := Aside0.mk A280
       clear A280
       simp only [Option.some.injEq, Prod.mk.injEq] at H
       obtain ⟨rfl, rfl, rfl, rfl, rfl⟩ := H
       go_wp2_with (first | ((with_reducible refine gate_callee (f := 60) rfl ?_); refine gL (some 27) Try.func60 #[.pointer (some ⟨g, 0, none⟩)] ?_; (with_reducible refine (spec_l07Group.calls kj2 g s0_0 t394 t395 t410 t411 t412 t413 t414 w0 _ ?side1 ?side2 A28.out).mono ?_); (case side1 => repeat (first | (with_reducible first | exact HI0.out | apply IsS89.alloc | apply IsS89.drewN | apply IsS89.drew | apply IsS89.set_1 | apply IsS89.set_2 | refine IsS89.far ?_ NB0_392.out _) | exact HI0.out)); (case side2 => repeat (first | (with_reducible first | exact HB.out | apply below_alloc | apply pw_below_drewN | apply below_drew1 | refine below_set ?_ (IsS89.ge HI0.out) | refine below_set ?_ GE392.out) | exact HB.out)); rintro e w29 ⟨rfl, hi, hb, hk⟩; refine ⟨_, rfl, ?_⟩; replace BK392 := Aside0.mk (KeepBut.blk hk (g' := gb392) (o := .cells #[.int .i64 0, .int .i64 0, .bool false] 25 (0, 0)) (bP BK392) NB392_0.out (by simp)); replace HK := Aside0.mk (KeepBut.trans (by repeat (first | (with_reducible first | exact HK.out | apply KeepBut.set_ | apply keep_drewN | apply keep_drew | apply keep_alloc | refine keep_far ?_ GW392.out _) | exact HK.out)) hk (.inl rfl)); replace HB := Aside0.mk (hb); replace HI0 := Aside0.mk (hi); (try clear hb); obtain ⟨hnb30, hnc30⟩ := nB NB392_0; obtain ⟨hcz31_0, hcz31_1, hcz31_2, hfz31_0, hfz31_1, hfz31_2⟩ := bK3 (w := w29) BK392))
       refine rC gb392 25 #[.int .i64 t410, .int .i64 t411, .bool t412] (bU BK392) Try.underlying25 ?_
       exact ⟨by first | rfl | (simp [errW_none, errW_some] <;> rfl) | (simp [*, errW_none, errW_some] <;> rfl), by repeat (first | (with_reducible first | exact HI0.out | apply IsS89.alloc | apply IsS89.drewN | apply IsS89.drew | apply IsS89.set_1 | apply IsS89.set_2 | refine IsS89.far ?_ NB0_392.out _) | exact HI0.out), by repeat (first | (with_reducible first | exact HB.out | apply below_alloc | apply pw_below_drewN | apply below_drew1 | refine below_set ?_ (IsS89.ge HI0.out) | refine below_set ?_ GE392.out) | exact HB.out), by repeat (first | (with_reducible first | exact HK.out | apply KeepBut.set_ | apply keep_drewN | apply keep_drew | apply keep_alloc | refine keep_far ?_ GW392.out _) | exact HK.out)⟩
/-! ### spec_DrawPairsRight: function 56 -/
def spec_DrawPairsRight.f (k : Nat) (l0 : List Int) : Option ((List (S25)) × (List (S25))) := (spec_l01New.f k l0).bind fun bt904 => ((spec_l01Below.f bt904.1 bt904.2.1 bt904.2.2 4).bind fun bt908 => ((spec_l07Group.f k bt904.1 bt908.2.1 bt908.2.2).bind fun bt911 => ((spec_l07Group.f k bt904.1 bt911.2.2.2.1 bt911.2.2.2.2).bind fun bt917 => ((spec_PointNeg.f bt911.1 bt911.2.1 bt911.2.2.1).bind fun bt923 => ((some (([(⟨bt911.1, bt911.2.1, bt911.2.2.1⟩ : S25), (⟨bt923.1, bt923.2.1, bt923.2.2⟩ : S25)] : List (S25)) : List (S25))).bind fun y926 => ((some (([(⟨bt917.1, bt917.2.1, bt917.2.2.1⟩ : S25), (⟨bt917.1, bt917.2.1, bt917.2.2.1⟩ : S25)] : List (S25)) : List (S25))).bind fun y929 => (if bt908.1 = 0 then ((spec_l07Any.f k bt904.1 bt917.2.2.2.1 bt917.2.2.2.2).bind fun bt932 => (if y926.length < 5864062014805 then ((spec_l07Any.f k bt904.1 bt932.2.2.2.1 bt932.2.2.2.2).bind fun bt940 => (if y929.length < 5864062014805 then (some ((y926 ++ [(⟨bt932.1, bt932.2.1, bt932.2.2.1⟩ : S25)]), (y929 ++ [(⟨bt940.1, bt940.2.1, bt940.2.2.1⟩ : S25)]))) else (none))) else (none))) else (if bt908.1 = 1 then (if y926.length < 5864062014805 then (some ((y926 ++ [(⟨bt911.1, bt911.2.1, bt911.2.2.1⟩ : S25)]), y929)) else (none)) else (some (y926, y929))))))))))
theorem spec_DrawPairsRight.mono : ∀ a0 k, LeO (spec_DrawPairsRight.f k a0) (spec_DrawPairsRight.f (k + 1) a0) := by
 intro a0 k
 unfold spec_DrawPairsRight.f
 repeat' first
   | (with_reducible exact spec_l01New.mono _ _)
   | (with_reducible exact spec_l07Any.mono _ _ _ _)
   | (with_reducible exact spec_l07Group.mono _ _ _ _)
   | (with_reducible exact LeO.refl _)
   | (with_reducible exact LeO.none _)
   | (with_reducible refine LeO.ite ?_ ?_)
   | (with_reducible refine LeO.bind ?_ (fun _ => ?_))
   | exact spec_l01New.mono _ _
   | exact spec_l07Any.mono _ _ _ _
   | exact spec_l07Group.mono _ _ _ _
   | exact LeO.none _
   | refine LeO.ite ?_ ?_
   | refine LeO.bind ?_ (fun _ => ?_)
set_option maxHeartbeats 8000000 in
set_option maxRecDepth 100000 in
theorem spec_DrawPairsRight.calls (k : Nat) (A0 : Option Addr) (c0 : Nat) (l0 : List Int) (r1 : List (S25)) (r2 : List (S25)) (w : World) (hr0 : Kd.C (Kd.int .u8) w A0 l0.length l0) (hc0 : l0.length ≤ c0) (h : spec_DrawPairsRight.f k l0 = some (r1, r2)) :
  Calls Try.prog 56 #[.slice A0 l0.length c0] w fun e w' => ∃ v0_ v1_ : Value, e = .returned (.tuple #[v0_, v1_]) ∧ Kd.R k25 25 w' w.heap.size (fun k_ => some k_ ≠ (v1_ : Value).ownBlock) v0_ r1 ∧ Kd.R k25 25 w' w.heap.size (fun k_ => some k_ ≠ (v0_ : Value).ownBlock) v1_ r2 ∧ Below w.heap.size w w' := by
 have hu25 := Try.underlying25
 have HR0 := Aside0.mk hr0
 have HC0 := Aside0.mk hc0
 clear hr0 hc0
 have HB := Aside0.mk (Below.refl w.heap.size w)
 have H : ((spec_l01New.f k l0).bind fun bt904 => ((spec_l01Below.f bt904.1 bt904.2.1 bt904.2.2 4).bind fun bt908 => ((spec_l07Group.f k bt904.1 bt908.2.1 bt908.2.2).bind fun bt911 => ((spec_l07Group.f k bt904.1 bt911.2.2.2.1 bt911.2.2.2.2).bind fun bt917 => ((spec_PointNeg.f bt911.1 bt911.2.1 bt911.2.2.1).bind fun bt923 => ((some (([(⟨bt911.1, bt911.2.1, bt911.2.2.1⟩ : S25), (⟨bt923.1, bt923.2.1, bt923.2.2⟩ : S25)] : List (S25)) : List (S25))).bind fun y926 => ((some (([(⟨bt917.1, bt917.2.1, bt917.2.2.1⟩ : S25), (⟨bt917.1, bt917.2.1, bt917.2.2.1⟩ : S25)] : List (S25)) : List (S25))).bind fun y929 => (if bt908.1 = 0 then ((spec_l07Any.f k bt904.1 bt917.2.2.2.1 bt917.2.2.2.2).bind fun bt932 => (if y926.length < 5864062014805 then ((spec_l07Any.f k bt904.1 bt932.2.2.2.1 bt932.2.2.2.2).bind fun bt940 => (if y929.length < 5864062014805 then (some ((y926 ++ [(⟨bt932.1, bt932.2.1, bt932.2.2.1⟩ : S25)]), (y929 ++ [(⟨bt940.1, bt940.2.1, bt940.2.2.1⟩ : S25)]))) else (none))) else (none))) else (if bt908.1 = 1 then (if y926.length < 5864062014805 then (some ((y926 ++ [(⟨bt911.1, bt911.2.1, bt911.2.2.1⟩ : S25)]), y929)) else (none)) else (some (y926, y929))))))))))) = some (r1, r2) := h
 clear h
 replace H := Option.bind_eq_some_iff.mp H
 obtain ⟨⟨t904, t905, t906⟩, A20, H⟩ := H
 have A2 := Aside0.mk A20
 clear A20
 replace H := Option.bind_eq_some_iff.mp H
 obtain ⟨⟨t908, t909, t910⟩, A30, H⟩ := H
 have A3 := Aside0.mk A30
 clear A30
 replace H := Option.bind_eq_some_iff.mp H
 obtain ⟨⟨t911, t912, t913, t914, t915⟩, A40, H⟩ := H
 have A4 := Aside0.mk A40
 clear A40
 replace H := Option.bind_eq_some_iff.mp H
 obtain ⟨⟨t917, t918, t919, t920, t921⟩, A50, H⟩ := H
 have A5 := Aside0.mk A50
 clear A50
 replace H := Option.bind_eq_some_iff.mp H
 obtain ⟨⟨t923, t924, t925⟩, A60, H⟩ := H
 have A6 := Aside0.mk A60
 clear A60
 obtain ⟨y926, hy926⟩ : ∃ y_ : List (S25), y_ = (([(⟨t911, t912, t913⟩ : S25), (⟨t923, t924, t925⟩ : S25)] : List (S25))) := ⟨_, rfl⟩
 replace H : ((some (([(⟨t917, t918, t919⟩ : S25), (⟨t917, t918, t919⟩ : S25)] : List (S25)) : List (S25))).bind fun y929 => (if t908 = 0 then ((spec_l07Any.f k t904 t920 t921).bind fun bt932 => (if y926.length < 5864062014805 then ((spec_l07Any.f k t904 bt932.2.2.2.1 bt932.2.2.2.2).bind fun bt940 => (if y929.length < 5864062014805 then (some ((y926 ++ [(⟨bt932.1, bt932.2.1, bt932.2.2.1⟩ : S25)]), (y929 ++ [(⟨bt940.1, bt940.2.1, bt940.2.2.1⟩ : S25)]))) else (none))) else (none))) else (if t908 = 1 then (if y926.length < 5864062014805 then (some ((y926 ++ [(⟨t911, t912, t913⟩ : S25)]), y929)) else (none)) else (some (y926, y929))))) = some (r1, r2) := by first | (rw [hy926]; with_reducible exact H) | (have H2_ := (Option.bind_some _ _).symm.trans H; rw [hy926]; with_reducible exact H2_) | (have H2_ := (Option.bind_some _ _).symm.trans H; with_reducible exact H2_) | with_reducible exact H | (rw [hy926]; exact H) | exact H
 have Ny926 := Aside0.mk hy926
 clear hy926
 obtain ⟨y929, hy929⟩ : ∃ y_ : List (S25), y_ = (([(⟨t917, t918, t919⟩ : S25), (⟨t917, t918, t919⟩ : S25)] : List (S25))) := ⟨_, rfl⟩
 replace H : (if t908 = 0 then ((spec_l07Any.f k t904 t920 t921).bind fun bt932 => (if y926.length < 5864062014805 then ((spec_l07Any.f k t904 bt932.2.2.2.1 bt932.2.2.2.2).bind fun bt940 => (if y929.length < 5864062014805 then (some ((y926 ++ [(⟨bt932.1, bt932.2.1, bt932.2.2.1⟩ : S25)]), (y929 ++ [(⟨bt940.1, bt940.2.1, bt940.2.2.1⟩ : S25)]))) else (none))) else (none))) else (if t908 = 1 then (if y926.length < 5864062014805 then (some ((y926 ++ [(⟨t911, t912, t913⟩ : S25)]), y929)) else (none)) else (some (y926, y929)))) = some (r1, r2) := by first | (rw [hy929]; with_reducible exact H) | (have H2_ := (Option.bind_some _ _).symm.trans H; rw [hy929]; with_reducible exact H2_) | (have H2_ := (Option.bind_some _ _).symm.trans H; with_reducible exact H2_) | with_reducible exact H | (rw [hy929]; exact H) | exact H
 have Ny929 := Aside0.mk hy929
 clear hy929
 by_cases c7 : t908 = 0
 ·rw [if_pos c7] at H
  have c7b0 : (t908 == 0) = true := beq_iff_eq.mpr c7
  have c7b1 : (t908 != 0) = false := bne_eq_false_iff_eq.mpr c7
  clear c7
  replace H := Option.bind_eq_some_iff.mp H
  obtain ⟨⟨t932, t933, t934, t935, t936⟩, A80, H⟩ := H
  have A8 := Aside0.mk A80
  clear A80
  by_cases c9 : y926.length < 5864062014805
  ·rw [if_pos c9] at H
   have LMc9 := Aside0.mk c9
   clear c9
   obtain ⟨y937, hy937⟩ : ∃ y_ : List (S25), y_ = (y926 ++ [(⟨t932, t933, t934⟩ : S25)]) := ⟨_, rfl⟩
   replace H : ((spec_l07Any.f k t904 t935 t936).bind fun bt940 => (if y929.length < 5864062014805 then (some (y937, (y929 ++ [(⟨bt940.1, bt940.2.1, bt940.2.2.1⟩ : S25)]))) else (none))) = some (r1, r2) := by first | (rw [hy937]; with_reducible exact H) | (have H2_ := (Option.bind_some _ _).symm.trans H; rw [hy937]; with_reducible exact H2_) | (have H2_ := (Option.bind_some _ _).symm.trans H; with_reducible exact H2_) | with_reducible exact H | (rw [hy937]; exact H) | exact H
   have Ny937 := Aside0.mk hy937
   clear hy937
   replace H := Option.bind_eq_some_iff.mp H
   obtain ⟨⟨t940, t941, t942, t943, t944⟩, A100, H⟩ := H
   have A10 := Aside0.mk A100
   clear A100
   by_cases c11 : y929.length < 5864062014805
   ·rw [if_pos c11] at H
    have LMc11 := Aside0.mk c11
    clear c11
    obtain ⟨y945, hy945⟩ : ∃ y_ : List (S25), y_ = (y929 ++ [(⟨t940, t941, t942⟩ : S25)]) := ⟨_, rfl⟩
    replace H : (some (y937, y945)) = some (r1, r2) := by first | (rw [hy945]; with_reducible exact H) | (have H2_ := (Option.bind_some _ _).symm.trans H; rw [hy945]; with_reducible exact H2_) | (have H2_ := (Option.bind_some _ _).symm.trans H; with_reducible exact H2_) | with_reducible exact H | (rw [hy945]; exact H) | exact H
    have Ny945 := Aside0.mk hy945
    clear hy945
    simp only [Option.some.injEq, Prod.mk.injEq] at H
    obtain ⟨rfl, rfl⟩ := H
    go_enter Try.func56, Try.ntmps56
    try go_wp2_with (first | ((with_reducible refine gate_callee (f := 59) rfl ?_); refine gL (some 11) Try.func59 #[.slice A0 l0.length c0] ?_; (with_reducible refine (spec_l01New.calls k _ _ l0 t904 t905 t906 w _ ?side1 ?side2 ?side3 A2.out).mono ?_); (case side1 => repeat (first | (with_reducible first | exact HB.out | apply below_alloc | apply pw_below_drewN | apply below_drew1) | exact HB.out)); (case side2 => exact HR0.out); (case side3 => exact HC0.out); rintro e w12 ⟨g907, rfl, hi, hb, hb2⟩; refine ⟨_, rfl, ?_⟩; replace HB := Aside0.mk (hb); have HI907 := Aside0.mk (hi); (try clear hb)) | ((with_reducible refine gate_callee (f := 62) rfl ?_); refine gL (some 13) Try.func62 #[.pointer (some ⟨g907, 0, none⟩), .int .i64 4] ?_; (with_reducible refine (spec_l01Below.calls g907 t904 t905 t906 4 t908 t909 t910 w _ ?side1 ?side2 A3.out).mono ?_); (case side1 => repeat (first | (with_reducible first | exact HI907.out | apply IsS89.alloc | apply IsS89.drewN | apply IsS89.drew | apply IsS89.set_1 | apply IsS89.set_2) | exact HI907.out)); (case side2 => repeat (first | (with_reducible first | exact HB.out | apply below_alloc | apply pw_below_drewN | apply below_drew1 | refine below_set ?_ (IsS89.ge HI907.out)) | exact HB.out)); rintro e w13 ⟨rfl, hi, hb, hk⟩; refine ⟨_, rfl, ?_⟩; replace HB := Aside0.mk (hb); replace HI907 := Aside0.mk (hi); (try clear hb)) | ((with_reducible refine gate_callee (f := 60) rfl ?_); refine gL (some 15) Try.func60 #[.pointer (some ⟨g907, 0, none⟩)] ?_; (with_reducible refine (spec_l07Group.calls k g907 t904 t909 t910 t911 t912 t913 t914 t915 w _ ?side1 ?side2 A4.out).mono ?_); (case side1 => repeat (first | (with_reducible first | exact HI907.out | apply IsS89.alloc | apply IsS89.drewN | apply IsS89.drew | apply IsS89.set_1 | apply IsS89.set_2) | exact HI907.out)); (case side2 => repeat (first | (with_reducible first | exact HB.out | apply below_alloc | apply pw_below_drewN | apply below_drew1 | refine below_set ?_ (IsS89.ge HI907.out)) | exact HB.out)); rintro e w14 ⟨rfl, hi, hb, hk⟩; refine ⟨_, rfl, ?_⟩; replace HB := Aside0.mk (hb); replace HI907 := Aside0.mk (hi); (try clear hb)) | ((with_reducible refine gate_dst (N := 6) rfl ?_); refine bE 6 #[.int .i64 0, .int .i64 0, .bool false] 25 ?_; intro gb916 hg w15 hbox hb; have BK916 := Aside0.mk (hbox); have GW916 := Aside0.mk ((by rw [hg]; exact (below_size (by repeat (first | (with_reducible first | exact HB.out | apply below_alloc | apply pw_below_drewN | apply below_drew1 | refine below_set ?_ (IsS89.ge HI907.out)) | exact HB.out))) : w.heap.size ≤ gb916)); have GE916 := Aside0.mk ((by rw [hg]; exact (below_size (by repeat (first | (with_reducible first | exact HB.out | apply below_alloc | apply pw_below_drewN | apply below_drew1 | refine below_set ?_ (IsS89.ge HI907.out)) | exact HB.out))) : w.heap.size ≤ gb916)); replace HB := Aside0.mk (below_step (by repeat (first | (with_reducible first | exact HB.out | apply below_alloc | apply pw_below_drewN | apply below_drew1 | refine below_set ?_ (IsS89.ge HI907.out)) | exact HB.out)) hb); have NB907_916 := Aside0.mk ((by rw [hg]; exact Nat.ne_of_lt (IsS89.lt (show IsS89 w _ g907 t904 t914 t915 from by repeat (first | (with_reducible first | exact HI907.out | apply IsS89.alloc | apply IsS89.drewN | apply IsS89.drew | apply IsS89.set_1 | apply IsS89.set_2) | exact HI907.out))) : g907 ≠ gb916)); have NB916_907 := Aside0.mk ((by rw [hg]; exact Nat.ne_of_gt (IsS89.lt (show IsS89 w _ g907 t904 t914 t915 from by repeat (first | (with_reducible first | exact HI907.out | apply IsS89.alloc | apply IsS89.drewN | apply IsS89.drew | apply IsS89.set_1 | apply IsS89.set_2) | exact HI907.out))) : gb916 ≠ g907)); replace HI907 := Aside0.mk (IsS89.below (by repeat (first | (with_reducible first | exact HI907.out | apply IsS89.alloc | apply IsS89.drewN | apply IsS89.drew | apply IsS89.set_1 | apply IsS89.set_2) | exact HI907.out)) hb); clear hb hbox hg; obtain ⟨hnb16, hnc16⟩ := nB NB916_907; obtain ⟨hcz17_0, hcz17_1, hcz17_2, hfz17_0, hfz17_1, hfz17_2⟩ := bK3 (w := w15) BK916) | ((with_reducible refine gate_callee (f := 60) rfl ?_); refine gL (some 17) Try.func60 #[.pointer (some ⟨g907, 0, none⟩)] ?_; (with_reducible refine (spec_l07Group.calls k g907 t904 t914 t915 t917 t918 t919 t920 t921 w _ ?side1 ?side2 A5.out).mono ?_); (case side1 => repeat (first | (with_reducible first | exact HI907.out | apply IsS89.alloc | apply IsS89.drewN | apply IsS89.drew | apply IsS89.set_1 | apply IsS89.set_2 | refine IsS89.far ?_ NB907_916.out _) | exact HI907.out)); (case side2 => repeat (first | (with_reducible first | exact HB.out | apply below_alloc | apply pw_below_drewN | apply below_drew1 | refine below_set ?_ (IsS89.ge HI907.out) | refine below_set ?_ GE916.out) | exact HB.out)); rintro e w18 ⟨rfl, hi, hb, hk⟩; refine ⟨_, rfl, ?_⟩; replace BK916 := Aside0.mk (KeepBut.blk hk (g' := gb916) (o := .cells #[.int .i64 t911, .int .i64 t912, .bool t913] 25 (0, 0)) (bU BK916) NB916_907.out (by simp)); replace HB := Aside0.mk (hb); replace HI907 := Aside0.mk (hi); (try clear hb)) | ((with_reducible refine gate_dst (N := 7) rfl ?_); refine bE 7 #[.int .i64 0, .int .i64 0, .bool false] 25 ?_; intro gb922 hg w19 hbox hb; have BK922 := Aside0.mk (hbox); have GW922 := Aside0.mk ((by rw [hg]; exact (below_size (by repeat (first | (with_reducible first | exact HB.out | apply below_alloc | apply pw_below_drewN | apply below_drew1 | refine below_set ?_ (IsS89.ge HI907.out) | refine below_set ?_ GE916.out) | exact HB.out))) : w.heap.size ≤ gb922)); have GE922 := Aside0.mk ((by rw [hg]; exact (below_size (by repeat (first | (with_reducible first | exact HB.out | apply below_alloc | apply pw_below_drewN | apply below_drew1 | refine below_set ?_ (IsS89.ge HI907.out) | refine below_set ?_ GE916.out) | exact HB.out))) : w.heap.size ≤ gb922)); replace HB := Aside0.mk (below_step (by repeat (first | (with_reducible first | exact HB.out | apply below_alloc | apply pw_below_drewN | apply below_drew1 | refine below_set ?_ (IsS89.ge HI907.out) | refine below_set ?_ GE916.out) | exact HB.out)) hb); have NB916_922 := bL BK916 hg; have NB922_916 := bR BK916 hg; replace BK916 := bB BK916 hb; have NB907_922 := Aside0.mk ((by rw [hg]; exact Nat.ne_of_lt (IsS89.lt (show IsS89 w _ g907 t904 t920 t921 from by repeat (first | (with_reducible first | exact HI907.out | apply IsS89.alloc | apply IsS89.drewN | apply IsS89.drew | apply IsS89.set_1 | apply IsS89.set_2 | refine IsS89.far ?_ NB907_916.out _) | exact HI907.out))) : g907 ≠ gb922)); have NB922_907 := Aside0.mk ((by rw [hg]; exact Nat.ne_of_gt (IsS89.lt (show IsS89 w _ g907 t904 t920 t921 from by repeat (first | (with_reducible first | exact HI907.out | apply IsS89.alloc | apply IsS89.drewN | apply IsS89.drew | apply IsS89.set_1 | apply IsS89.set_2 | refine IsS89.far ?_ NB907_916.out _) | exact HI907.out))) : gb922 ≠ g907)); replace HI907 := Aside0.mk (IsS89.below (by repeat (first | (with_reducible first | exact HI907.out | apply IsS89.alloc | apply IsS89.drewN | apply IsS89.drew | apply IsS89.set_1 | apply IsS89.set_2 | refine IsS89.far ?_ NB907_916.out _) | exact HI907.out)) hb); clear hb hbox hg; obtain ⟨hnb20, hnc20⟩ := nB NB922_916; obtain ⟨hnb21, hnc21⟩ := nB NB922_907; obtain ⟨hcz22_0, hcz22_1, hcz22_2, hfz22_0, hfz22_1, hfz22_2⟩ := bK3 (w := w19) BK922))
    obtain ⟨w23, hW_⟩ : ∃ W_ : World, W_ = (((w19.setCell ⟨gb922, 0, none⟩ (.int .i64 t917)).setCell ⟨gb922, 1, none⟩ (.int .i64 t918)).setCell ⟨gb922, 2, none⟩ (.bool t919)) := ⟨_, rfl⟩
    replace BK916 := bW hW_ BK916
    replace BK922 := bX hW_ 25 #[.int .i64 t917, .int .i64 t918, .bool t919] BK922
    have n2_ : Aside0 (IsS89 w (((w19.setCell ⟨gb922, 0, none⟩ (.int .i64 t917)).setCell ⟨gb922, 1, none⟩ (.int .i64 t918)).setCell ⟨gb922, 2, none⟩ (.bool t919)) g907 t904 t920 t921) := ⟨by repeat (first | (with_reducible first | exact HI907.out | apply IsS89.alloc | apply IsS89.drewN | apply IsS89.drew | apply IsS89.set_1 | apply IsS89.set_2 | refine IsS89.far ?_ NB907_916.out _ | refine IsS89.far ?_ NB907_922.out _) | exact HI907.out)⟩
    rw [← hW_] at n2_
    have n3_ : Aside0 (Below w.heap.size w (((w19.setCell ⟨gb922, 0, none⟩ (.int .i64 t917)).setCell ⟨gb922, 1, none⟩ (.int .i64 t918)).setCell ⟨gb922, 2, none⟩ (.bool t919))) := ⟨by repeat (first | (with_reducible first | exact HB.out | apply below_alloc | apply pw_below_drewN | apply below_drew1 | refine below_set ?_ (IsS89.ge HI907.out) | refine below_set ?_ GE916.out | refine below_set ?_ GE922.out) | exact HB.out)⟩
    rw [← hW_] at n3_
    (try clear HI907)
    (try clear HB)
    have HI907 := n2_
    clear n2_
    have HB := n3_
    clear n3_
    rw [← hW_]
    clear hW_
    replace BK916 := Aside0.mk (blk_drew BK916.out)
    replace BK922 := Aside0.mk (blk_drew BK922.out)
    replace HI907 := Aside0.mk (IsS89.drew HI907.out)
    replace HB := Aside0.mk (below_drew1 HB.out)
    refine start_ (n := 5) (S := fun w' => SQ3 w' gb916 (.int .i64 t911) (.int .i64 t912) (.bool t913)) (ds := []) #[false, false, false, false, false] (by kernel_rfl) rfl rfl (bT3 BK916) (fun hHeld => ?_)
    generalize w23.drew = w24 at BK916 BK922 HI907 HB hHeld ⊢
    refine take_ (i := 0) (N := some 18) (v := ?_) (a' := ?_) #[true, false, false, false, false] rfl rfl (by kernel_rfl) (fun _ _ _ h => h) (Or.inl ⟨by rfl, ?_⟩) hHeld ?_ ?_
    rotate_left
    ·rintro w' ⟨s0, s1, s2⟩
     go_simp
     with_reducible rfl
    rotate_left
    ·simp only [Act.put, List.setIfInBounds_toArray, List.set_cons_zero, List.set_cons_succ, i64_w, i32_w]
     rfl
    refine take_ (i := 1) (N := some 19) (v := ?_) (a' := ?_) #[true, true, false, false, false] rfl rfl (by kernel_rfl) (fun _ _ _ h => h) (Or.inl ⟨by rfl, ?_⟩) hHeld ?_ ?_
    rotate_left
    ·rintro w' ⟨s0, s1, s2⟩
     go_simp
     with_reducible rfl
    rotate_left
    ·simp only [Act.put, List.setIfInBounds_toArray, List.set_cons_zero, List.set_cons_succ, i64_w, i32_w]
     rfl
    refine one_ (i := 2) (N := some 20) #[true, true, true, false, false] rfl rfl (by kernel_rfl) (by decide) (fun K hK => ?_)
    refine gO Try.func79 #[.agg #[.int .i64 t911, .int .i64 t912, .bool t913]] ?_
    with_reducible refine (spec_PointNeg.calls t911 t912 t913 t923 t924 t925 _ A6.out).mono ?_
    rintro e w25 ⟨rfl, hb⟩
    refine ⟨_, rfl, ?_⟩
    replace BK916 := bB BK916 hb
    replace BK922 := bB BK922 hb
    replace HB := Aside0.mk (below_step (by repeat (first | (with_reducible first | exact HB.out | apply below_alloc | apply pw_below_drewN | apply below_drew1 | refine below_set ?_ (IsS89.ge HI907.out) | refine below_set ?_ GE916.out | refine below_set ?_ GE922.out) | exact HB.out)) hb)
    replace HI907 := Aside0.mk (IsS89.below (by repeat (first | (with_reducible first | exact HI907.out | apply IsS89.alloc | apply IsS89.drewN | apply IsS89.drew | apply IsS89.set_1 | apply IsS89.set_2 | refine IsS89.far ?_ NB907_916.out _ | refine IsS89.far ?_ NB907_922.out _) | exact HI907.out)) hb)
    (try clear hb)
    refine hK.out _ _ (bT3 BK916) (fun hHeld => ?_)
    clear hK K
    refine nO (some 20) ?_
    refine one_ (i := 3) (N := some 21) #[true, true, true, true, false] rfl rfl (by kernel_rfl) (by decide) (fun K hK => ?_)
    refine Kd.R_lit_step k25 _ 25 ?hg (N := 21) ?hd (xs := ([(⟨t911, t912, t913⟩ : S25), (⟨t923, t924, t925⟩ : S25)] : List (S25))) (inner := [.int .i64 t911, .int .i64 t912, .bool t913, .int .i64 t923, .int .i64 t924, .bool t925]) (ok := fun _ => True) (okp := fun _ => True) ?hr ?hp (fun _ hk => hk) trivial (Below.refl _ _) (Nat.le_refl _) (by simp) ?_; (case hd => rfl); (case hg => rfl); (case hr => first | (go_simp; done) | (go_simp; rfl)); (case hp => exact (Reps.c3 (show Kd.M k25 _ _ _ (⟨t911, t912, t913⟩ : S25) [.int .i64 t911, .int .i64 t912, .bool t913] from (k25_mkM _ _ _ (⟨t911, t912, t913⟩ : S25) )) (Reps.c3 (show Kd.M k25 _ _ _ (⟨t923, t924, t925⟩ : S25) [.int .i64 t923, .int .i64 t924, .bool t925] from (k25_mkM _ _ _ (⟨t923, t924, t925⟩ : S25) )) (Reps.none _ _))))
    intro v927 w26 ho27 hb hg_ hnew_
    clear hg_ hnew_
    (first | rw [← Ny926.out] at ho27 | (simp only [Int.reduceToNat] at ho27; rw [← Ny926.out] at ho27))
    have HO928 := Aside0.mk (Kd.R_lower (Kd.R_newB (Kd.R_newB ho27 (bP BK916)) (bP BK922)) (below_size (by repeat (first | (with_reducible first | exact HB.out | apply below_alloc | apply pw_below_drewN | apply below_drew1 | refine below_set ?_ (IsS89.ge HI907.out) | refine below_set ?_ GE916.out | refine below_set ?_ GE922.out) | exact HB.out))))
    replace BK916 := bB BK916 hb
    replace BK922 := bB BK922 hb
    replace HB := Aside0.mk (below_step (by repeat (first | (with_reducible first | exact HB.out | apply below_alloc | apply pw_below_drewN | apply below_drew1 | refine below_set ?_ (IsS89.ge HI907.out) | refine below_set ?_ GE916.out | refine below_set ?_ GE922.out) | exact HB.out)) hb)
    replace HI907 := Aside0.mk (IsS89.below (by repeat (first | (with_reducible first | exact HI907.out | apply IsS89.alloc | apply IsS89.drewN | apply IsS89.drew | apply IsS89.set_1 | apply IsS89.set_2 | refine IsS89.far ?_ NB907_916.out _ | refine IsS89.far ?_ NB907_922.out _) | exact HI907.out)) hb)
    clear hb ho27
    refine hK.out _ _ (bT3 BK916) (fun hHeld => ?_)
    clear hK K
    refine nO (some 21) ?_
    refine pure_ (i := 4) (N := some 8) (v := ?_) (a' := ?_) #[true, true, true, true, true] rfl rfl (by kernel_rfl) (fun _ _ _ h => h) (Or.inl ⟨by rfl, ?_⟩) ?_ ?_
    rotate_left
    ·intro w'
     go_simp
     with_reducible rfl
    rotate_left
    ·simp only [Act.put, List.setIfInBounds_toArray, List.set_cons_zero, List.set_cons_succ, i64_w, i32_w]
     rfl
    refine done_ (by kernel_rfl) ?_
    obtain ⟨hcz28_0, hcz28_1, hcz28_2, hfz28_0, hfz28_1, hfz28_2⟩ := bK3 (w := w26) BK922
    try go_wp2_with (first | ((with_reducible refine gate_dst (N := 24) rfl ?_); refine Kd.R_lit k25 _ 25 ?hg (N := 24) ?hd (xs := ([(⟨t917, t918, t919⟩ : S25), (⟨t917, t918, t919⟩ : S25)] : List (S25))) (inner := [.int .i64 t917, .int .i64 t918, .bool t919, .int .i64 t917, .int .i64 t918, .bool t919]) (ok := fun _ => True) (okp := fun _ => True) ?hr ?hp (fun _ hk => hk) trivial (Below.refl _ _) (Nat.le_refl _) (by simp) ?_; (case hd => rfl); (case hg => rfl); (case hr => first | (go_simp; done) | (go_simp; rfl)); (case hp => exact (Reps.c3 (show Kd.M k25 _ _ _ (⟨t917, t918, t919⟩ : S25) [.int .i64 t917, .int .i64 t918, .bool t919] from (k25_mkM _ _ _ (⟨t917, t918, t919⟩ : S25) )) (Reps.c3 (show Kd.M k25 _ _ _ (⟨t917, t918, t919⟩ : S25) [.int .i64 t917, .int .i64 t918, .bool t919] from (k25_mkM _ _ _ (⟨t917, t918, t919⟩ : S25) )) (Reps.none _ _)))); intro v930 w29 ho30 hb hg_ hnew_; clear hg_ hnew_; (first | rw [← Ny929.out] at ho30 | (simp only [Int.reduceToNat] at ho30; rw [← Ny929.out] at ho30)); have HO931 := Aside0.mk (Kd.R_lower (Kd.R_newB (Kd.R_newB (Kd.R_new' ho30 (Kd.R_lt (rP HO928))) (bP BK916)) (bP BK922)) (below_size (by repeat (first | (with_reducible first | exact HB.out | apply below_alloc | apply pw_below_drewN | apply below_drew1 | refine below_set ?_ (IsS89.ge HI907.out) | refine below_set ?_ GE916.out | refine below_set ?_ GE922.out) | exact HB.out)))); replace HO928 := Aside0.mk (Kd.R_elder' (rP HO928) (Kd.R_base ho30) hb); replace BK916 := bB BK916 hb; replace BK922 := bB BK922 hb; replace HB := Aside0.mk (below_step (by repeat (first | (with_reducible first | exact HB.out | apply below_alloc | apply pw_below_drewN | apply below_drew1 | refine below_set ?_ (IsS89.ge HI907.out) | refine below_set ?_ GE916.out | refine below_set ?_ GE922.out) | exact HB.out)) hb); replace HI907 := Aside0.mk (IsS89.below (by repeat (first | (with_reducible first | exact HI907.out | apply IsS89.alloc | apply IsS89.drewN | apply IsS89.drew | apply IsS89.set_1 | apply IsS89.set_2 | refine IsS89.far ?_ NB907_916.out _ | refine IsS89.far ?_ NB907_922.out _) | exact HI907.out)) hb); clear hb ho30) | ((with_reducible refine gate_callee (f := 90) rfl ?_); refine gL (some 30) Try.func90 #[.pointer (some ⟨g907, 0, none⟩)] ?_; (with_reducible refine (spec_l07Any.calls k g907 t904 t920 t921 t932 t933 t934 t935 t936 w _ ?side1 ?side2 A8.out).mono ?_); (case side1 => repeat (first | (with_reducible first | exact HI907.out | apply IsS89.alloc | apply IsS89.drewN | apply IsS89.drew | apply IsS89.set_1 | apply IsS89.set_2 | refine IsS89.far ?_ NB907_916.out _ | refine IsS89.far ?_ NB907_922.out _) | exact HI907.out)); (case side2 => repeat (first | (with_reducible first | exact HB.out | apply below_alloc | apply pw_below_drewN | apply below_drew1 | refine below_set ?_ (IsS89.ge HI907.out) | refine below_set ?_ GE916.out | refine below_set ?_ GE922.out) | exact HB.out)); rintro e w31 ⟨rfl, hi, hb, hk⟩; refine ⟨_, rfl, ?_⟩; replace BK916 := Aside0.mk (KeepBut.blk hk (g' := gb916) (o := .cells #[.int .i64 t911, .int .i64 t912, .bool t913] 25 (0, 0)) (bP BK916) NB916_907.out (by simp)); replace BK922 := Aside0.mk (KeepBut.blk hk (g' := gb922) (o := .cells #[.int .i64 t917, .int .i64 t918, .bool t919] 25 (0, 0)) (bP BK922) NB922_907.out (by simp)); replace HO928 := Aside0.mk (Kd.R_mono (Kd.R_keep (IsS89.apart (show IsS89 w _ g907 t904 t920 t921 from by repeat (first | (with_reducible first | exact HI907.out | apply IsS89.alloc | apply IsS89.drewN | apply IsS89.drew | apply IsS89.set_1 | apply IsS89.set_2 | refine IsS89.far ?_ NB907_916.out _ | refine IsS89.far ?_ NB907_922.out _) | exact HI907.out)) (rP HO928) (by decide)) hk (fun _ h => h.2)) (fun _ h => h.1)); replace HO931 := Aside0.mk (Kd.R_mono (Kd.R_keep (IsS89.apart (show IsS89 w _ g907 t904 t920 t921 from by repeat (first | (with_reducible first | exact HI907.out | apply IsS89.alloc | apply IsS89.drewN | apply IsS89.drew | apply IsS89.set_1 | apply IsS89.set_2 | refine IsS89.far ?_ NB907_916.out _ | refine IsS89.far ?_ NB907_922.out _) | exact HI907.out)) (rP HO931) (by decide)) hk (fun _ h => h.2)) (fun _ h => h.1)); replace HB := Aside0.mk (hb); replace HI907 := Aside0.mk (hi); (try clear hb)) | ((with_reducible refine gate_builtin (b := .append) (xs := #[.tmp 28, .tmp 31]) rfl ?_); at_builtin; refine Kd.R_append k25 (w0 := w) w.heap.size rfl (.tmp 28) (.tmp 31) 51 25 (.agg #[(.int .i64 0), (.int .i64 0), (.bool false)]) 24 rfl Try.underlying51 info25 rfl (by decide) (by omega) v927 y926 (⟨t932, t933, t934⟩ : S25) [.int .i64 t932, .int .i64 t933, .bool t934] (fun k_ => some k_ ≠ (v930 : Value).ownBlock ∧ k_ ≠ gb916 ∧ k_ ≠ gb922) (fun _ => False) rfl rfl ?aP (fun _ hk => hk.elim) ?aF ?aO ?aB ?aS ?aL ?_; (case aP => exact k25_mkM _ _ _ (⟨t932, t933, t934⟩ : S25)); (case aB => exact (by repeat (first | (with_reducible first | exact HB.out | apply below_alloc | apply pw_below_drewN | apply below_drew1 | refine below_set ?_ (IsS89.ge HI907.out) | refine below_set ?_ GE916.out | refine below_set ?_ GE922.out) | exact HB.out))); (case aF => exact (fun k_ hk => ⟨Kd.fresh' (Kd.R_lt (rP HO931)) k_ hk, Kd.freshB (bP BK916) k_ hk, Kd.freshB (bP BK922) k_ hk⟩)); (case aO => exact (by (with_reducible repeat (first | apply Kd.R_alloc | apply Kd.R_drewN | apply Kd.R_drew)); exact Kd.R_mono HO928.out (fun _ hk => ⟨hk.2, ⟨hk.1.1.2, hk.1.2⟩⟩))); (case aS => exact (below_size (by repeat (first | (with_reducible first | exact HB.out | apply below_alloc | apply pw_below_drewN | apply below_drew1 | refine below_set ?_ (IsS89.ge HI907.out) | refine below_set ?_ GE916.out | refine below_set ?_ GE922.out) | exact HB.out)))); (case aL => have := LMc9.out; omega); intro v938 w32 ho hb hg hat; rw [← Ny937.out] at ho; replace HI907 := Aside0.mk (IsS89.grown (by repeat (first | (with_reducible first | exact HI907.out | apply IsS89.alloc | apply IsS89.drewN | apply IsS89.drew | apply IsS89.set_1 | apply IsS89.set_2 | refine IsS89.far ?_ NB907_916.out _ | refine IsS89.far ?_ NB907_922.out _) | exact HI907.out)) hg (IsS89.own_ne HI907.out HO928.out (by decide))); replace BK916 := Aside0.mk (blk_grown (bP BK916) hg (Kd.R_away HO928.out (fun _ hk => hk.1.1.2))); replace BK922 := Aside0.mk (blk_grown (bP BK922) hg (Kd.R_away HO928.out (fun _ hk => hk.1.2))); replace HO931 := Aside0.mk (Kd.R_after (ok := (fun k_ => k_ ≠ gb916 ∧ k_ ≠ gb922)) (by (with_reducible repeat (first | apply Kd.R_alloc | apply Kd.R_drewN | apply Kd.R_drew)); exact Kd.R_mono HO931.out (fun _ hk => ⟨⟨hk.1.2, hk.2⟩, hk.1.1.2⟩)) hg hat); replace HB := Aside0.mk (hb); have HO939 := Aside0.mk (ho); clear HO928; clear ho hb hg hat) | ((with_reducible refine gate_callee (f := 90) rfl ?_); refine gL (some 35) Try.func90 #[.pointer (some ⟨g907, 0, none⟩)] ?_; (with_reducible refine (spec_l07Any.calls k g907 t904 t935 t936 t940 t941 t942 t943 t944 w _ ?side1 ?side2 A10.out).mono ?_); (case side1 => repeat (first | (with_reducible first | exact HI907.out | apply IsS89.alloc | apply IsS89.drewN | apply IsS89.drew | apply IsS89.set_1 | apply IsS89.set_2 | refine IsS89.far ?_ NB907_916.out _ | refine IsS89.far ?_ NB907_922.out _) | exact HI907.out)); (case side2 => repeat (first | (with_reducible first | exact HB.out | apply below_alloc | apply pw_below_drewN | apply below_drew1 | refine below_set ?_ (IsS89.ge HI907.out) | refine below_set ?_ GE916.out | refine below_set ?_ GE922.out) | exact HB.out)); rintro e w33 ⟨rfl, hi, hb, hk⟩; refine ⟨_, rfl, ?_⟩; replace BK916 := Aside0.mk (KeepBut.blk hk (g' := gb916) (o := .cells #[.int .i64 t911, .int .i64 t912, .bool t913] 25 (0, 0)) (bP BK916) NB916_907.out (by simp)); replace BK922 := Aside0.mk (KeepBut.blk hk (g' := gb922) (o := .cells #[.int .i64 t917, .int .i64 t918, .bool t919] 25 (0, 0)) (bP BK922) NB922_907.out (by simp)); replace HO931 := Aside0.mk (Kd.R_mono (Kd.R_keep (IsS89.apart (show IsS89 w _ g907 t904 t935 t936 from by repeat (first | (with_reducible first | exact HI907.out | apply IsS89.alloc | apply IsS89.drewN | apply IsS89.drew | apply IsS89.set_1 | apply IsS89.set_2 | refine IsS89.far ?_ NB907_916.out _ | refine IsS89.far ?_ NB907_922.out _) | exact HI907.out)) (rP HO931) (by decide)) hk (fun _ h => h.2)) (fun _ h => h.1)); replace HO939 := Aside0.mk (Kd.R_mono (Kd.R_keep (IsS89.apart (show IsS89 w _ g907 t904 t935 t936 from by repeat (first | (with_reducible first | exact HI907.out | apply IsS89.alloc | apply IsS89.drewN | apply IsS89.drew | apply IsS89.set_1 | apply IsS89.set_2 | refine IsS89.far ?_ NB907_916.out _ | refine IsS89.far ?_ NB907_922.out _) | exact HI907.out)) (rP HO939) (by decide)) hk (fun _ h => h.2)) (fun _ h => h.1)); replace HB := Aside0.mk (hb); replace HI907 := Aside0.mk (hi); (try clear hb)) | ((with_reducible refine gate_builtin (b := .append) (xs := #[.tmp 33, .tmp 36]) rfl ?_); at_builtin; refine Kd.R_append k25 (w0 := w) w.heap.size rfl (.tmp 33) (.tmp 36) 51 25 (.agg #[(.int .i64 0), (.int .i64 0), (.bool false)]) 24 rfl Try.underlying51 info25 rfl (by decide) (by omega) v930 y929 (⟨t940, t941, t942⟩ : S25) [.int .i64 t940, .int .i64 t941, .bool t942] (fun k_ => some k_ ≠ (v938 : Value).ownBlock ∧ k_ ≠ gb916 ∧ k_ ≠ gb922) (fun _ => False) rfl rfl ?aP (fun _ hk => hk.elim) ?aF ?aO ?aB ?aS ?aL ?_; (case aP => exact k25_mkM _ _ _ (⟨t940, t941, t942⟩ : S25)); (case aB => exact (by repeat (first | (with_reducible first | exact HB.out | apply below_alloc | apply pw_below_drewN | apply below_drew1 | refine below_set ?_ (IsS89.ge HI907.out) | refine below_set ?_ GE916.out | refine below_set ?_ GE922.out) | exact HB.out))); (case aF => exact (fun k_ hk => ⟨Kd.fresh' (Kd.R_lt (rP HO939)) k_ hk, Kd.freshB (bP BK916) k_ hk, Kd.freshB (bP BK922) k_ hk⟩)); (case aO => exact (by (with_reducible repeat (first | apply Kd.R_alloc | apply Kd.R_drewN | apply Kd.R_drew)); exact Kd.R_mono HO931.out (fun _ hk => ⟨hk.2, ⟨hk.1.1, hk.1.2⟩⟩))); (case aS => exact (below_size (by repeat (first | (with_reducible first | exact HB.out | apply below_alloc | apply pw_below_drewN | apply below_drew1 | refine below_set ?_ (IsS89.ge HI907.out) | refine below_set ?_ GE916.out | refine below_set ?_ GE922.out) | exact HB.out)))); (case aL => have := LMc11.out; omega); intro v946 w34 ho hb hg hat; rw [← Ny945.out] at ho; replace HI907 := Aside0.mk (IsS89.grown (by repeat (first | (with_reducible first | exact HI907.out | apply IsS89.alloc | apply IsS89.drewN | apply IsS89.drew | apply IsS89.set_1 | apply IsS89.set_2 | refine IsS89.far ?_ NB907_916.out _ | refine IsS89.far ?_ NB907_922.out _) | exact HI907.out)) hg (IsS89.own_ne HI907.out HO931.out (by decide))); replace BK916 := Aside0.mk (blk_grown (bP BK916) hg (Kd.R_away HO931.out (fun _ hk => hk.1.1))); replace BK922 := Aside0.mk (blk_grown (bP BK922) hg (Kd.R_away HO931.out (fun _ hk => hk.1.2))); replace HO939 := Aside0.mk (Kd.R_after (ok := (fun k_ => k_ ≠ gb916 ∧ k_ ≠ gb922)) (by (with_reducible repeat (first | apply Kd.R_alloc | apply Kd.R_drewN | apply Kd.R_drew)); exact Kd.R_mono HO939.out (fun _ hk => ⟨⟨hk.2.1, hk.2.2⟩, hk.1⟩)) hg hat); replace HB := Aside0.mk (hb); have HO947 := Aside0.mk (ho); clear HO931; clear ho hb hg hat))
    go_ret2
    exact ⟨_, _, by first | rfl | (simp [errW_none, errW_some] <;> rfl) | (simp [*, errW_none, errW_some] <;> rfl), by (with_reducible repeat (first | apply Kd.R_alloc | apply Kd.R_drewN | apply Kd.R_drew)); exact Kd.R_mono HO939.out (fun _ hk => hk.2), by (with_reducible repeat (first | apply Kd.R_alloc | apply Kd.R_drewN | apply Kd.R_drew)); exact Kd.R_mono HO947.out (fun _ hk => hk.1), by repeat (first | (with_reducible first | exact HB.out | apply below_alloc | apply pw_below_drewN | apply below_drew1 | refine below_set ?_ (IsS89.ge HI907.out) | refine below_set ?_ GE916.out | refine below_set ?_ GE922.out) | exact HB.out)⟩
   ·rw [if_neg c11] at H
    exact absurd H (by simp)
  ·rw [if_neg c9] at H
   exact absurd H (by simp)
 ·rw [if_neg c7] at H
  have c7b0 : (t908 == 0) = false := beq_eq_false_iff_ne.mpr c7
  have c7b1 : (t908 != 0) = true := bne_iff_ne.mpr c7
  by_cases c35 : t908 = 1
  ·rw [if_pos c35] at H
   have c35b0 : (t908 == 1) = true := beq_iff_eq.mpr c35
   have c35b1 : (t908 != 1) = false := bne_eq_false_iff_eq.mpr c35
   clear c35
   by_cases c36 : y926.length < 5864062014805
   ·rw [if_pos c36] at H
    have LMc36 := Aside0.mk c36
    clear c36
    obtain ⟨y948, hy948⟩ : ∃ y_ : List (S25), y_ = (y926 ++ [(⟨t911, t912, t913⟩ : S25)]) := ⟨_, rfl⟩
    replace H : (some (y948, y929)) = some (r1, r2) := by first | (rw [hy948]; with_reducible exact H) | (have H2_ := (Option.bind_some _ _).symm.trans H; rw [hy948]; with_reducible exact H2_) | (have H2_ := (Option.bind_some _ _).symm.trans H; with_reducible exact H2_) | with_reducible exact H | (rw [hy948]; exact H) | exact H
    have Ny948 := Aside0.mk hy948
    clear hy948
    simp only [Option.some.injEq, Prod.mk.injEq] at H
    obtain ⟨rfl, rfl⟩ := H
    go_enter Try.func56, Try.ntmps56
    try go_wp2_with (first | ((with_reducible refine gate_callee (f := 59) rfl ?_); refine gL (some 11) Try.func59 #[.slice A0 l0.length c0] ?_; (with_reducible refine (spec_l01New.calls k _ _ l0 t904 t905 t906 w _ ?side1 ?side2 ?side3 A2.out).mono ?_); (case side1 => repeat (first | (with_reducible first | exact HB.out | apply below_alloc | apply pw_below_drewN | apply below_drew1) | exact HB.out)); (case side2 => exact HR0.out); (case side3 => exact HC0.out); rintro e w37 ⟨g907, rfl, hi, hb, hb2⟩; refine ⟨_, rfl, ?_⟩; replace HB := Aside0.mk (hb); have HI907 := Aside0.mk (hi); (try clear hb)) | ((with_reducible refine gate_callee (f := 62) rfl ?_); refine gL (some 13) Try.func62 #[.pointer (some ⟨g907, 0, none⟩), .int .i64 4] ?_; (with_reducible refine (spec_l01Below.calls g907 t904 t905 t906 4 t908 t909 t910 w _ ?side1 ?side2 A3.out).mono ?_); (case side1 => repeat (first | (with_reducible first | exact HI907.out | apply IsS89.alloc | apply IsS89.drewN | apply IsS89.drew | apply IsS89.set_1 | apply IsS89.set_2) | exact HI907.out)); (case side2 => repeat (first | (with_reducible first | exact HB.out | apply below_alloc | apply pw_below_drewN | apply below_drew1 | refine below_set ?_ (IsS89.ge HI907.out)) | exact HB.out)); rintro e w38 ⟨rfl, hi, hb, hk⟩; refine ⟨_, rfl, ?_⟩; replace HB := Aside0.mk (hb); replace HI907 := Aside0.mk (hi); (try clear hb)) | ((with_reducible refine gate_callee (f := 60) rfl ?_); refine gL (some 15) Try.func60 #[.pointer (some ⟨g907, 0, none⟩)] ?_; (with_reducible refine (spec_l07Group.calls k g907 t904 t909 t910 t911 t912 t913 t914 t915 w _ ?side1 ?side2 A4.out).mono ?_); (case side1 => repeat (first | (with_reducible first | exact HI907.out | apply IsS89.alloc | apply IsS89.drewN | apply IsS89.drew | apply IsS89.set_1 | apply IsS89.set_2) | exact HI907.out)); (case side2 => repeat (first | (with_reducible first | exact HB.out | apply below_alloc | apply pw_below_drewN | apply below_drew1 | refine below_set ?_ (IsS89.ge HI907.out)) | exact HB.out)); rintro e w39 ⟨rfl, hi, hb, hk⟩; refine ⟨_, rfl, ?_⟩; replace HB := Aside0.mk (hb); replace HI907 := Aside0.mk (hi); (try clear hb)) | ((with_reducible refine gate_dst (N := 6) rfl ?_); refine bE 6 #[.int .i64 0, .int .i64 0, .bool false] 25 ?_; intro gb916 hg w40 hbox hb; have BK916 := Aside0.mk (hbox); have GW916 := Aside0.mk ((by rw [hg]; exact (below_size (by repeat (first | (with_reducible first | exact HB.out | apply below_alloc | apply pw_below_drewN | apply below_drew1 | refine below_set ?_ (IsS89.ge HI907.out)) | exact HB.out))) : w.heap.size ≤ gb916)); have GE916 := Aside0.mk ((by rw [hg]; exact (below_size (by repeat (first | (with_reducible first | exact HB.out | apply below_alloc | apply pw_below_drewN | apply below_drew1 | refine below_set ?_ (IsS89.ge HI907.out)) | exact HB.out))) : w.heap.size ≤ gb916)); replace HB := Aside0.mk (below_step (by repeat (first | (with_reducible first | exact HB.out | apply below_alloc | apply pw_below_drewN | apply below_drew1 | refine below_set ?_ (IsS89.ge HI907.out)) | exact HB.out)) hb); have NB907_916 := Aside0.mk ((by rw [hg]; exact Nat.ne_of_lt (IsS89.lt (show IsS89 w _ g907 t904 t914 t915 from by repeat (first | (with_reducible first | exact HI907.out | apply IsS89.alloc | apply IsS89.drewN | apply IsS89.drew | apply IsS89.set_1 | apply IsS89.set_2) | exact HI907.out))) : g907 ≠ gb916)); have NB916_907 := Aside0.mk ((by rw [hg]; exact Nat.ne_of_gt (IsS89.lt (show IsS89 w _ g907 t904 t914 t915 from by repeat (first | (with_reducible first | exact HI907.out | apply IsS89.alloc | apply IsS89.drewN | apply IsS89.drew | apply IsS89.set_1 | apply IsS89.set_2) | exact HI907.out))) : gb916 ≠ g907)); replace HI907 := Aside0.mk (IsS89.below (by repeat (first | (with_reducible first | exact HI907.out | apply IsS89.alloc | apply IsS89.drewN | apply IsS89.drew | apply IsS89.set_1 | apply IsS89.set_2) | exact HI907.out)) hb); clear hb hbox hg; obtain ⟨hnb41, hnc41⟩ := nB NB916_907; obtain ⟨hcz42_0, hcz42_1, hcz42_2, hfz42_0, hfz42_1, hfz42_2⟩ := bK3 (w := w40) BK916) | ((with_reducible refine gate_callee (f := 60) rfl ?_); refine gL (some 17) Try.func60 #[.pointer (some ⟨g907, 0, none⟩)] ?_; (with_reducible refine (spec_l07Group.calls k g907 t904 t914 t915 t917 t918 t919 t920 t921 w _ ?side1 ?side2 A5.out).mono ?_); (case side1 => repeat (first | (with_reducible first | exact HI907.out | apply IsS89.alloc | apply IsS89.drewN | apply IsS89.drew | apply IsS89.set_1 | apply IsS89.set_2 | refine IsS89.far ?_ NB907_916.out _) | exact HI907.out)); (case side2 => repeat (first | (with_reducible first | exact HB.out | apply below_alloc | apply pw_below_drewN | apply below_drew1 | refine below_set ?_ (IsS89.ge HI907.out) | refine below_set ?_ GE916.out) | exact HB.out)); rintro e w43 ⟨rfl, hi, hb, hk⟩; refine ⟨_, rfl, ?_⟩; replace BK916 := Aside0.mk (KeepBut.blk hk (g' := gb916) (o := .cells #[.int .i64 t911, .int .i64 t912, .bool t913] 25 (0, 0)) (bU BK916) NB916_907.out (by simp)); replace HB := Aside0.mk (hb); replace HI907 := Aside0.mk (hi); (try clear hb)) | ((with_reducible refine gate_dst (N := 7) rfl ?_); refine bE 7 #[.int .i64 0, .int .i64 0, .bool false] 25 ?_; intro gb922 hg w44 hbox hb; have BK922 := Aside0.mk (hbox); have GW922 := Aside0.mk ((by rw [hg]; exact (below_size (by repeat (first | (with_reducible first | exact HB.out | apply below_alloc | apply pw_below_drewN | apply below_drew1 | refine below_set ?_ (IsS89.ge HI907.out) | refine below_set ?_ GE916.out) | exact HB.out))) : w.heap.size ≤ gb922)); have GE922 := Aside0.mk ((by rw [hg]; exact (below_size (by repeat (first | (with_reducible first | exact HB.out | apply below_alloc | apply pw_below_drewN | apply below_drew1 | refine below_set ?_ (IsS89.ge HI907.out) | refine below_set ?_ GE916.out) | exact HB.out))) : w.heap.size ≤ gb922)); replace HB := Aside0.mk (below_step (by repeat (first | (with_reducible first | exact HB.out | apply below_alloc | apply pw_below_drewN | apply below_drew1 | refine below_set ?_ (IsS89.ge HI907.out) | refine below_set ?_ GE916.out) | exact HB.out)) hb); have NB916_922 := bL BK916 hg; have NB922_916 := bR BK916 hg; replace BK916 := bB BK916 hb; have NB907_922 := Aside0.mk ((by rw [hg]; exact Nat.ne_of_lt (IsS89.lt (show IsS89 w _ g907 t904 t920 t921 from by repeat (first | (with_reducible first | exact HI907.out | apply IsS89.alloc | apply IsS89.drewN | apply IsS89.drew | apply IsS89.set_1 | apply IsS89.set_2 | refine IsS89.far ?_ NB907_916.out _) | exact HI907.out))) : g907 ≠ gb922)); have NB922_907 := Aside0.mk ((by rw [hg]; exact Nat.ne_of_gt (IsS89.lt (show IsS89 w _ g907 t904 t920 t921 from by repeat (first | (with_reducible first | exact HI907.out | apply IsS89.alloc | apply IsS89.drewN | apply IsS89.drew | apply IsS89.set_1 | apply IsS89.set_2 | refine IsS89.far ?_ NB907_916.out _) | exact HI907.out))) : gb922 ≠ g907)); replace HI907 := Aside0.mk (IsS89.below (by repeat (first | (with_reducible first | exact HI907.out | apply IsS89.alloc | apply IsS89.drewN | apply IsS89.drew | apply IsS89.set_1 | apply IsS89.set_2 | refine IsS89.far ?_ NB907_916.out _) | exact HI907.out)) hb); clear hb hbox hg; obtain ⟨hnb45, hnc45⟩ := nB NB922_916; obtain ⟨hnb46, hnc46⟩ := nB NB922_907; obtain ⟨hcz47_0, hcz47_1, hcz47_2, hfz47_0, hfz47_1, hfz47_2⟩ := bK3 (w := w44) BK922))
    obtain ⟨w48, hW_⟩ : ∃ W_ : World, W_ = (((w44.setCell ⟨gb922, 0, none⟩ (.int .i64 t917)).setCell ⟨gb922, 1, none⟩ (.int .i64 t918)).setCell ⟨gb922, 2, none⟩ (.bool t919)) := ⟨_, rfl⟩
    replace BK916 := bW hW_ BK916
    replace BK922 := bX hW_ 25 #[.int .i64 t917, .int .i64 t918, .bool t919] BK922
    have n2_ : Aside0 (IsS89 w (((w44.setCell ⟨gb922, 0, none⟩ (.int .i64 t917)).setCell ⟨gb922, 1, none⟩ (.int .i64 t918)).setCell ⟨gb922, 2, none⟩ (.bool t919)) g907 t904 t920 t921) := ⟨by repeat (first | (with_reducible first | exact HI907.out | apply IsS89.alloc | apply IsS89.drewN | apply IsS89.drew | apply IsS89.set_1 | apply IsS89.set_2 | refine IsS89.far ?_ NB907_916.out _ | refine IsS89.far ?_ NB907_922.out _) | exact HI907.out)⟩
    rw [← hW_] at n2_
    have n3_ : Aside0 (Below w.heap.size w (((w44.setCell ⟨gb922, 0, none⟩ (.int .i64 t917)).setCell ⟨gb922, 1, none⟩ (.int .i64 t918)).setCell ⟨gb922, 2, none⟩ (.bool t919))) := ⟨by repeat (first | (with_reducible first | exact HB.out | apply below_alloc | apply pw_below_drewN | apply below_drew1 | refine below_set ?_ (IsS89.ge HI907.out) | refine below_set ?_ GE916.out | refine below_set ?_ GE922.out) | exact HB.out)⟩
    rw [← hW_] at n3_
    (try clear HI907)
    (try clear HB)
    have HI907 := n2_
    clear n2_
    have HB := n3_
    clear n3_
    rw [← hW_]
    clear hW_
    replace BK916 := Aside0.mk (blk_drew BK916.out)
    replace BK922 := Aside0.mk (blk_drew BK922.out)
    replace HI907 := Aside0.mk (IsS89.drew HI907.out)
    replace HB := Aside0.mk (below_drew1 HB.out)
    refine start_ (n := 5) (S := fun w' => SQ3 w' gb916 (.int .i64 t911) (.int .i64 t912) (.bool t913)) (ds := []) #[false, false, false, false, false] (by kernel_rfl) rfl rfl (bT3 BK916) (fun hHeld => ?_)
    generalize w48.drew = w49 at BK916 BK922 HI907 HB hHeld ⊢
    refine take_ (i := 0) (N := some 18) (v := ?_) (a' := ?_) #[true, false, false, false, false] rfl rfl (by kernel_rfl) (fun _ _ _ h => h) (Or.inl ⟨by rfl, ?_⟩) hHeld ?_ ?_
    rotate_left
    ·rintro w' ⟨s0, s1, s2⟩
     go_simp
     with_reducible rfl
    rotate_left
    ·simp only [Act.put, List.setIfInBounds_toArray, List.set_cons_zero, List.set_cons_succ, i64_w, i32_w]
     rfl
    refine take_ (i := 1) (N := some 19) (v := ?_) (a' := ?_) #[true, true, false, false, false] rfl rfl (by kernel_rfl) (fun _ _ _ h => h) (Or.inl ⟨by rfl, ?_⟩) hHeld ?_ ?_
    rotate_left
    ·rintro w' ⟨s0, s1, s2⟩
     go_simp
     with_reducible rfl
    rotate_left
    ·simp only [Act.put, List.setIfInBounds_toArray, List.set_cons_zero, List.set_cons_succ, i64_w, i32_w]
     rfl
    refine one_ (i := 2) (N := some 20) #[true, true, true, false, false] rfl rfl (by kernel_rfl) (by decide) (fun K hK => ?_)
    refine gO Try.func79 #[.agg #[.int .i64 t911, .int .i64 t912, .bool t913]] ?_
    with_reducible refine (spec_PointNeg.calls t911 t912 t913 t923 t924 t925 _ A6.out).mono ?_
    rintro e w50 ⟨rfl, hb⟩
    refine ⟨_, rfl, ?_⟩
    replace BK916 := bB BK916 hb
    replace BK922 := bB BK922 hb
    replace HB := Aside0.mk (below_step (by repeat (first | (with_reducible first | exact HB.out | apply below_alloc | apply pw_below_drewN | apply below_drew1 | refine below_set ?_ (IsS89.ge HI907.out) | refine below_set ?_ GE916.out | refine below_set ?_ GE922.out) | exact HB.out)) hb)
    replace HI907 := Aside0.mk (IsS89.below (by repeat (first | (with_reducible first | exact HI907.out | apply IsS89.alloc | apply IsS89.drewN | apply IsS89.drew | apply IsS89.set_1 | apply IsS89.set_2 | refine IsS89.far ?_ NB907_916.out _ | refine IsS89.far ?_ NB907_922.out _) | exact HI907.out)) hb)
    (try clear hb)
    refine hK.out _ _ (bT3 BK916) (fun hHeld => ?_)
    clear hK K
    refine nO (some 20) ?_
    refine one_ (i := 3) (N := some 21) #[true, true, true, true, false] rfl rfl (by kernel_rfl) (by decide) (fun K hK => ?_)
    refine Kd.R_lit_step k25 _ 25 ?hg (N := 21) ?hd (xs := ([(⟨t911, t912, t913⟩ : S25), (⟨t923, t924, t925⟩ : S25)] : List (S25))) (inner := [.int .i64 t911, .int .i64 t912, .bool t913, .int .i64 t923, .int .i64 t924, .bool t925]) (ok := fun _ => True) (okp := fun _ => True) ?hr ?hp (fun _ hk => hk) trivial (Below.refl _ _) (Nat.le_refl _) (by simp) ?_; (case hd => rfl); (case hg => rfl); (case hr => first | (go_simp; done) | (go_simp; rfl)); (case hp => exact (Reps.c3 (show Kd.M k25 _ _ _ (⟨t911, t912, t913⟩ : S25) [.int .i64 t911, .int .i64 t912, .bool t913] from (k25_mkM _ _ _ (⟨t911, t912, t913⟩ : S25) )) (Reps.c3 (show Kd.M k25 _ _ _ (⟨t923, t924, t925⟩ : S25) [.int .i64 t923, .int .i64 t924, .bool t925] from (k25_mkM _ _ _ (⟨t923, t924, t925⟩ : S25) )) (Reps.none _ _))))
    intro v927 w51 ho52 hb hg_ hnew_
    clear hg_ hnew_
    (first | rw [← Ny926.out] at ho52 | (simp only [Int.reduceToNat] at ho52; rw [← Ny926.out] at ho52))
    have HO928 := Aside0.mk (Kd.R_lower (Kd.R_newB (Kd.R_newB ho52 (bP BK916)) (bP BK922)) (below_size (by repeat (first | (with_reducible first | exact HB.out | apply below_alloc | apply pw_below_drewN | apply below_drew1 | refine below_set ?_ (IsS89.ge HI907.out) | refine below_set ?_ GE916.out | refine below_set ?_ GE922.out) | exact HB.out))))
    replace BK916 := bB BK916 hb
    replace BK922 := bB BK922 hb
    replace HB := Aside0.mk (below_step (by repeat (first | (with_reducible first | exact HB.out | apply below_alloc | apply pw_below_drewN | apply below_drew1 | refine below_set ?_ (IsS89.ge HI907.out) | refine below_set ?_ GE916.out | refine below_set ?_ GE922.out) | exact HB.out)) hb)
    replace HI907 := Aside0.mk (IsS89.below (by repeat (first | (with_reducible first | exact HI907.out | apply IsS89.alloc | apply IsS89.drewN | apply IsS89.drew | apply IsS89.set_1 | apply IsS89.set_2 | refine IsS89.far ?_ NB907_916.out _ | refine IsS89.far ?_ NB907_922.out _) | exact HI907.out)) hb)
    clear hb ho52
    refine hK.out _ _ (bT3 BK916) (fun hHeld => ?_)
    clear hK K
    refine nO (some 21) ?_
    refine pure_ (i := 4) (N := some 8) (v := ?_) (a' := ?_) #[true, true, true, true, true] rfl rfl (by kernel_rfl) (fun _ _ _ h => h) (Or.inl ⟨by rfl, ?_⟩) ?_ ?_
    rotate_left
    ·intro w'
     go_simp
     with_reducible rfl
    rotate_left
    ·simp only [Act.put, List.setIfInBounds_toArray, List.set_cons_zero, List.set_cons_succ, i64_w, i32_w]
     rfl
    refine done_ (by kernel_rfl) ?_
    obtain ⟨hcz53_0, hcz53_1, hcz53_2, hfz53_0, hfz53_1, hfz53_2⟩ := bK3 (w := w51) BK922
    try go_wp2_with (first | ((with_reducible refine gate_dst (N := 24) rfl ?_); refine Kd.R_lit k25 _ 25 ?hg (N := 24) ?hd (xs := ([(⟨t917, t918, t919⟩ : S25), (⟨t917, t918, t919⟩ : S25)] : List (S25))) (inner := [.int .i64 t917, .int .i64 t918, .bool t919, .int .i64 t917, .int .i64 t918, .bool t919]) (ok := fun _ => True) (okp := fun _ => True) ?hr ?hp (fun _ hk => hk) trivial (Below.refl _ _) (Nat.le_refl _) (by simp) ?_; (case hd => rfl); (case hg => rfl); (case hr => first | (go_simp; done) | (go_simp; rfl)); (case hp => exact (Reps.c3 (show Kd.M k25 _ _ _ (⟨t917, t918, t919⟩ : S25) [.int .i64 t917, .int .i64 t918, .bool t919] from (k25_mkM _ _ _ (⟨t917, t918, t919⟩ : S25) )) (Reps.c3 (show Kd.M k25 _ _ _ (⟨t917, t918, t919⟩ : S25) [.int .i64 t917, .int .i64 t918, .bool t919] from (k25_mkM _ _ _ (⟨t917, t918, t919⟩ : S25) )) (Reps.none _ _)))); intro v930 w54 ho55 hb hg_ hnew_; clear hg_ hnew_; (first | rw [← Ny929.out] at ho55 | (simp only [Int.reduceToNat] at ho55; rw [← Ny929.out] at ho55)); have HO931 := Aside0.mk (Kd.R_lower (Kd.R_newB (Kd.R_newB (Kd.R_new' ho55 (Kd.R_lt (rP HO928))) (bP BK916)) (bP BK922)) (below_size (by repeat (first | (with_reducible first | exact HB.out | apply below_alloc | apply pw_below_drewN | apply below_drew1 | refine below_set ?_ (IsS89.ge HI907.out) | refine below_set ?_ GE916.out | refine below_set ?_ GE922.out) | exact HB.out)))); replace HO928 := Aside0.mk (Kd.R_elder' (rP HO928) (Kd.R_base ho55) hb); replace BK916 := bB BK916 hb; replace BK922 := bB BK922 hb; replace HB := Aside0.mk (below_step (by repeat (first | (with_reducible first | exact HB.out | apply below_alloc | apply pw_below_drewN | apply below_drew1 | refine below_set ?_ (IsS89.ge HI907.out) | refine below_set ?_ GE916.out | refine below_set ?_ GE922.out) | exact HB.out)) hb); replace HI907 := Aside0.mk (IsS89.below (by repeat (first | (with_reducible first | exact HI907.out | apply IsS89.alloc | apply IsS89.drewN | apply IsS89.drew | apply IsS89.set_1 | apply IsS89.set_2 | refine IsS89.far ?_ NB907_916.out _ | refine IsS89.far ?_ NB907_922.out _) | exact HI907.out)) hb); clear hb ho55; obtain ⟨hcz56_0, hcz56_1, hcz56_2, hfz56_0, hfz56_1, hfz56_2⟩ := bK3 (w := w54) BK916) | ((with_reducible refine gate_builtin (b := .append) (xs := #[.tmp 40, .tmp 42]) rfl ?_); at_builtin; refine Kd.R_append k25 (w0 := w) w.heap.size rfl (.tmp 40) (.tmp 42) 51 25 (.agg #[(.int .i64 0), (.int .i64 0), (.bool false)]) 24 rfl Try.underlying51 info25 rfl (by decide) (by omega) v927 y926 (⟨t911, t912, t913⟩ : S25) [.int .i64 t911, .int .i64 t912, .bool t913] (fun k_ => some k_ ≠ (v930 : Value).ownBlock ∧ k_ ≠ gb916 ∧ k_ ≠ gb922) (fun _ => False) rfl rfl ?aP (fun _ hk => hk.elim) ?aF ?aO ?aB ?aS ?aL ?_; (case aP => exact k25_mkM _ _ _ (⟨t911, t912, t913⟩ : S25)); (case aB => exact (by repeat (first | (with_reducible first | exact HB.out | apply below_alloc | apply pw_below_drewN | apply below_drew1 | refine below_set ?_ (IsS89.ge HI907.out) | refine below_set ?_ GE916.out | refine below_set ?_ GE922.out) | exact HB.out))); (case aF => exact (fun k_ hk => ⟨Kd.fresh' (Kd.R_lt (rP HO931)) k_ hk, Kd.freshB (bP BK916) k_ hk, Kd.freshB (bP BK922) k_ hk⟩)); (case aO => exact (by (with_reducible repeat (first | apply Kd.R_alloc | apply Kd.R_drewN | apply Kd.R_drew)); exact Kd.R_mono HO928.out (fun _ hk => ⟨hk.2, ⟨hk.1.1.2, hk.1.2⟩⟩))); (case aS => exact (below_size (by repeat (first | (with_reducible first | exact HB.out | apply below_alloc | apply pw_below_drewN | apply below_drew1 | refine below_set ?_ (IsS89.ge HI907.out) | refine below_set ?_ GE916.out | refine below_set ?_ GE922.out) | exact HB.out)))); (case aL => have := LMc36.out; omega); intro v949 w57 ho hb hg hat; rw [← Ny948.out] at ho; replace HI907 := Aside0.mk (IsS89.grown (by repeat (first | (with_reducible first | exact HI907.out | apply IsS89.alloc | apply IsS89.drewN | apply IsS89.drew | apply IsS89.set_1 | apply IsS89.set_2 | refine IsS89.far ?_ NB907_916.out _ | refine IsS89.far ?_ NB907_922.out _) | exact HI907.out)) hg (IsS89.own_ne HI907.out HO928.out (by decide))); replace BK916 := Aside0.mk (blk_grown (bP BK916) hg (Kd.R_away HO928.out (fun _ hk => hk.1.1.2))); replace BK922 := Aside0.mk (blk_grown (bP BK922) hg (Kd.R_away HO928.out (fun _ hk => hk.1.2))); replace HO931 := Aside0.mk (Kd.R_after (ok := (fun k_ => k_ ≠ gb916 ∧ k_ ≠ gb922)) (by (with_reducible repeat (first | apply Kd.R_alloc | apply Kd.R_drewN | apply Kd.R_drew)); exact Kd.R_mono HO931.out (fun _ hk => ⟨⟨hk.1.2, hk.2⟩, hk.1.1.2⟩)) hg hat); replace HB := Aside0.mk (hb); have HO950 := Aside0.mk (ho); clear HO928; clear ho hb hg hat))
    go_ret2
    exact ⟨_, _, by first | rfl | (simp [errW_none, errW_some] <;> rfl) | (simp [*, errW_none, errW_some] <;> rfl), by (with_reducible repeat (first | apply Kd.R_alloc | apply Kd.R_drewN | apply Kd.R_drew)); exact Kd.R_mono HO950.out (fun _ hk => hk.1), by (with_reducible repeat (first | apply Kd.R_alloc | apply Kd.R_drewN | apply Kd.R_drew)); exact Kd.R_mono HO931.out (fun _ hk => hk.2), by repeat (first | (with_reducible first | exact HB.out | apply below_alloc | apply pw_below_drewN | apply below_drew1 | refine below_set ?_ (IsS89.ge HI907.out) | refine below_set ?_ GE916.out | refine below_set ?_ GE922.out) | exact HB.out)⟩
   ·rw [if_neg c36] at H
    exact absurd H (by simp)
  ·rw [if_neg c35] at H
   have c35b0 : (t908 == 1) = false := beq_eq_false_iff_ne.mpr c35
   have c35b1 : (t908 != 1) = true := bne_iff_ne.mpr c35
   simp only [Option.some.injEq, Prod.mk.injEq] at H
   obtain ⟨rfl, rfl⟩ := H
   go_enter Try.func56, Try.ntmps56
   try go_wp2_with (first | ((with_reducible refine gate_callee (f := 59) rfl ?_); refine gL (some 11) Try.func59 #[.slice A0 l0.length c0] ?_; (with_reducible refine (spec_l01New.calls k _ _ l0 t904 t905 t906 w _ ?side1 ?side2 ?side3 A2.out).mono ?_); (case side1 => repeat (first | (with_reducible first | exact HB.out | apply below_alloc | apply pw_below_drewN | apply below_drew1) | exact HB.out)); (case side2 => exact HR0.out); (case side3 => exact HC0.out); rintro e w58 ⟨g907, rfl, hi, hb, hb2⟩; refine ⟨_, rfl, ?_⟩; replace HB := Aside0.mk (hb); have HI907 := Aside0.mk (hi); (try clear hb)) | ((with_reducible refine gate_callee (f := 62) rfl ?_); refine gL (some 13) Try.func62 #[.pointer (some ⟨g907, 0, none⟩), .int .i64 4] ?_; (with_reducible refine (spec_l01Below.calls g907 t904 t905 t906 4 t908 t909 t910 w _ ?side1 ?side2 A3.out).mono ?_); (case side1 => repeat (first | (with_reducible first | exact HI907.out | apply IsS89.alloc | apply IsS89.drewN | apply IsS89.drew | apply IsS89.set_1 | apply IsS89.set_2) | exact HI907.out)); (case side2 => repeat (first | (with_reducible first | exact HB.out | apply below_alloc | apply pw_below_drewN | apply below_drew1 | refine below_set ?_ (IsS89.ge HI907.out)) | exact HB.out)); rintro e w59 ⟨rfl, hi, hb, hk⟩; refine ⟨_, rfl, ?_⟩; replace HB := Aside0.mk (hb); replace HI907 := Aside0.mk (hi); (try clear hb)) | ((with_reducible refine gate_callee (f := 60) rfl ?_); refine gL (some 15) Try.func60 #[.pointer (some ⟨g907, 0, none⟩)] ?_; (with_reducible refine (spec_l07Group.calls k g907 t904 t909 t910 t911 t912 t913 t914 t915 w _ ?side1 ?side2 A4.out).mono ?_); (case side1 => repeat (first | (with_reducible first | exact HI907.out | apply IsS89.alloc | apply IsS89.drewN | apply IsS89.drew | apply IsS89.set_1 | apply IsS89.set_2) | exact HI907.out)); (case side2 => repeat (first | (with_reducible first | exact HB.out | apply below_alloc | apply pw_below_drewN | apply below_drew1 | refine below_set ?_ (IsS89.ge HI907.out)) | exact HB.out)); rintro e w60 ⟨rfl, hi, hb, hk⟩; refine ⟨_, rfl, ?_⟩; replace HB := Aside0.mk (hb); replace HI907 := Aside0.mk (hi); (try clear hb)) | ((with_reducible refine gate_dst (N := 6) rfl ?_); refine bE 6 #[.int .i64 0, .int .i64 0, .bool false] 25 ?_; intro gb916 hg w61 hbox hb; have BK916 := Aside0.mk (hbox); have GW916 := Aside0.mk ((by rw [hg]; exact (below_size (by repeat (first | (with_reducible first | exact HB.out | apply below_alloc | apply pw_below_drewN | apply below_drew1 | refine below_set ?_ (IsS89.ge HI907.out)) | exact HB.out))) : w.heap.size ≤ gb916)); have GE916 := Aside0.mk ((by rw [hg]; exact (below_size (by repeat (first | (with_reducible first | exact HB.out | apply below_alloc | apply pw_below_drewN | apply below_drew1 | refine below_set ?_ (IsS89.ge HI907.out)) | exact HB.out))) : w.heap.size ≤ gb916)); replace HB := Aside0.mk (below_step (by repeat (first | (with_reducible first | exact HB.out | apply below_alloc | apply pw_below_drewN | apply below_drew1 | refine below_set ?_ (IsS89.ge HI907.out)) | exact HB.out)) hb); have NB907_916 := Aside0.mk ((by rw [hg]; exact Nat.ne_of_lt (IsS89.lt (show IsS89 w _ g907 t904 t914 t915 from by repeat (first | (with_reducible first | exact HI907.out | apply IsS89.alloc | apply IsS89.drewN | apply IsS89.drew | apply IsS89.set_1 | apply IsS89.set_2) | exact HI907.out))) : g907 ≠ gb916)); have NB916_907 := Aside0.mk ((by rw [hg]; exact Nat.ne_of_gt (IsS89.lt (show IsS89 w _ g907 t904 t914 t915 from by repeat (first | (with_reducible first | exact HI907.out | apply IsS89.alloc | apply IsS89.drewN | apply IsS89.drew | apply IsS89.set_1 | apply IsS89.set_2) | exact HI907.out))) : gb916 ≠ g907)); replace HI907 := Aside0.mk (IsS89.below (by repeat (first | (with_reducible first | exact HI907.out | apply IsS89.alloc | apply IsS89.drewN | apply IsS89.drew | apply IsS89.set_1 | apply IsS89.set_2) | exact HI907.out)) hb); clear hb hbox hg; obtain ⟨hnb62, hnc62⟩ := nB NB916_907; obtain ⟨hcz63_0, hcz63_1, hcz63_2, hfz63_0, hfz63_1, hfz63_2⟩ := bK3 (w := w61) BK916) | ((with_reducible refine gate_callee (f := 60) rfl ?_); refine gL (some 17) Try.func60 #[.pointer (some ⟨g907, 0, none⟩)] ?_; (with_reducible refine (spec_l07Group.calls k g907 t904 t914 t915 t917 t918 t919 t920 t921 w _ ?side1 ?side2 A5.out).mono ?_); (case side1 => repeat (first | (with_reducible first | exact HI907.out | apply IsS89.alloc | apply IsS89.drewN | apply IsS89.drew | apply IsS89.set_1 | apply IsS89.set_2 | refine IsS89.far ?_ NB907_916.out _) | exact HI907.out)); (case side2 => repeat (first | (with_reducible first | exact HB.out | apply below_alloc | apply pw_below_drewN | apply below_drew1 | refine below_set ?_ (IsS89.ge HI907.out) | refine below_set ?_ GE916.out) | exact HB.out)); rintro e w64 ⟨rfl, hi, hb, hk⟩; refine ⟨_, rfl, ?_⟩; replace BK916 := Aside0.mk (KeepBut.blk hk (g' := gb916) (o := .cells #[.int .i64 t911, .int .i64 t912, .bool t913] 25 (0, 0)) (bU BK916) NB916_907.out (by simp)); replace HB := Aside0.mk (hb); replace HI907 := Aside0.mk (hi); (try clear hb)) | ((with_reducible refine gate_dst (N := 7) rfl ?_); refine bE 7 #[.int .i64 0, .int .i64 0, .bool false] 25 ?_; intro gb922 hg w65 hbox hb; have BK922 := Aside0.mk (hbox); have GW922 := Aside0.mk ((by rw [hg]; exact (below_size (by repeat (first | (with_reducible first | exact HB.out | apply below_alloc | apply pw_below_drewN | apply below_drew1 | refine below_set ?_ (IsS89.ge HI907.out) | refine below_set ?_ GE916.out) | exact HB.out))) : w.heap.size ≤ gb922)); have GE922 := Aside0.mk ((by rw [hg]; exact (below_size (by repeat (first | (with_reducible first | exact HB.out | apply below_alloc | apply pw_below_drewN | apply below_drew1 | refine below_set ?_ (IsS89.ge HI907.out) | refine below_set ?_ GE916.out) | exact HB.out))) : w.heap.size ≤ gb922)); replace HB := Aside0.mk (below_step (by repeat (first | (with_reducible first | exact HB.out | apply below_alloc | apply pw_below_drewN | apply below_drew1 | refine below_set ?_ (IsS89.ge HI907.out) | refine below_set ?_ GE916.out) | exact HB.out)) hb); have NB916_922 := bL BK916 hg; have NB922_916 := bR BK916 hg; replace BK916 := bB BK916 hb; have NB907_922 := Aside0.mk ((by rw [hg]; exact Nat.ne_of_lt (IsS89.lt (show IsS89 w _ g907 t904 t920 t921 from by repeat (first | (with_reducible first | exact HI907.out | apply IsS89.alloc | apply IsS89.drewN | apply IsS89.drew | apply IsS89.set_1 | apply IsS89.set_2 | refine IsS89.far ?_ NB907_916.out _) | exact HI907.out))) : g907 ≠ gb922)); have NB922_907 := Aside0.mk ((by rw [hg]; exact Nat.ne_of_gt (IsS89.lt (show IsS89 w _ g907 t904 t920 t921 from by repeat (first | (with_reducible first | exact HI907.out | apply IsS89.alloc | apply IsS89.drewN | apply IsS89.drew | apply IsS89.set_1 | apply IsS89.set_2 | refine IsS89.far ?_ NB907_916.out _) | exact HI907.out))) : gb922 ≠ g907)); replace HI907 := Aside0.mk (IsS89.below (by repeat (first | (with_reducible first | exact HI907.out | apply IsS89.alloc | apply IsS89.drewN | apply IsS89.drew | apply IsS89.set_1 | apply IsS89.set_2 | refine IsS89.far ?_ NB907_916.out _) | exact HI907.out)) hb); clear hb hbox hg; obtain ⟨hnb66, hnc66⟩ := nB NB922_916; obtain ⟨hnb67, hnc67⟩ := nB NB922_907; obtain ⟨hcz68_0, hcz68_1, hcz68_2, hfz68_0, hfz68_1, hfz68_2⟩ := bK3 (w := w65) BK922))
   obtain ⟨w69, hW_⟩ : ∃ W_ : World, W_ = (((w65.setCell ⟨gb922, 0, none⟩ (.int .i64 t917)).setCell ⟨gb922, 1, none⟩ (.int .i64 t918)).setCell ⟨gb922, 2, none⟩ (.bool t919)) := ⟨_, rfl⟩
   replace BK916 := bW hW_ BK916
   replace BK922 := bX hW_ 25 #[.int .i64 t917, .int .i64 t918, .bool t919] BK922
   have n2_ : Aside0 (IsS89 w (((w65.setCell ⟨gb922, 0, none⟩ (.int .i64 t917)).setCell ⟨gb922, 1, none⟩ (.int .i64 t918)).setCell ⟨gb922, 2, none⟩ (.bool t919)) g907 t904 t920 t921) := ⟨by repeat (first | (with_reducible first | exact HI907.out | apply IsS89.alloc | apply IsS89.drewN | apply IsS89.drew | apply IsS89.set_1 | apply IsS89.set_2 | refine IsS89.far ?_ NB907_916.out _ | refine IsS89.far ?_ NB907_922.out _) | exact HI907.out)⟩
   rw [← hW_] at n2_
   have n3_ : Aside0 (Below w.heap.size w (((w65.setCell ⟨gb922, 0, none⟩ (.int .i64 t917)).setCell ⟨gb922, 1, none⟩ (.int .i64 t918)).setCell ⟨gb922, 2, none⟩ (.bool t919))) := ⟨by repeat (first | (with_reducible first | exact HB.out | apply below_alloc | apply pw_below_drewN | apply below_drew1 | refine below_set ?_ (IsS89.ge HI907.out) | refine below_set ?_ GE916.out | refine below_set ?_ GE922.out) | exact HB.out)⟩
   rw [← hW_] at n3_
   (try clear HI907)
   (try clear HB)
   have HI907 := n2_
   clear n2_
   have HB := n3_
   clear n3_
   rw [← hW_]
   clear hW_
   replace BK916 := Aside0.mk (blk_drew BK916.out)
   replace BK922 := Aside0.mk (blk_drew BK922.out)
   replace HI907 := Aside0.mk (IsS89.drew HI907.out)
   replace HB := Aside0.mk (below_drew1 HB.out)
   refine start_ (n := 5) (S := fun w' => SQ3 w' gb916 (.int .i64 t911) (.int .i64 t912) (.bool t913)) (ds := []) #[false, false, false, false, false] (by kernel_rfl) rfl rfl (bT3 BK916) (fun hHeld => ?_)
   generalize w69.drew = w70 at BK916 BK922 HI907 HB hHeld ⊢
   refine take_ (i := 0) (N := some 18) (v := ?_) (a' := ?_) #[true, false, false, false, false] rfl rfl (by kernel_rfl) (fun _ _ _ h => h) (Or.inl ⟨by rfl, ?_⟩) hHeld ?_ ?_
   rotate_left
   ·rintro w' ⟨s0, s1, s2⟩
    go_simp
    with_reducible rfl
   rotate_left
   ·simp only [Act.put, List.setIfInBounds_toArray, List.set_cons_zero, List.set_cons_succ, i64_w, i32_w]
    rfl
   refine take_ (i := 1) (N := some 19) (v := ?_) (a' := ?_) #[true, true, false, false, false] rfl rfl (by kernel_rfl) (fun _ _ _ h => h) (Or.inl ⟨by rfl, ?_⟩) hHeld ?_ ?_
   rotate_left
   ·rintro w' ⟨s0, s1, s2⟩
    go_simp
    with_reducible rfl
   rotate_left
   ·simp only [Act.put, List.setIfInBounds_toArray, List.set_cons_zero, List.set_cons_succ, i64_w, i32_w]
    rfl
   refine one_ (i := 2) (N := some 20) #[true, true, true, false, false] rfl rfl (by kernel_rfl) (by decide) (fun K hK => ?_)
   refine gO Try.func79 #[.agg #[.int .i64 t911, .int .i64 t912, .bool t913]] ?_
   with_reducible refine (spec_PointNeg.calls t911 t912 t913 t923 t924 t925 _ A6.out).mono ?_
   rintro e w71 ⟨rfl, hb⟩
   refine ⟨_, rfl, ?_⟩
   replace BK916 := bB BK916 hb
   replace BK922 := bB BK922 hb
   replace HB := Aside0.mk (below_step (by repeat (first | (with_reducible first | exact HB.out | apply below_alloc | apply pw_below_drewN | apply below_drew1 | refine below_set ?_ (IsS89.ge HI907.out) | refine below_set ?_ GE916.out | refine below_set ?_ GE922.out) | exact HB.out)) hb)
   replace HI907 := Aside0.mk (IsS89.below (by repeat (first | (with_reducible first | exact HI907.out | apply IsS89.alloc | apply IsS89.drewN | apply IsS89.drew | apply IsS89.set_1 | apply IsS89.set_2 | refine IsS89.far ?_ NB907_916.out _ | refine IsS89.far ?_ NB907_922.out _) | exact HI907.out)) hb)
   (try clear hb)
   refine hK.out _ _ (bT3 BK916) (fun hHeld => ?_)
   clear hK K
   refine nO (some 20) ?_
   refine one_ (i := 3) (N := some 21) #[true, true, true, true, false] rfl rfl (by kernel_rfl) (by decide) (fun K hK => ?_)
   refine Kd.R_lit_step k25 _ 25 ?hg (N := 21) ?hd (xs := ([(⟨t911, t912, t913⟩ : S25), (⟨t923, t924, t925⟩ : S25)] : List (S25))) (inner := [.int .i64 t911, .int .i64 t912, .bool t913, .int .i64 t923, .int .i64 t924, .bool t925]) (ok := fun _ => True) (okp := fun _ => True) ?hr ?hp (fun _ hk => hk) trivial (Below.refl _ _) (Nat.le_refl _) (by simp) ?_; (case hd => rfl); (case hg => rfl); (case hr => first | (go_simp; done) | (go_simp; rfl)); (case hp => exact (Reps.c3 (show Kd.M k25 _ _ _ (⟨t911, t912, t913⟩ : S25) [.int .i64 t911, .int .i64 t912, .bool t913] from (k25_mkM _ _ _ (⟨t911, t912, t913⟩ : S25) )) (Reps.c3 (show Kd.M k25 _ _ _ (⟨t923, t924, t925⟩ : S25) [.int .i64 t923, .int .i64 t924, .bool t925] from (k25_mkM _ _ _ (⟨t923, t924, t925⟩ : S25) )) (Reps.none _ _))))
   intro v927 w72 ho73 hb hg_ hnew_
   clear hg_ hnew_
   (first | rw [← Ny926.out] at ho73 | (simp only [Int.reduceToNat] at ho73; rw [← Ny926.out] at ho73))
   have HO928 := Aside0.mk (Kd.R_lower (Kd.R_newB (Kd.R_newB ho73 (bP BK916)) (bP BK922)) (below_size (by repeat (first | (with_reducible first | exact HB.out | apply below_alloc | apply pw_below_drewN | apply below_drew1 | refine below_set ?_ (IsS89.ge HI907.out) | refine below_set ?_ GE916.out | refine below_set ?_ GE922.out) | exact HB.out))))
   replace BK916 := bB BK916 hb
   replace BK922 := bB BK922 hb
   replace HB := Aside0.mk (below_step (by repeat (first | (with_reducible first | exact HB.out | apply below_alloc | apply pw_below_drewN | apply below_drew1 | refine below_set ?_ (IsS89.ge HI907.out) | refine below_set ?_ GE916.out | refine below_set ?_ GE922.out) | exact HB.out)) hb)
   replace HI907 := Aside0.mk (IsS89.below (by repeat (first | (with_reducible first | exact HI907.out | apply IsS89.alloc | apply IsS89.drewN | apply IsS89.drew | apply IsS89.set_1 | apply IsS89.set_2 | refine IsS89.far ?_ NB907_916.out _ | refine IsS89.far ?_ NB907_922.out _) | exact HI907.out)) hb)
   clear hb ho73
   refine hK.out _ _ (bT3 BK916) (fun hHeld => ?_)
   clear hK K
   refine nO (some 21) ?_
   refine pure_ (i := 4) (N := some 8) (v := ?_) (a' := ?_) #[true, true, true, true, true] rfl rfl (by kernel_rfl) (fun _ _ _ h => h) (Or.inl ⟨by rfl, ?_⟩) ?_ ?_
   rotate_left
   ·intro w'
    go_simp
    with_reducible rfl
   rotate_left
   ·simp only [Act.put, List.setIfInBounds_toArray, List.set_cons_zero, List.set_cons_succ, i64_w, i32_w]
    rfl
   refine done_ (by kernel_rfl) ?_
   obtain ⟨hcz74_0, hcz74_1, hcz74_2, hfz74_0, hfz74_1, hfz74_2⟩ := bK3 (w := w72) BK922
   try go_wp2_with (first | ((with_reducible refine gate_dst (N := 24) rfl ?_); refine Kd.R_lit k25 _ 25 ?hg (N := 24) ?hd (xs := ([(⟨t917, t918, t919⟩ : S25), (⟨t917, t918, t919⟩ : S25)] : List (S25))) (inner := [.int .i64 t917, .int .i64 t918, .bool t919, .int .i64 t917, .int .i64 t918, .bool t919]) (ok := fun _ => True) (okp := fun _ => True) ?hr ?hp (fun _ hk => hk) trivial (Below.refl _ _) (Nat.le_refl _) (by simp) ?_; (case hd => rfl); (case hg => rfl); (case hr => first | (go_simp; done) | (go_simp; rfl)); (case hp => exact (Reps.c3 (show Kd.M k25 _ _ _ (⟨t917, t918, t919⟩ : S25) [.int .i64 t917, .int .i64 t918, .bool t919] from (k25_mkM _ _ _ (⟨t917, t918, t919⟩ : S25) )) (Reps.c3 (show Kd.M k25 _ _ _ (⟨t917, t918, t919⟩ : S25) [.int .i64 t917, .int .i64 t918, .bool t919] from (k25_mkM _ _ _ (⟨t917, t918, t919⟩ : S25) )) (Reps.none _ _)))); intro v930 w75 ho76 hb hg_ hnew_; clear hg_ hnew_; (first | rw [← Ny929.out] at ho76 | (simp only [Int.reduceToNat] at ho76; rw [← Ny929.out] at ho76)); have HO931 := Aside0.mk (Kd.R_lower (Kd.R_newB (Kd.R_newB (Kd.R_new' ho76 (Kd.R_lt (rP HO928))) (bP BK916)) (bP BK922)) (below_size (by repeat (first | (with_reducible first | exact HB.out | apply below_alloc | apply pw_below_drewN | apply below_drew1 | refine below_set ?_ (IsS89.ge HI907.out) | refine below_set ?_ GE916.out | refine below_set ?_ GE922.out) | exact HB.out)))); replace HO928 := Aside0.mk (Kd.R_elder' (rP HO928) (Kd.R_base ho76) hb); replace BK916 := bB BK916 hb; replace BK922 := bB BK922 hb; replace HB := Aside0.mk (below_step (by repeat (first | (with_reducible first | exact HB.out | apply below_alloc | apply pw_below_drewN | apply below_drew1 | refine below_set ?_ (IsS89.ge HI907.out) | refine below_set ?_ GE916.out | refine below_set ?_ GE922.out) | exact HB.out)) hb); replace HI907 := Aside0.mk (IsS89.below (by repeat (first | (with_reducible first | exact HI907.out | apply IsS89.alloc | apply IsS89.drewN | apply IsS89.drew | apply IsS89.set_1 | apply IsS89.set_2 | refine IsS89.far ?_ NB907_916.out _ | refine IsS89.far ?_ NB907_922.out _) | exact HI907.out)) hb); clear hb ho76))
   go_ret2
   exact ⟨_, _, by first | rfl | (simp [errW_none, errW_some] <;> rfl) | (simp [*, errW_none, errW_some] <;> rfl), by (with_reducible repeat (first | apply Kd.R_alloc | apply Kd.R_drewN | apply Kd.R_drew)); exact Kd.R_mono HO928.out (fun _ hk => hk.2), by (with_reducible repeat (first | apply Kd.R_alloc | apply Kd.R_drewN | apply Kd.R_drew)); exact Kd.R_mono HO931.out (fun _ hk => hk.1.1.2), by repeat (first | (with_reducible first | exact HB.out | apply below_alloc | apply pw_below_drewN | apply below_drew1 | refine below_set ?_ (IsS89.ge HI907.out) | refine below_set ?_ GE916.out | refine below_set ?_ GE922.out) | exact HB.out)⟩
end Go.Proofs.Ytmbjefdkjdemhaa.Pf
end
