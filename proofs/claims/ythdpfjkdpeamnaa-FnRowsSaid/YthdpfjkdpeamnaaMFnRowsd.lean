/- What is proved here: part 4 of 6 of the proof of the given statement FnRows: the contracts of the Go functions that it reaches, the plain facts on lists and numbers, and (in the last part) the statement itself. No conditions beyond the given ones. -/
import Derived.Test.YthdpfjkdpeamnaaMFnRowswSlim
import Derived.Test.YthdpfjkdpeamnaaMFnRowsa

section
namespace Go.Proofs.Ythdpfjkdpeamnaa.Pf
open Go.RowKit Go.Proofs.YthdpfjkdpeamnaaW.PrintWords Go.Proofs.YthdpfjkdpeamnaaW.PrintLast Go.Proofs.YthdpfjkdpeamnaaW.PrintMore
attribute [local go_sem] max2_int min2_int max_two min_two max_three min_three max_four min_four
set_option linter.unusedVariables false
set_option linter.unusedSimpArgs false
set_option maxHeartbeats 8000000
set_option maxRecDepth 100000
def spec_l13Copy.l0 : Nat → Int → Int → Int → List (S75) → Int → Int → List (S75) → Option (Int × Int × (List (S75)))
 | 0, _, _, _, _, _, _, _ => none
 | k + 1, x4, x414000, x414001, x414002, x416000, x416001, x416002 => if x4 < (x414002.length : Int) then (if 0 ≤ x4 then ((some (([] : List Int) : List Int)).bind fun y418 => (if y418.length + ((rd_T75 x414002 x4).f0).length < 17592186044416 then ((some (([] : List Int) : List Int)).bind fun y424 => (if y424.length + ((rd_T75 x414002 x4).f1).length < 17592186044416 then ((some (([] : List Int) : List Int)).bind fun y430 => (if y430.length + ((rd_T75 x414002 x4).f2).length < 17592186044416 then (if x416002.length < 1954687338268 then (spec_l13Copy.l0 k (wrap64 (x4 + 1)) x414000 x414001 x414002 x416000 x416001 (x416002 ++ [(⟨(y418 ++ ((rd_T75 x414002 x4).f0)), (y424 ++ ((rd_T75 x414002 x4).f1)), (y430 ++ ((rd_T75 x414002 x4).f2))⟩ : S75)])) else (none)) else (none))) else (none))) else (none))) else (none)) else (some (x416000, x416001, x416002))
def spec_l13Copy.f (k : Nat) (a0_0 : Int) (a0_1 : Int) (l0_2 : List (S75)) : Option (Int × Int × (List (S75))) := spec_l13Copy.l0 k 0 a0_0 a0_1 l0_2 a0_0 a0_1 ([] : List (S75))
def spec_l13Copy.T6 : Bool × List (List Nat × List Nat) := (true, [([], []), ([0], [0]), ([], []), ([], []), ([3], [3]), ([2, 4], [2, 4]), ([], []), ([], []), ([7], [7]), ([6, 8, 5], [6, 8]), ([], []), ([], []), ([11], [11]), ([10, 12, 9], [10, 12]), ([5, 9, 13], [5, 9, 13]), ([14], [14]), ([1, 15, 13], [1, 15]), ([0, 1, 2, 3, 4, 5, 6, 7, 8, 9, 10, 11, 12, 13, 14, 15, 16], []), ([17, 16, 16, 0, 1, 2, 3, 4, 5, 6, 7, 8, 9, 10, 11, 12, 13, 14, 15, 16], [16, 17])])
def spec_l13Copy.B6 : List Nat := [0, 1, 0, 0, 8, 28, 0, 0, 128, 508, 0, 0, 2048, 8188, 16380, 32764, 65535, 131071, 262143]
theorem spec_l13Copy.tab6 : rtab .any (opsOf Try.f97 6) = spec_l13Copy.T6 := by kernel_rfl
theorem spec_l13Copy.bits6 : waitsOk spec_l13Copy.T6.2 spec_l13Copy.B6 = true := by kernel_rfl
theorem spec_l13Copy.calls (k : Nat) (a0_0 : Int) (a0_1 : Int) (A0_2 : Option Addr) (c0_2 : Nat) (l0_2 : List (S75)) (r1 : Int) (r2 : Int) (r3 : List (S75)) (w : World) (hr0_2 : Kd.C k75 w A0_2 l0_2.length l0_2) (hc0_2 : l0_2.length ≤ c0_2) (h : spec_l13Copy.f k a0_0 a0_1 l0_2 = some (r1, r2, r3)) :
  Calls Try.prog 97 #[.agg #[.int .i64 a0_0, .int .i64 a0_1, .slice A0_2 l0_2.length c0_2]] w fun e w' => ∃ v2_ : Value, e = .returned (.agg #[.int .i64 r1, .int .i64 r2, v2_]) ∧ Kd.S k75 75 w' w.heap.size (fun _ => True) v2_ r3 ∧ Below w.heap.size w w' := by
 have hu43 := Try.underlying43
 have hu75 := Try.underlying75
 have HR0_2 := Aside0.mk hr0_2
 have HC0_2 := Aside0.mk hc0_2
 clear hr0_2 hc0_2
 have HB := Aside0.mk (Below.refl w.heap.size w)
 have H : (spec_l13Copy.l0 k 0 a0_0 a0_1 l0_2 a0_0 a0_1 ([] : List (S75))) = some (r1, r2, r3) := h
 clear h
 have H' := Aside0.mk H
 clear H
 go_enter Try.func97, Try.ntmps97
 go_wp2_with (first | (refine gB 1 #[.int .i64 a0_0, .int .i64 a0_1, .slice A0_2 l0_2.length c0_2] 43 ?_; intro gb413 hg w2 BK413 hb; have GW413 := bG HB hg; replace HB := bS HB hb; clear hb hg) | (refine gB 2 #[.int .i64 0, .int .i64 0, .slice none 0 0] 43 ?_; intro gb414 hg w3 BK414 hb; have GW414 := bG HB hg; replace HB := bS HB hb; obtain ⟨NB413_414, NB414_413⟩ := bN BK413 hg; replace BK413 := bB BK413 hb; clear hb hg; obtain ⟨hnb4, hnc4⟩ := nB NB413_414; obtain ⟨hcz5_0, hcz5_1, hcz5_2, hfz5_0, hfz5_1, hfz5_2⟩ := bK3 (w := w3) BK413) | (refine gB 3 #[.int .i64 0, .int .i64 0, .slice none 0 0] 43 ?_; intro gb415 hg w6 BK415 hb; have GW415 := bG HB hg; replace HB := bS HB hb; obtain ⟨NB413_415, NB415_413⟩ := bN BK413 hg; replace BK413 := bB BK413 hb; obtain ⟨NB414_415, NB415_414⟩ := bN BK414 hg; replace BK414 := bB BK414 hb; clear hb hg; obtain ⟨hnb7, hnc7⟩ := nB NB415_413; obtain ⟨hnb8, hnc8⟩ := nB NB415_414; obtain ⟨hcz9_0, hcz9_1, hcz9_2, hfz9_0, hfz9_1, hfz9_2⟩ := bK3 (w := w6) BK415))
 go_loopg [4] k (fun kq v4 w' => ∃ (x4_1 : Int) (x416002_1 : List (S75)) (u416002 : Value), v4 = .int .i64 x4_1 ∧ Aside0 (spec_l13Copy.l0 kq x4_1 a0_0 a0_1 l0_2 a0_0 a0_1 x416002_1 = some (r1, r2, r3)) ∧ Aside0 (kq ≤ k) ∧ Aside0 (Kd.S k75 75 w' w.heap.size (fun _ => True) u416002 x416002_1) ∧ Aside0 (w'.heap[gb413]? = some (.cells #[.int .i64 a0_0, .int .i64 a0_1, (.slice A0_2 l0_2.length c0_2)] 43 (0, 0))) ∧ Aside0 (w'.heap[gb414]? = some (.cells #[.int .i64 0, .int .i64 0, (.slice none 0 0)] 43 (0, 0))) ∧ Aside0 (w'.heap[gb415]? = some (.cells #[.int .i64 a0_0, .int .i64 a0_1, u416002] 43 (0, 0))) ∧ Aside0 (Below w.heap.size w w'))
 case atStart => exact ⟨(0), (([] : List (S75))), (.slice none 0 0), rS, H', ⟨Nat.le_refl _⟩, ⟨by first | exact Kd.S_nil _ _ _ _ _ | exact Kd.N_nil _ _ _ _ _ | exact Kd.V_nil _ _ _ _ _ | exact Kd.Q_nil _ _ _ _ _ | exact Kd.R_nil _ _ _ _ _⟩, ⟨bP BK413⟩, ⟨bP BK414⟩, ⟨bU BK415⟩, ⟨bZ HB⟩⟩
 case round =>
  clear H'
  try clear p2
  try clear c4
  try clear c7
  try clear c8
  try clear c9
  try clear hcz5_0
  try clear hcz5_1
  try clear hcz5_2
  try clear hcz9_0
  try clear hcz9_1
  try clear hcz9_2
  try clear hfz5_0
  try clear hfz5_1
  try clear hfz5_2
  try clear hfz9_0
  try clear hfz9_1
  try clear hfz9_2
  obtain ⟨x4_1, x416002_1, u416002, rfl, HA, HK1, HO_416002, BK413, BK414, BK415, HB⟩ := hrel
  cases gk with
  | zero => exact absurd HA.out (by simp [spec_l13Copy.l0])
  | succ k1 =>
   have H := HA.out
   clear HA
   simp only [spec_l13Copy.l0] at H
   by_cases c10 : x4_1 < (l0_2.length : Int)
   ·rw [if_pos c10] at H
    have c10b0 := decide_eq_true c10
    clear c10
    by_cases c11 : 0 ≤ x4_1
    ·rw [if_pos c11] at H
     have c11b0 := decide_eq_true c11
     clear c11
     obtain ⟨y418, hy418⟩ : ∃ y_ : List Int, y_ = (([] : List Int)) := ⟨_, rfl⟩
     replace H : (if y418.length + ((rd_T75 l0_2 x4_1).f0).length < 17592186044416 then ((some (([] : List Int) : List Int)).bind fun y424 => (if y424.length + ((rd_T75 l0_2 x4_1).f1).length < 17592186044416 then ((some (([] : List Int) : List Int)).bind fun y430 => (if y430.length + ((rd_T75 l0_2 x4_1).f2).length < 17592186044416 then (if x416002_1.length < 1954687338268 then (spec_l13Copy.l0 k1 (wrap64 (x4_1 + 1)) a0_0 a0_1 l0_2 a0_0 a0_1 (x416002_1 ++ [(⟨(y418 ++ ((rd_T75 l0_2 x4_1).f0)), (y424 ++ ((rd_T75 l0_2 x4_1).f1)), (y430 ++ ((rd_T75 l0_2 x4_1).f2))⟩ : S75)])) else (none)) else (none))) else (none))) else (none)) = some (r1, r2, r3) := by first | (rw [hy418]; with_reducible exact H) | (have H2_ := (Option.bind_some _ _).symm.trans H; rw [hy418]; with_reducible exact H2_) | (have H2_ := (Option.bind_some _ _).symm.trans H; with_reducible exact H2_) | with_reducible exact H | (rw [hy418]; exact H) | exact H
     have Ny418 := Aside0.mk hy418
     clear hy418
     by_cases c12 : y418.length + ((rd_T75 l0_2 x4_1).f0).length < 17592186044416
     ·rw [if_pos c12] at H
      have LMc12 := Aside0.mk c12
      clear c12
      obtain ⟨y421, hy421⟩ : ∃ y_ : List Int, y_ = (y418 ++ ((rd_T75 l0_2 x4_1).f0)) := ⟨_, rfl⟩
      replace H : ((some (([] : List Int) : List Int)).bind fun y424 => (if y424.length + ((rd_T75 l0_2 x4_1).f1).length < 17592186044416 then ((some (([] : List Int) : List Int)).bind fun y430 => (if y430.length + ((rd_T75 l0_2 x4_1).f2).length < 17592186044416 then (if x416002_1.length < 1954687338268 then (spec_l13Copy.l0 k1 (wrap64 (x4_1 + 1)) a0_0 a0_1 l0_2 a0_0 a0_1 (x416002_1 ++ [(⟨y421, (y424 ++ ((rd_T75 l0_2 x4_1).f1)), (y430 ++ ((rd_T75 l0_2 x4_1).f2))⟩ : S75)])) else (none)) else (none))) else (none))) = some (r1, r2, r3) := by first | (rw [hy421]; with_reducible exact H) | (have H2_ := (Option.bind_some _ _).symm.trans H; rw [hy421]; with_reducible exact H2_) | (have H2_ := (Option.bind_some _ _).symm.trans H; with_reducible exact H2_) | with_reducible exact H | (rw [hy421]; exact H) | exact H
      have Ny421 := Aside0.mk hy421
      clear hy421
      obtain ⟨y424, hy424⟩ : ∃ y_ : List Int, y_ = (([] : List Int)) := ⟨_, rfl⟩
      replace H : (if y424.length + ((rd_T75 l0_2 x4_1).f1).length < 17592186044416 then ((some (([] : List Int) : List Int)).bind fun y430 => (if y430.length + ((rd_T75 l0_2 x4_1).f2).length < 17592186044416 then (if x416002_1.length < 1954687338268 then (spec_l13Copy.l0 k1 (wrap64 (x4_1 + 1)) a0_0 a0_1 l0_2 a0_0 a0_1 (x416002_1 ++ [(⟨y421, (y424 ++ ((rd_T75 l0_2 x4_1).f1)), (y430 ++ ((rd_T75 l0_2 x4_1).f2))⟩ : S75)])) else (none)) else (none))) else (none)) = some (r1, r2, r3) := by first | (rw [hy424]; with_reducible exact H) | (have H2_ := (Option.bind_some _ _).symm.trans H; rw [hy424]; with_reducible exact H2_) | (have H2_ := (Option.bind_some _ _).symm.trans H; with_reducible exact H2_) | with_reducible exact H | (rw [hy424]; exact H) | exact H
      have Ny424 := Aside0.mk hy424
      clear hy424
      by_cases c13 : y424.length + ((rd_T75 l0_2 x4_1).f1).length < 17592186044416
      ·rw [if_pos c13] at H
       have LMc13 := Aside0.mk c13
       clear c13
       obtain ⟨y427, hy427⟩ : ∃ y_ : List Int, y_ = (y424 ++ ((rd_T75 l0_2 x4_1).f1)) := ⟨_, rfl⟩
       replace H : ((some (([] : List Int) : List Int)).bind fun y430 => (if y430.length + ((rd_T75 l0_2 x4_1).f2).length < 17592186044416 then (if x416002_1.length < 1954687338268 then (spec_l13Copy.l0 k1 (wrap64 (x4_1 + 1)) a0_0 a0_1 l0_2 a0_0 a0_1 (x416002_1 ++ [(⟨y421, y427, (y430 ++ ((rd_T75 l0_2 x4_1).f2))⟩ : S75)])) else (none)) else (none))) = some (r1, r2, r3) := by first | (rw [hy427]; with_reducible exact H) | (have H2_ := (Option.bind_some _ _).symm.trans H; rw [hy427]; with_reducible exact H2_) | (have H2_ := (Option.bind_some _ _).symm.trans H; with_reducible exact H2_) | with_reducible exact H | (rw [hy427]; exact H) | exact H
       have Ny427 := Aside0.mk hy427
       clear hy427
       obtain ⟨y430, hy430⟩ : ∃ y_ : List Int, y_ = (([] : List Int)) := ⟨_, rfl⟩
       replace H : (if y430.length + ((rd_T75 l0_2 x4_1).f2).length < 17592186044416 then (if x416002_1.length < 1954687338268 then (spec_l13Copy.l0 k1 (wrap64 (x4_1 + 1)) a0_0 a0_1 l0_2 a0_0 a0_1 (x416002_1 ++ [(⟨y421, y427, (y430 ++ ((rd_T75 l0_2 x4_1).f2))⟩ : S75)])) else (none)) else (none)) = some (r1, r2, r3) := by first | (rw [hy430]; with_reducible exact H) | (have H2_ := (Option.bind_some _ _).symm.trans H; rw [hy430]; with_reducible exact H2_) | (have H2_ := (Option.bind_some _ _).symm.trans H; with_reducible exact H2_) | with_reducible exact H | (rw [hy430]; exact H) | exact H
       have Ny430 := Aside0.mk hy430
       clear hy430
       by_cases c14 : y430.length + ((rd_T75 l0_2 x4_1).f2).length < 17592186044416
       ·rw [if_pos c14] at H
        have LMc14 := Aside0.mk c14
        clear c14
        obtain ⟨y433, hy433⟩ : ∃ y_ : List Int, y_ = (y430 ++ ((rd_T75 l0_2 x4_1).f2)) := ⟨_, rfl⟩
        replace H : (if x416002_1.length < 1954687338268 then (spec_l13Copy.l0 k1 (wrap64 (x4_1 + 1)) a0_0 a0_1 l0_2 a0_0 a0_1 (x416002_1 ++ [(⟨y421, y427, y433⟩ : S75)])) else (none)) = some (r1, r2, r3) := by first | (rw [hy433]; with_reducible exact H) | (have H2_ := (Option.bind_some _ _).symm.trans H; rw [hy433]; with_reducible exact H2_) | (have H2_ := (Option.bind_some _ _).symm.trans H; with_reducible exact H2_) | with_reducible exact H | (rw [hy433]; exact H) | exact H
        have Ny433 := Aside0.mk hy433
        clear hy433
        by_cases c15 : x416002_1.length < 1954687338268
        ·rw [if_pos c15] at H
         have LMc15 := Aside0.mk c15
         clear c15
         obtain ⟨y436, hy436⟩ : ∃ y_ : List (S75), y_ = (x416002_1 ++ [(⟨y421, y427, y433⟩ : S75)]) := ⟨_, rfl⟩
         replace H : (spec_l13Copy.l0 k1 (wrap64 (x4_1 + 1)) a0_0 a0_1 l0_2 a0_0 a0_1 y436) = some (r1, r2, r3) := by first | (rw [hy436]; with_reducible exact H) | (have H2_ := (Option.bind_some _ _).symm.trans H; rw [hy436]; with_reducible exact H2_) | (have H2_ := (Option.bind_some _ _).symm.trans H; with_reducible exact H2_) | with_reducible exact H | (rw [hy436]; exact H) | exact H
         have Ny436 := Aside0.mk hy436
         clear hy436
         have H' := Aside0.mk H
         clear H
         obtain ⟨hnb16, hnc16⟩ := nB NB413_414
         obtain ⟨hnb17, hnc17⟩ := nB NB413_415
         obtain ⟨hcz18_0, hcz18_1, hcz18_2, hfz18_0, hfz18_1, hfz18_2⟩ := bK3 (w := wr) BK413
         have p416 : 0 ≤ (x4_1 : Int) := of_decide_eq_true (by first | (with_reducible assumption) | assumption)
         have q416 : x4_1 < (l0_2.length : Int) := of_decide_eq_true (by first | (with_reducible assumption) | assumption)
         obtain ⟨ad416, A416_0, c416_0, A416_1, c416_1, A416_2, c416_2, e416, hx416_0, hx416_1, hx416_2, hl416_0, hi416_0, hl416_1, hi416_1, hl416_2, hi416_2⟩ := at_T75 HR0_2.out x4_1 p416 q416
         cases e416
         replace hx416_0 := (hC HB hx416_0 :)
         replace hx416_1 := (hC HB hx416_1 :)
         replace hx416_2 := (hC HB hx416_2 :)
         have HR416_0 := Aside0.mk hi416_0
         have HC416_0 := Aside0.mk hl416_0
         clear hi416_0 hl416_0
         have HR416_1 := Aside0.mk hi416_1
         have HC416_1 := Aside0.mk hl416_1
         clear hi416_1 hl416_1
         have HR416_2 := Aside0.mk hi416_2
         have HC416_2 := Aside0.mk hl416_2
         clear hi416_2 hl416_2
         replace p416 := eq_true p416
         replace q416 := eq_true q416
         try go_wp2_with (first | ((with_reducible refine gate_dst (N := 5) rfl ?_); refine bE 5 #[.slice none 0 0, .slice none 0 0, .slice none 0 0] 75 ?_; intro gb417 hg w19 hbox hb; replace HO_416002 := Aside0.mk (Kd.S_below (Kd.S_elderB (by (with_reducible repeat (first | apply Kd.S_alloc | apply Kd.S_drewN | apply Kd.S_drew)); exact HO_416002.out) gb417 (Nat.le_of_eq hg.symm)) hb); have BK417 := Aside0.mk (hbox); have GW417 := bG HB hg; replace HB := bS HB hb; obtain ⟨NB413_417, NB417_413⟩ := bN BK413 hg; replace BK413 := bB BK413 hb; obtain ⟨NB414_417, NB417_414⟩ := bN BK414 hg; replace BK414 := bB BK414 hb; obtain ⟨NB415_417, NB417_415⟩ := bN BK415 hg; replace BK415 := bB BK415 hb; clear hb hbox hg; obtain ⟨hnb20, hnc20⟩ := nB NB417_413; obtain ⟨hnb21, hnc21⟩ := nB NB417_414; obtain ⟨hnb22, hnc22⟩ := nB NB417_415; obtain ⟨hcz23_0, hcz23_1, hcz23_2, hfz23_0, hfz23_1, hfz23_2⟩ := bK3 (w := w19) BK417; obtain ⟨Ao24, co24, eo24⟩ := Kd.S_slice HO_416002.out; subst eo24))
         obtain ⟨w25, hW_⟩ : ∃ W_ : World, W_ = (((w19.setCell ⟨gb417, 0, none⟩ (.slice A416_0 ((rd_T75 l0_2 x4_1).f0).length c416_0)).setCell ⟨gb417, 1, none⟩ (.slice A416_1 ((rd_T75 l0_2 x4_1).f1).length c416_1)).setCell ⟨gb417, 2, none⟩ (.slice A416_2 ((rd_T75 l0_2 x4_1).f2).length c416_2)) := ⟨_, rfl⟩
         have n0_ : Aside0 (Kd.S k75 75 (((w19.setCell ⟨gb417, 0, none⟩ (.slice A416_0 ((rd_T75 l0_2 x4_1).f0).length c416_0)).setCell ⟨gb417, 1, none⟩ (.slice A416_1 ((rd_T75 l0_2 x4_1).f1).length c416_1)).setCell ⟨gb417, 2, none⟩ (.slice A416_2 ((rd_T75 l0_2 x4_1).f2).length c416_2)) w.heap.size (fun k_ => k_ ≠ gb417) (.slice Ao24 x416002_1.length co24) x416002_1) := ⟨by (with_reducible repeat (first | apply Kd.S_alloc | apply Kd.S_drewN | apply Kd.S_drew)); exact Kd.S_mono (Kd.S_far (p := ⟨gb417, 2, none⟩) (Kd.S_far (p := ⟨gb417, 1, none⟩) (Kd.S_far (p := ⟨gb417, 0, none⟩) (Kd.S_mono HO_416002.out (fun k_ hk => (⟨hk, hk.2⟩ : _ ∧ k_ ≠ gb417))) (fun _ hk => hk.2) (.slice A416_0 ((rd_T75 l0_2 x4_1).f0).length c416_0)) (fun _ hk => hk.2) (.slice A416_1 ((rd_T75 l0_2 x4_1).f1).length c416_1)) (fun _ hk => hk.2) (.slice A416_2 ((rd_T75 l0_2 x4_1).f2).length c416_2)) (fun _ hk => hk.1.2)⟩
         rw [← hW_] at n0_
         replace BK413 := bW hW_ BK413
         replace BK414 := bW hW_ BK414
         replace BK415 := bW hW_ BK415
         replace BK417 := bX hW_ 75 #[.slice A416_0 ((rd_T75 l0_2 x4_1).f0).length c416_0, .slice A416_1 ((rd_T75 l0_2 x4_1).f1).length c416_1, .slice A416_2 ((rd_T75 l0_2 x4_1).f2).length c416_2] BK417
         (try clear HO_416002)
         have HO_416002 := n0_
         clear n0_
         replace HB := zW hW_ HB
         rw [← hW_]
         clear hW_
         replace HO_416002 := Aside0.mk (Kd.S_drew HO_416002.out)
         replace BK413 := Aside0.mk (blk_drew BK413.out)
         replace BK414 := Aside0.mk (blk_drew BK414.out)
         replace BK415 := Aside0.mk (blk_drew BK415.out)
         replace BK417 := Aside0.mk (blk_drew BK417.out)
         replace HB := Aside0.mk (below_drew1 HB.out)
         refine start_ (n := 19) (S := fun w' => SP3 w' gb415 (.int .i64 a0_0) (.int .i64 a0_1) (.slice Ao24 x416002_1.length co24) (SQ3 w' gb417 (.slice A416_0 ((rd_T75 l0_2 x4_1).f0).length c416_0) (.slice A416_1 ((rd_T75 l0_2 x4_1).f1).length c416_1) (.slice A416_2 ((rd_T75 l0_2 x4_1).f2).length c416_2))) (ds := [18]) #[false, false, false, false, false, false, false, false, false, false, false, false, false, false, false, false, false, false, false] (by kernel_rfl) rfl rfl (bS3 BK415 (bT3 BK417)) (fun hHeld => ?_); refine with_tabW spec_l13Copy.tab6 spec_l13Copy.bits6 (fun HT_ HW_ => ?_)
         generalize w25.drew = w26 at HO_416002 BK413 BK414 BK415 BK417 HB hHeld ⊢
         refine pI 0 (some 23) HT_.out ?_
         refine pI 3 (some 26) HT_.out ?_
         refine pI 7 (some 30) HT_.out ?_
         refine pI 11 (some 34) HT_.out ?_
         refine tI6 1 (some 24) HT_.out HW_.out hHeld ?_
         refine tI6 4 (some 27) HT_.out HW_.out hHeld ?_
         refine tI6 8 (some 31) HT_.out HW_.out hHeld ?_
         refine tI6 12 (some 35) HT_.out HW_.out hHeld ?_
         refine join_ (σ := Value × Value × Value × Value × Value) 6 #[true, true, true, true, true, true, true, true, true, true, true, true, true, false, false, false, false, false, false] (fun s_ => [(25, s_.1), (28, s_.2.1), (29, s_.2.2.1), (32, s_.2.2.2.1), (33, s_.2.2.2.2)]) (fun s_ w' => (w'.cell? ⟨gb415, 0, none⟩ = some (.int .i64 a0_0) ∧ w'.cell? ⟨gb415, 1, none⟩ = some (.int .i64 a0_1) ∧ w'.cell? ⟨gb415, 2, none⟩ = some (.slice Ao24 x416002_1.length co24) ∧ w'.cell? ⟨gb417, 0, none⟩ = some (.slice A416_0 ((rd_T75 l0_2 x4_1).f0).length c416_0) ∧ w'.cell? ⟨gb417, 1, none⟩ = some (.slice A416_1 ((rd_T75 l0_2 x4_1).f1).length c416_1) ∧ w'.cell? ⟨gb417, 2, none⟩ = some (.slice A416_2 ((rd_T75 l0_2 x4_1).f2).length c416_2)) ∧ (Kd.R (Kd.int .i64) 3 w' w.heap.size (fun k_ => some k_ ≠ (s_.2.2.2.1 : Value).ownBlock ∧ some k_ ≠ (s_.2.2.2.2 : Value).ownBlock) s_.2.1 y421) ∧ (Kd.R (Kd.int .i64) 3 w' w.heap.size (fun k_ => some k_ ≠ (s_.2.1 : Value).ownBlock ∧ some k_ ≠ (s_.2.2.2.2 : Value).ownBlock) s_.2.2.2.1 y427) ∧ (Kd.R (Kd.int .i64) 3 w' w.heap.size (fun k_ => some k_ ≠ (s_.2.1 : Value).ownBlock ∧ some k_ ≠ (s_.2.2.2.1 : Value).ownBlock) s_.2.2.2.2 y430) ∧ (Kd.S k75 75 w' w.heap.size (fun k_ => some k_ ≠ (s_.2.1 : Value).ownBlock ∧ some k_ ≠ (s_.2.2.2.1 : Value).ownBlock ∧ some k_ ≠ (s_.2.2.2.2 : Value).ownBlock ∧ k_ ≠ gb417) (.slice Ao24 x416002_1.length co24) x416002_1) ∧ (w'.heap[gb413]? = some (.cells #[.int .i64 a0_0, .int .i64 a0_1, .slice (some ad416) l0_2.length c0_2] 43 (0, 0))) ∧ (w'.heap[gb414]? = some (.cells #[.int .i64 0, .int .i64 0, .slice none 0 0] 43 (0, 0))) ∧ (w'.heap[gb415]? = some (.cells #[.int .i64 a0_0, .int .i64 a0_1, .slice Ao24 x416002_1.length co24] 43 (0, 0))) ∧ (w'.heap[gb417]? = some (.cells #[.slice A416_0 ((rd_T75 l0_2 x4_1).f0).length c416_0, .slice A416_1 ((rd_T75 l0_2 x4_1).f1).length c416_1, .slice A416_2 ((rd_T75 l0_2 x4_1).f2).length c416_2] 75 (0, 0))) ∧ (Below w.heap.size w w')) ?_ ?_
         rotate_left
         ·intro hJ2_5_6_9_10
          refine join_ (σ := Value × Value × Value × Value) 7 #[true, true, true, true, true, true, true, true, true, true, false, true, true, false, false, false, false, false, false] (fun s_ => [(25, s_.1), (28, s_.2.1), (29, s_.2.2.1), (32, s_.2.2.2)]) (fun s_ w' => (w'.cell? ⟨gb415, 0, none⟩ = some (.int .i64 a0_0) ∧ w'.cell? ⟨gb415, 1, none⟩ = some (.int .i64 a0_1) ∧ w'.cell? ⟨gb415, 2, none⟩ = some (.slice Ao24 x416002_1.length co24) ∧ w'.cell? ⟨gb417, 0, none⟩ = some (.slice A416_0 ((rd_T75 l0_2 x4_1).f0).length c416_0) ∧ w'.cell? ⟨gb417, 1, none⟩ = some (.slice A416_1 ((rd_T75 l0_2 x4_1).f1).length c416_1) ∧ w'.cell? ⟨gb417, 2, none⟩ = some (.slice A416_2 ((rd_T75 l0_2 x4_1).f2).length c416_2)) ∧ (Kd.R (Kd.int .i64) 3 w' w.heap.size (fun k_ => some k_ ≠ (s_.2.2.2 : Value).ownBlock) s_.2.1 y421) ∧ (Kd.R (Kd.int .i64) 3 w' w.heap.size (fun k_ => some k_ ≠ (s_.2.1 : Value).ownBlock) s_.2.2.2 y427) ∧ (Kd.S k75 75 w' w.heap.size (fun k_ => some k_ ≠ (s_.2.1 : Value).ownBlock ∧ some k_ ≠ (s_.2.2.2 : Value).ownBlock ∧ k_ ≠ gb417) (.slice Ao24 x416002_1.length co24) x416002_1) ∧ (w'.heap[gb413]? = some (.cells #[.int .i64 a0_0, .int .i64 a0_1, .slice (some ad416) l0_2.length c0_2] 43 (0, 0))) ∧ (w'.heap[gb414]? = some (.cells #[.int .i64 0, .int .i64 0, .slice none 0 0] 43 (0, 0))) ∧ (w'.heap[gb415]? = some (.cells #[.int .i64 a0_0, .int .i64 a0_1, .slice Ao24 x416002_1.length co24] 43 (0, 0))) ∧ (w'.heap[gb417]? = some (.cells #[.slice A416_0 ((rd_T75 l0_2 x4_1).f0).length c416_0, .slice A416_1 ((rd_T75 l0_2 x4_1).f1).length c416_1, .slice A416_2 ((rd_T75 l0_2 x4_1).f2).length c416_2] 75 (0, 0))) ∧ (Below w.heap.size w w')) ?_ ?_
          rotate_left
          ·intro hJ2_5_6_9
           refine join_ (σ := Value × Value × Value × Value) 7 #[true, true, true, true, true, true, true, true, true, false, true, true, true, false, false, false, false, false, false] (fun s_ => [(25, s_.1), (28, s_.2.1), (29, s_.2.2.1), (33, s_.2.2.2)]) (fun s_ w' => (w'.cell? ⟨gb415, 0, none⟩ = some (.int .i64 a0_0) ∧ w'.cell? ⟨gb415, 1, none⟩ = some (.int .i64 a0_1) ∧ w'.cell? ⟨gb415, 2, none⟩ = some (.slice Ao24 x416002_1.length co24) ∧ w'.cell? ⟨gb417, 0, none⟩ = some (.slice A416_0 ((rd_T75 l0_2 x4_1).f0).length c416_0) ∧ w'.cell? ⟨gb417, 1, none⟩ = some (.slice A416_1 ((rd_T75 l0_2 x4_1).f1).length c416_1) ∧ w'.cell? ⟨gb417, 2, none⟩ = some (.slice A416_2 ((rd_T75 l0_2 x4_1).f2).length c416_2)) ∧ (Kd.R (Kd.int .i64) 3 w' w.heap.size (fun k_ => some k_ ≠ (s_.2.2.1 : Value).ownBlock ∧ some k_ ≠ (s_.2.2.2 : Value).ownBlock) s_.2.1 y421) ∧ (Kd.R (Kd.int .i64) 3 w' w.heap.size (fun k_ => some k_ ≠ (s_.2.1 : Value).ownBlock ∧ some k_ ≠ (s_.2.2.2 : Value).ownBlock) s_.2.2.1 y424) ∧ (Kd.R (Kd.int .i64) 3 w' w.heap.size (fun k_ => some k_ ≠ (s_.2.1 : Value).ownBlock ∧ some k_ ≠ (s_.2.2.1 : Value).ownBlock) s_.2.2.2 y430) ∧ (Kd.S k75 75 w' w.heap.size (fun k_ => some k_ ≠ (s_.2.1 : Value).ownBlock ∧ some k_ ≠ (s_.2.2.1 : Value).ownBlock ∧ some k_ ≠ (s_.2.2.2 : Value).ownBlock ∧ k_ ≠ gb417) (.slice Ao24 x416002_1.length co24) x416002_1) ∧ (w'.heap[gb413]? = some (.cells #[.int .i64 a0_0, .int .i64 a0_1, .slice (some ad416) l0_2.length c0_2] 43 (0, 0))) ∧ (w'.heap[gb414]? = some (.cells #[.int .i64 0, .int .i64 0, .slice none 0 0] 43 (0, 0))) ∧ (w'.heap[gb415]? = some (.cells #[.int .i64 a0_0, .int .i64 a0_1, .slice Ao24 x416002_1.length co24] 43 (0, 0))) ∧ (w'.heap[gb417]? = some (.cells #[.slice A416_0 ((rd_T75 l0_2 x4_1).f0).length c416_0, .slice A416_1 ((rd_T75 l0_2 x4_1).f1).length c416_1, .slice A416_2 ((rd_T75 l0_2 x4_1).f2).length c416_2] 75 (0, 0))) ∧ (Below w.heap.size w w')) ?_ ?_
           rotate_left
           ·intro hJ2_5_6_10
            refine join_ (σ := Value × Value × Value) 8 #[true, true, true, true, true, true, true, true, true, false, false, true, true, false, false, false, false, false, false] (fun s_ => [(25, s_.1), (28, s_.2.1), (29, s_.2.2)]) (fun s_ w' => (w'.cell? ⟨gb415, 0, none⟩ = some (.int .i64 a0_0) ∧ w'.cell? ⟨gb415, 1, none⟩ = some (.int .i64 a0_1) ∧ w'.cell? ⟨gb415, 2, none⟩ = some (.slice Ao24 x416002_1.length co24) ∧ w'.cell? ⟨gb417, 0, none⟩ = some (.slice A416_0 ((rd_T75 l0_2 x4_1).f0).length c416_0) ∧ w'.cell? ⟨gb417, 1, none⟩ = some (.slice A416_1 ((rd_T75 l0_2 x4_1).f1).length c416_1) ∧ w'.cell? ⟨gb417, 2, none⟩ = some (.slice A416_2 ((rd_T75 l0_2 x4_1).f2).length c416_2)) ∧ (Kd.R (Kd.int .i64) 3 w' w.heap.size (fun k_ => some k_ ≠ (s_.2.2 : Value).ownBlock) s_.2.1 y421) ∧ (Kd.R (Kd.int .i64) 3 w' w.heap.size (fun k_ => some k_ ≠ (s_.2.1 : Value).ownBlock) s_.2.2 y424) ∧ (Kd.S k75 75 w' w.heap.size (fun k_ => some k_ ≠ (s_.2.1 : Value).ownBlock ∧ some k_ ≠ (s_.2.2 : Value).ownBlock ∧ k_ ≠ gb417) (.slice Ao24 x416002_1.length co24) x416002_1) ∧ (w'.heap[gb413]? = some (.cells #[.int .i64 a0_0, .int .i64 a0_1, .slice (some ad416) l0_2.length c0_2] 43 (0, 0))) ∧ (w'.heap[gb414]? = some (.cells #[.int .i64 0, .int .i64 0, .slice none 0 0] 43 (0, 0))) ∧ (w'.heap[gb415]? = some (.cells #[.int .i64 a0_0, .int .i64 a0_1, .slice Ao24 x416002_1.length co24] 43 (0, 0))) ∧ (w'.heap[gb417]? = some (.cells #[.slice A416_0 ((rd_T75 l0_2 x4_1).f0).length c416_0, .slice A416_1 ((rd_T75 l0_2 x4_1).f1).length c416_1, .slice A416_2 ((rd_T75 l0_2 x4_1).f2).length c416_2] 75 (0, 0))) ∧ (Below w.heap.size w w')) ?_ ?_
            rotate_left
            ·intro hJ2_5_6
             refine join_ (σ := Value × Value × Value) 8 #[true, true, true, true, true, true, false, true, true, false, true, true, true, false, false, false, false, false, false] (fun s_ => [(25, s_.1), (28, s_.2.1), (33, s_.2.2)]) (fun s_ w' => (w'.cell? ⟨gb415, 0, none⟩ = some (.int .i64 a0_0) ∧ w'.cell? ⟨gb415, 1, none⟩ = some (.int .i64 a0_1) ∧ w'.cell? ⟨gb415, 2, none⟩ = some (.slice Ao24 x416002_1.length co24) ∧ w'.cell? ⟨gb417, 0, none⟩ = some (.slice A416_0 ((rd_T75 l0_2 x4_1).f0).length c416_0) ∧ w'.cell? ⟨gb417, 1, none⟩ = some (.slice A416_1 ((rd_T75 l0_2 x4_1).f1).length c416_1) ∧ w'.cell? ⟨gb417, 2, none⟩ = some (.slice A416_2 ((rd_T75 l0_2 x4_1).f2).length c416_2)) ∧ (Kd.R (Kd.int .i64) 3 w' w.heap.size (fun k_ => some k_ ≠ (s_.2.2 : Value).ownBlock) s_.2.1 y421) ∧ (Kd.R (Kd.int .i64) 3 w' w.heap.size (fun k_ => some k_ ≠ (s_.2.1 : Value).ownBlock) s_.2.2 y430) ∧ (Kd.S k75 75 w' w.heap.size (fun k_ => some k_ ≠ (s_.2.1 : Value).ownBlock ∧ some k_ ≠ (s_.2.2 : Value).ownBlock ∧ k_ ≠ gb417) (.slice Ao24 x416002_1.length co24) x416002_1) ∧ (w'.heap[gb413]? = some (.cells #[.int .i64 a0_0, .int .i64 a0_1, .slice (some ad416) l0_2.length c0_2] 43 (0, 0))) ∧ (w'.heap[gb414]? = some (.cells #[.int .i64 0, .int .i64 0, .slice none 0 0] 43 (0, 0))) ∧ (w'.heap[gb415]? = some (.cells #[.int .i64 a0_0, .int .i64 a0_1, .slice Ao24 x416002_1.length co24] 43 (0, 0))) ∧ (w'.heap[gb417]? = some (.cells #[.slice A416_0 ((rd_T75 l0_2 x4_1).f0).length c416_0, .slice A416_1 ((rd_T75 l0_2 x4_1).f1).length c416_1, .slice A416_2 ((rd_T75 l0_2 x4_1).f2).length c416_2] 75 (0, 0))) ∧ (Below w.heap.size w w')) ?_ ?_
             rotate_left
             ·intro hJ2_5_10
              refine join_ (σ := Value × Value × Value) 8 #[true, true, true, true, true, false, true, true, true, false, true, true, true, false, false, false, false, false, false] (fun s_ => [(25, s_.1), (29, s_.2.1), (33, s_.2.2)]) (fun s_ w' => (w'.cell? ⟨gb415, 0, none⟩ = some (.int .i64 a0_0) ∧ w'.cell? ⟨gb415, 1, none⟩ = some (.int .i64 a0_1) ∧ w'.cell? ⟨gb415, 2, none⟩ = some (.slice Ao24 x416002_1.length co24) ∧ w'.cell? ⟨gb417, 0, none⟩ = some (.slice A416_0 ((rd_T75 l0_2 x4_1).f0).length c416_0) ∧ w'.cell? ⟨gb417, 1, none⟩ = some (.slice A416_1 ((rd_T75 l0_2 x4_1).f1).length c416_1) ∧ w'.cell? ⟨gb417, 2, none⟩ = some (.slice A416_2 ((rd_T75 l0_2 x4_1).f2).length c416_2)) ∧ (Kd.R (Kd.int .i64) 3 w' w.heap.size (fun k_ => some k_ ≠ (s_.2.1 : Value).ownBlock ∧ some k_ ≠ (s_.2.2 : Value).ownBlock) s_.1 y418) ∧ (Kd.R (Kd.int .i64) 3 w' w.heap.size (fun k_ => some k_ ≠ (s_.1 : Value).ownBlock ∧ some k_ ≠ (s_.2.2 : Value).ownBlock) s_.2.1 y424) ∧ (Kd.R (Kd.int .i64) 3 w' w.heap.size (fun k_ => some k_ ≠ (s_.1 : Value).ownBlock ∧ some k_ ≠ (s_.2.1 : Value).ownBlock) s_.2.2 y430) ∧ (Kd.S k75 75 w' w.heap.size (fun k_ => some k_ ≠ (s_.1 : Value).ownBlock ∧ some k_ ≠ (s_.2.1 : Value).ownBlock ∧ some k_ ≠ (s_.2.2 : Value).ownBlock ∧ k_ ≠ gb417) (.slice Ao24 x416002_1.length co24) x416002_1) ∧ (w'.heap[gb413]? = some (.cells #[.int .i64 a0_0, .int .i64 a0_1, .slice (some ad416) l0_2.length c0_2] 43 (0, 0))) ∧ (w'.heap[gb414]? = some (.cells #[.int .i64 0, .int .i64 0, .slice none 0 0] 43 (0, 0))) ∧ (w'.heap[gb415]? = some (.cells #[.int .i64 a0_0, .int .i64 a0_1, .slice Ao24 x416002_1.length co24] 43 (0, 0))) ∧ (w'.heap[gb417]? = some (.cells #[.slice A416_0 ((rd_T75 l0_2 x4_1).f0).length c416_0, .slice A416_1 ((rd_T75 l0_2 x4_1).f1).length c416_1, .slice A416_2 ((rd_T75 l0_2 x4_1).f2).length c416_2] 75 (0, 0))) ∧ (Below w.heap.size w w')) ?_ ?_
              rotate_left
              ·intro hJ2_6_10
               refine join_ (σ := Value × Value) 9 #[true, true, true, true, true, true, false, true, true, false, false, true, true, false, false, false, false, false, false] (fun s_ => [(25, s_.1), (28, s_.2)]) (fun s_ w' => (w'.cell? ⟨gb415, 0, none⟩ = some (.int .i64 a0_0) ∧ w'.cell? ⟨gb415, 1, none⟩ = some (.int .i64 a0_1) ∧ w'.cell? ⟨gb415, 2, none⟩ = some (.slice Ao24 x416002_1.length co24) ∧ w'.cell? ⟨gb417, 0, none⟩ = some (.slice A416_0 ((rd_T75 l0_2 x4_1).f0).length c416_0) ∧ w'.cell? ⟨gb417, 1, none⟩ = some (.slice A416_1 ((rd_T75 l0_2 x4_1).f1).length c416_1) ∧ w'.cell? ⟨gb417, 2, none⟩ = some (.slice A416_2 ((rd_T75 l0_2 x4_1).f2).length c416_2)) ∧ (Kd.R (Kd.int .i64) 3 w' w.heap.size (fun _ => True) s_.2 y421) ∧ (Kd.S k75 75 w' w.heap.size (fun k_ => some k_ ≠ (s_.2 : Value).ownBlock ∧ k_ ≠ gb417) (.slice Ao24 x416002_1.length co24) x416002_1) ∧ (w'.heap[gb413]? = some (.cells #[.int .i64 a0_0, .int .i64 a0_1, .slice (some ad416) l0_2.length c0_2] 43 (0, 0))) ∧ (w'.heap[gb414]? = some (.cells #[.int .i64 0, .int .i64 0, .slice none 0 0] 43 (0, 0))) ∧ (w'.heap[gb415]? = some (.cells #[.int .i64 a0_0, .int .i64 a0_1, .slice Ao24 x416002_1.length co24] 43 (0, 0))) ∧ (w'.heap[gb417]? = some (.cells #[.slice A416_0 ((rd_T75 l0_2 x4_1).f0).length c416_0, .slice A416_1 ((rd_T75 l0_2 x4_1).f1).length c416_1, .slice A416_2 ((rd_T75 l0_2 x4_1).f2).length c416_2] 75 (0, 0))) ∧ (Below w.heap.size w w')) ?_ ?_
               rotate_left
               ·intro hJ2_5
                refine join_ (σ := Value × Value) 9 #[true, true, true, true, true, false, true, true, true, false, false, true, true, false, false, false, false, false, false] (fun s_ => [(25, s_.1), (29, s_.2)]) (fun s_ w' => (w'.cell? ⟨gb415, 0, none⟩ = some (.int .i64 a0_0) ∧ w'.cell? ⟨gb415, 1, none⟩ = some (.int .i64 a0_1) ∧ w'.cell? ⟨gb415, 2, none⟩ = some (.slice Ao24 x416002_1.length co24) ∧ w'.cell? ⟨gb417, 0, none⟩ = some (.slice A416_0 ((rd_T75 l0_2 x4_1).f0).length c416_0) ∧ w'.cell? ⟨gb417, 1, none⟩ = some (.slice A416_1 ((rd_T75 l0_2 x4_1).f1).length c416_1) ∧ w'.cell? ⟨gb417, 2, none⟩ = some (.slice A416_2 ((rd_T75 l0_2 x4_1).f2).length c416_2)) ∧ (Kd.R (Kd.int .i64) 3 w' w.heap.size (fun k_ => some k_ ≠ (s_.2 : Value).ownBlock) s_.1 y418) ∧ (Kd.R (Kd.int .i64) 3 w' w.heap.size (fun k_ => some k_ ≠ (s_.1 : Value).ownBlock) s_.2 y424) ∧ (Kd.S k75 75 w' w.heap.size (fun k_ => some k_ ≠ (s_.1 : Value).ownBlock ∧ some k_ ≠ (s_.2 : Value).ownBlock ∧ k_ ≠ gb417) (.slice Ao24 x416002_1.length co24) x416002_1) ∧ (w'.heap[gb413]? = some (.cells #[.int .i64 a0_0, .int .i64 a0_1, .slice (some ad416) l0_2.length c0_2] 43 (0, 0))) ∧ (w'.heap[gb414]? = some (.cells #[.int .i64 0, .int .i64 0, .slice none 0 0] 43 (0, 0))) ∧ (w'.heap[gb415]? = some (.cells #[.int .i64 a0_0, .int .i64 a0_1, .slice Ao24 x416002_1.length co24] 43 (0, 0))) ∧ (w'.heap[gb417]? = some (.cells #[.slice A416_0 ((rd_T75 l0_2 x4_1).f0).length c416_0, .slice A416_1 ((rd_T75 l0_2 x4_1).f1).length c416_1, .slice A416_2 ((rd_T75 l0_2 x4_1).f2).length c416_2] 75 (0, 0))) ∧ (Below w.heap.size w w')) ?_ ?_
                rotate_left
                ·intro hJ2_6
                 refine join_ (σ := Value × Value) 9 #[true, true, true, true, true, false, false, true, true, false, true, true, true, false, false, false, false, false, false] (fun s_ => [(25, s_.1), (33, s_.2)]) (fun s_ w' => (w'.cell? ⟨gb415, 0, none⟩ = some (.int .i64 a0_0) ∧ w'.cell? ⟨gb415, 1, none⟩ = some (.int .i64 a0_1) ∧ w'.cell? ⟨gb415, 2, none⟩ = some (.slice Ao24 x416002_1.length co24) ∧ w'.cell? ⟨gb417, 0, none⟩ = some (.slice A416_0 ((rd_T75 l0_2 x4_1).f0).length c416_0) ∧ w'.cell? ⟨gb417, 1, none⟩ = some (.slice A416_1 ((rd_T75 l0_2 x4_1).f1).length c416_1) ∧ w'.cell? ⟨gb417, 2, none⟩ = some (.slice A416_2 ((rd_T75 l0_2 x4_1).f2).length c416_2)) ∧ (Kd.R (Kd.int .i64) 3 w' w.heap.size (fun k_ => some k_ ≠ (s_.2 : Value).ownBlock) s_.1 y418) ∧ (Kd.R (Kd.int .i64) 3 w' w.heap.size (fun k_ => some k_ ≠ (s_.1 : Value).ownBlock) s_.2 y430) ∧ (Kd.S k75 75 w' w.heap.size (fun k_ => some k_ ≠ (s_.1 : Value).ownBlock ∧ some k_ ≠ (s_.2 : Value).ownBlock ∧ k_ ≠ gb417) (.slice Ao24 x416002_1.length co24) x416002_1) ∧ (w'.heap[gb413]? = some (.cells #[.int .i64 a0_0, .int .i64 a0_1, .slice (some ad416) l0_2.length c0_2] 43 (0, 0))) ∧ (w'.heap[gb414]? = some (.cells #[.int .i64 0, .int .i64 0, .slice none 0 0] 43 (0, 0))) ∧ (w'.heap[gb415]? = some (.cells #[.int .i64 a0_0, .int .i64 a0_1, .slice Ao24 x416002_1.length co24] 43 (0, 0))) ∧ (w'.heap[gb417]? = some (.cells #[.slice A416_0 ((rd_T75 l0_2 x4_1).f0).length c416_0, .slice A416_1 ((rd_T75 l0_2 x4_1).f1).length c416_1, .slice A416_2 ((rd_T75 l0_2 x4_1).f2).length c416_2] 75 (0, 0))) ∧ (Below w.heap.size w w')) ?_ ?_
                 rotate_left
                 ·intro hJ2_10
                  refine join_ (σ := Value × Value) 9 #[true, true, false, true, true, false, true, true, true, false, true, true, true, false, false, false, false, false, false] (fun s_ => [(29, s_.1), (33, s_.2)]) (fun s_ w' => (w'.cell? ⟨gb415, 0, none⟩ = some (.int .i64 a0_0) ∧ w'.cell? ⟨gb415, 1, none⟩ = some (.int .i64 a0_1) ∧ w'.cell? ⟨gb415, 2, none⟩ = some (.slice Ao24 x416002_1.length co24) ∧ w'.cell? ⟨gb417, 0, none⟩ = some (.slice A416_0 ((rd_T75 l0_2 x4_1).f0).length c416_0) ∧ w'.cell? ⟨gb417, 1, none⟩ = some (.slice A416_1 ((rd_T75 l0_2 x4_1).f1).length c416_1) ∧ w'.cell? ⟨gb417, 2, none⟩ = some (.slice A416_2 ((rd_T75 l0_2 x4_1).f2).length c416_2)) ∧ (Kd.R (Kd.int .i64) 3 w' w.heap.size (fun k_ => some k_ ≠ (s_.2 : Value).ownBlock) s_.1 y424) ∧ (Kd.R (Kd.int .i64) 3 w' w.heap.size (fun k_ => some k_ ≠ (s_.1 : Value).ownBlock) s_.2 y430) ∧ (Kd.S k75 75 w' w.heap.size (fun k_ => some k_ ≠ (s_.1 : Value).ownBlock ∧ some k_ ≠ (s_.2 : Value).ownBlock ∧ k_ ≠ gb417) (.slice Ao24 x416002_1.length co24) x416002_1) ∧ (w'.heap[gb413]? = some (.cells #[.int .i64 a0_0, .int .i64 a0_1, .slice (some ad416) l0_2.length c0_2] 43 (0, 0))) ∧ (w'.heap[gb414]? = some (.cells #[.int .i64 0, .int .i64 0, .slice none 0 0] 43 (0, 0))) ∧ (w'.heap[gb415]? = some (.cells #[.int .i64 a0_0, .int .i64 a0_1, .slice Ao24 x416002_1.length co24] 43 (0, 0))) ∧ (w'.heap[gb417]? = some (.cells #[.slice A416_0 ((rd_T75 l0_2 x4_1).f0).length c416_0, .slice A416_1 ((rd_T75 l0_2 x4_1).f1).length c416_1, .slice A416_2 ((rd_T75 l0_2 x4_1).f2).length c416_2] 75 (0, 0))) ∧ (Below w.heap.size w w')) ?_ ?_
                  rotate_left
                  ·intro hJ6_10
                   refine join_ (σ := Value) 10 #[true, true, true, true, true, false, false, true, true, false, false, true, true, false, false, false, false, false, false] (fun s_ => [(25, s_)]) (fun s_ w' => (w'.cell? ⟨gb415, 0, none⟩ = some (.int .i64 a0_0) ∧ w'.cell? ⟨gb415, 1, none⟩ = some (.int .i64 a0_1) ∧ w'.cell? ⟨gb415, 2, none⟩ = some (.slice Ao24 x416002_1.length co24) ∧ w'.cell? ⟨gb417, 0, none⟩ = some (.slice A416_0 ((rd_T75 l0_2 x4_1).f0).length c416_0) ∧ w'.cell? ⟨gb417, 1, none⟩ = some (.slice A416_1 ((rd_T75 l0_2 x4_1).f1).length c416_1) ∧ w'.cell? ⟨gb417, 2, none⟩ = some (.slice A416_2 ((rd_T75 l0_2 x4_1).f2).length c416_2)) ∧ (Kd.R (Kd.int .i64) 3 w' w.heap.size (fun _ => True) s_ y418) ∧ (Kd.S k75 75 w' w.heap.size (fun k_ => some k_ ≠ (s_ : Value).ownBlock ∧ k_ ≠ gb417) (.slice Ao24 x416002_1.length co24) x416002_1) ∧ (w'.heap[gb413]? = some (.cells #[.int .i64 a0_0, .int .i64 a0_1, .slice (some ad416) l0_2.length c0_2] 43 (0, 0))) ∧ (w'.heap[gb414]? = some (.cells #[.int .i64 0, .int .i64 0, .slice none 0 0] 43 (0, 0))) ∧ (w'.heap[gb415]? = some (.cells #[.int .i64 a0_0, .int .i64 a0_1, .slice Ao24 x416002_1.length co24] 43 (0, 0))) ∧ (w'.heap[gb417]? = some (.cells #[.slice A416_0 ((rd_T75 l0_2 x4_1).f0).length c416_0, .slice A416_1 ((rd_T75 l0_2 x4_1).f1).length c416_1, .slice A416_2 ((rd_T75 l0_2 x4_1).f2).length c416_2] 75 (0, 0))) ∧ (Below w.heap.size w w')) ?_ ?_
                   rotate_left
                   ·intro hJ2
                    refine join_ (σ := Value) 10 #[true, true, false, true, true, false, true, true, true, false, false, true, true, false, false, false, false, false, false] (fun s_ => [(29, s_)]) (fun s_ w' => (w'.cell? ⟨gb415, 0, none⟩ = some (.int .i64 a0_0) ∧ w'.cell? ⟨gb415, 1, none⟩ = some (.int .i64 a0_1) ∧ w'.cell? ⟨gb415, 2, none⟩ = some (.slice Ao24 x416002_1.length co24) ∧ w'.cell? ⟨gb417, 0, none⟩ = some (.slice A416_0 ((rd_T75 l0_2 x4_1).f0).length c416_0) ∧ w'.cell? ⟨gb417, 1, none⟩ = some (.slice A416_1 ((rd_T75 l0_2 x4_1).f1).length c416_1) ∧ w'.cell? ⟨gb417, 2, none⟩ = some (.slice A416_2 ((rd_T75 l0_2 x4_1).f2).length c416_2)) ∧ (Kd.R (Kd.int .i64) 3 w' w.heap.size (fun _ => True) s_ y424) ∧ (Kd.S k75 75 w' w.heap.size (fun k_ => some k_ ≠ (s_ : Value).ownBlock ∧ k_ ≠ gb417) (.slice Ao24 x416002_1.length co24) x416002_1) ∧ (w'.heap[gb413]? = some (.cells #[.int .i64 a0_0, .int .i64 a0_1, .slice (some ad416) l0_2.length c0_2] 43 (0, 0))) ∧ (w'.heap[gb414]? = some (.cells #[.int .i64 0, .int .i64 0, .slice none 0 0] 43 (0, 0))) ∧ (w'.heap[gb415]? = some (.cells #[.int .i64 a0_0, .int .i64 a0_1, .slice Ao24 x416002_1.length co24] 43 (0, 0))) ∧ (w'.heap[gb417]? = some (.cells #[.slice A416_0 ((rd_T75 l0_2 x4_1).f0).length c416_0, .slice A416_1 ((rd_T75 l0_2 x4_1).f1).length c416_1, .slice A416_2 ((rd_T75 l0_2 x4_1).f2).length c416_2] 75 (0, 0))) ∧ (Below w.heap.size w w')) ?_ ?_
                    rotate_left
                    ·intro hJ6
                     refine join_ (σ := Value) 10 #[true, true, false, true, true, false, false, true, true, false, true, true, true, false, false, false, false, false, false] (fun s_ => [(33, s_)]) (fun s_ w' => (w'.cell? ⟨gb415, 0, none⟩ = some (.int .i64 a0_0) ∧ w'.cell? ⟨gb415, 1, none⟩ = some (.int .i64 a0_1) ∧ w'.cell? ⟨gb415, 2, none⟩ = some (.slice Ao24 x416002_1.length co24) ∧ w'.cell? ⟨gb417, 0, none⟩ = some (.slice A416_0 ((rd_T75 l0_2 x4_1).f0).length c416_0) ∧ w'.cell? ⟨gb417, 1, none⟩ = some (.slice A416_1 ((rd_T75 l0_2 x4_1).f1).length c416_1) ∧ w'.cell? ⟨gb417, 2, none⟩ = some (.slice A416_2 ((rd_T75 l0_2 x4_1).f2).length c416_2)) ∧ (Kd.R (Kd.int .i64) 3 w' w.heap.size (fun _ => True) s_ y430) ∧ (Kd.S k75 75 w' w.heap.size (fun k_ => some k_ ≠ (s_ : Value).ownBlock ∧ k_ ≠ gb417) (.slice Ao24 x416002_1.length co24) x416002_1) ∧ (w'.heap[gb413]? = some (.cells #[.int .i64 a0_0, .int .i64 a0_1, .slice (some ad416) l0_2.length c0_2] 43 (0, 0))) ∧ (w'.heap[gb414]? = some (.cells #[.int .i64 0, .int .i64 0, .slice none 0 0] 43 (0, 0))) ∧ (w'.heap[gb415]? = some (.cells #[.int .i64 a0_0, .int .i64 a0_1, .slice Ao24 x416002_1.length co24] 43 (0, 0))) ∧ (w'.heap[gb417]? = some (.cells #[.slice A416_0 ((rd_T75 l0_2 x4_1).f0).length c416_0, .slice A416_1 ((rd_T75 l0_2 x4_1).f1).length c416_1, .slice A416_2 ((rd_T75 l0_2 x4_1).f2).length c416_2] 75 (0, 0))) ∧ (Below w.heap.size w w')) ?_ ?_
                     rotate_left
                     ·intro hJ10
                      refine three_ (i := 2) (j := 6) (k := 10) (Ni := some 25) (Nj := some 29) (Nk := some 33) #[true, true, true, true, true, false, false, true, true, false, false, true, true, false, false, false, false, false, false] #[true, true, false, true, true, false, true, true, true, false, false, true, true, false, false, false, false, false, false] #[true, true, false, true, true, false, false, true, true, false, true, true, true, false, false, false, false, false, false] rfl rfl rfl rfl rfl rfl (three_of HT_.out (by kernel_rfl)) (by decide) (by decide) (by decide) (fun K hK => ?_) (fun K hK => ?_) (fun K hK => ?_)
                      ·skip
                       refine Kd.R_lit_step (Kd.int .i64) _ 3 ?hg (N := 25) ?hd (xs := ([] : List Int)) (inner := []) (ok := fun _ => True) (okp := fun _ => True) ?hr ?hp (fun _ hk => hk) trivial (Below.refl _ _) (Nat.le_refl _) (by simp) ?_; (case hd => rfl); (case hg => rfl); (case hr => first | (go_simp; done) | (go_simp; rfl)); (case hp => exact (Reps.none _ _))
                       intro v419 w27 ho28 hb hg_ hnew_
                       clear hg_ hnew_
                       (first | rw [← Ny418.out] at ho28 | (simp only [Int.reduceToNat] at ho28; rw [← Ny418.out] at ho28))
                       replace HO_416002 := Aside0.mk (Kd.S_elder' (by (with_reducible repeat (first | apply Kd.S_alloc | apply Kd.S_drewN | apply Kd.S_drew)); exact HO_416002.out) (Kd.R_base ho28) hb)
                       have HO420 := Aside0.mk (Kd.R_lower ho28 (below_size (bZ HB)))
                       replace BK413 := bB BK413 hb
                       replace BK414 := bB BK414 hb
                       replace BK415 := bB BK415 hb
                       replace BK417 := bB BK417 hb
                       replace HB := bS HB hb
                       clear hb ho28
                       refine hK.out _ _ (bS3 BK415 (bT3 BK417)) (fun hHeld => ?_)
                       clear hK K
                       refine nO (some 25) ?_
                       exact norm_ (by first | (simp only [putAll, Act.put, List.setIfInBounds_toArray, List.set_cons_zero, List.set_cons_succ]; done) | (simp only [putAll, Act.put, List.setIfInBounds_toArray, List.set_cons_zero, List.set_cons_succ]; rfl)) (hJ2 (v419) _ ⟨hHeld, (rP HO420), (by (with_reducible repeat (first | apply Kd.S_alloc | apply Kd.S_drewN | apply Kd.S_drew)); exact Kd.S_mono HO_416002.out (fun _ hk => ⟨hk.2, hk.1⟩)), (bP BK413), (bP BK414), (bP BK415), (bP BK417), (bZ HB)⟩)
                      ·skip
                       refine Kd.R_lit_step (Kd.int .i64) _ 3 ?hg (N := 29) ?hd (xs := ([] : List Int)) (inner := []) (ok := fun _ => True) (okp := fun _ => True) ?hr ?hp (fun _ hk => hk) trivial (Below.refl _ _) (Nat.le_refl _) (by simp) ?_; (case hd => rfl); (case hg => rfl); (case hr => first | (go_simp; done) | (go_simp; rfl)); (case hp => exact (Reps.none _ _))
                       intro v425 w27 ho28 hb hg_ hnew_
                       clear hg_ hnew_
                       (first | rw [← Ny424.out] at ho28 | (simp only [Int.reduceToNat] at ho28; rw [← Ny424.out] at ho28))
                       replace HO_416002 := Aside0.mk (Kd.S_elder' (by (with_reducible repeat (first | apply Kd.S_alloc | apply Kd.S_drewN | apply Kd.S_drew)); exact HO_416002.out) (Kd.R_base ho28) hb)
                       have HO426 := Aside0.mk (Kd.R_lower ho28 (below_size (bZ HB)))
                       replace BK413 := bB BK413 hb
                       replace BK414 := bB BK414 hb
                       replace BK415 := bB BK415 hb
                       replace BK417 := bB BK417 hb
                       replace HB := bS HB hb
                       clear hb ho28
                       refine hK.out _ _ (bS3 BK415 (bT3 BK417)) (fun hHeld => ?_)
                       clear hK K
                       refine nO (some 29) ?_
                       exact norm_ (by first | (simp only [putAll, Act.put, List.setIfInBounds_toArray, List.set_cons_zero, List.set_cons_succ]; done) | (simp only [putAll, Act.put, List.setIfInBounds_toArray, List.set_cons_zero, List.set_cons_succ]; rfl)) (hJ6 (v425) _ ⟨hHeld, (rP HO426), (by (with_reducible repeat (first | apply Kd.S_alloc | apply Kd.S_drewN | apply Kd.S_drew)); exact Kd.S_mono HO_416002.out (fun _ hk => ⟨hk.2, hk.1⟩)), (bP BK413), (bP BK414), (bP BK415), (bP BK417), (bZ HB)⟩)
                      ·skip
                       refine Kd.R_lit_step (Kd.int .i64) _ 3 ?hg (N := 33) ?hd (xs := ([] : List Int)) (inner := []) (ok := fun _ => True) (okp := fun _ => True) ?hr ?hp (fun _ hk => hk) trivial (Below.refl _ _) (Nat.le_refl _) (by simp) ?_; (case hd => rfl); (case hg => rfl); (case hr => first | (go_simp; done) | (go_simp; rfl)); (case hp => exact (Reps.none _ _))
                       intro v431 w27 ho28 hb hg_ hnew_
                       clear hg_ hnew_
                       (first | rw [← Ny430.out] at ho28 | (simp only [Int.reduceToNat] at ho28; rw [← Ny430.out] at ho28))
                       replace HO_416002 := Aside0.mk (Kd.S_elder' (by (with_reducible repeat (first | apply Kd.S_alloc | apply Kd.S_drewN | apply Kd.S_drew)); exact HO_416002.out) (Kd.R_base ho28) hb)
                       have HO432 := Aside0.mk (Kd.R_lower ho28 (below_size (bZ HB)))
                       replace BK413 := bB BK413 hb
                       replace BK414 := bB BK414 hb
                       replace BK415 := bB BK415 hb
                       replace BK417 := bB BK417 hb
                       replace HB := bS HB hb
                       clear hb ho28
                       refine hK.out _ _ (bS3 BK415 (bT3 BK417)) (fun hHeld => ?_)
                       clear hK K
                       refine nO (some 33) ?_
                       exact norm_ (by first | (simp only [putAll, Act.put, List.setIfInBounds_toArray, List.set_cons_zero, List.set_cons_succ]; done) | (simp only [putAll, Act.put, List.setIfInBounds_toArray, List.set_cons_zero, List.set_cons_succ]; rfl)) (hJ10 (v431) _ ⟨hHeld, (rP HO432), (by (with_reducible repeat (first | apply Kd.S_alloc | apply Kd.S_drewN | apply Kd.S_drew)); exact Kd.S_mono HO_416002.out (fun _ hk => ⟨hk.2, hk.1⟩)), (bP BK413), (bP BK414), (bP BK415), (bP BK417), (bZ HB)⟩)
                     ·skip
                      rintro v431 w29 ⟨hS_, h0_, h1_, h2_, h3_, h4_, h5_, h6_⟩
                      have HO432 : Aside0 (Kd.R (Kd.int .i64) 3 w29 w.heap.size (fun _ => True) v431 y430) := ⟨h0_⟩
                      replace HO_416002 : Aside0 (Kd.S k75 75 w29 w.heap.size (fun k_ => some k_ ≠ (v431 : Value).ownBlock ∧ k_ ≠ gb417) (.slice Ao24 x416002_1.length co24) x416002_1) := ⟨h1_⟩
                      replace BK413 : Aside0 (w29.heap[gb413]? = some (.cells #[.int .i64 a0_0, .int .i64 a0_1, .slice (some ad416) l0_2.length c0_2] 43 (0, 0))) := ⟨h2_⟩
                      replace BK414 : Aside0 (w29.heap[gb414]? = some (.cells #[.int .i64 0, .int .i64 0, .slice none 0 0] 43 (0, 0))) := ⟨h3_⟩
                      replace BK415 : Aside0 (w29.heap[gb415]? = some (.cells #[.int .i64 a0_0, .int .i64 a0_1, .slice Ao24 x416002_1.length co24] 43 (0, 0))) := ⟨h4_⟩
                      replace BK417 : Aside0 (w29.heap[gb417]? = some (.cells #[.slice A416_0 ((rd_T75 l0_2 x4_1).f0).length c416_0, .slice A416_1 ((rd_T75 l0_2 x4_1).f1).length c416_1, .slice A416_2 ((rd_T75 l0_2 x4_1).f2).length c416_2] 75 (0, 0))) := ⟨h5_⟩
                      replace HB : Aside0 (Below w.heap.size w w29) := ⟨h6_⟩
                      clear h0_ h1_ h2_ h3_ h4_ h5_ h6_
                      have hHeld : w29.cell? ⟨gb415, 0, none⟩ = some (.int .i64 a0_0) ∧ w29.cell? ⟨gb415, 1, none⟩ = some (.int .i64 a0_1) ∧ w29.cell? ⟨gb415, 2, none⟩ = some (.slice Ao24 x416002_1.length co24) ∧ w29.cell? ⟨gb417, 0, none⟩ = some (.slice A416_0 ((rd_T75 l0_2 x4_1).f0).length c416_0) ∧ w29.cell? ⟨gb417, 1, none⟩ = some (.slice A416_1 ((rd_T75 l0_2 x4_1).f1).length c416_1) ∧ w29.cell? ⟨gb417, 2, none⟩ = some (.slice A416_2 ((rd_T75 l0_2 x4_1).f2).length c416_2) := hS_
                      refine norm_ (a' := ?_) ?_ ?_
                      rotate_left
                      ·simp only [putAll, Act.put, List.setIfInBounds_toArray, List.set_cons_zero, List.set_cons_succ]
                       rfl
                      refine two_ (i := 2) (j := 6) (Ni := some 25) (Nj := some 29) #[true, true, true, true, true, false, false, true, true, false, true, true, true, false, false, false, false, false, false] #[true, true, false, true, true, false, true, true, true, false, true, true, true, false, false, false, false, false, false] rfl rfl rfl rfl (two_of HT_.out (by kernel_rfl)) (by decide) (by decide) (fun K hK => ?_) (fun K hK => ?_)
                      ·skip
                       refine Kd.R_lit_step (Kd.int .i64) _ 3 ?hg (N := 25) ?hd (xs := ([] : List Int)) (inner := []) (ok := fun _ => True) (okp := fun _ => True) ?hr ?hp (fun _ hk => hk) trivial (Below.refl _ _) (Nat.le_refl _) (by simp) ?_; (case hd => rfl); (case hg => rfl); (case hr => first | (go_simp; done) | (go_simp; rfl)); (case hp => exact (Reps.none _ _))
                       intro v419 w30 ho31 hb hg_ hnew_
                       clear hg_ hnew_
                       (first | rw [← Ny418.out] at ho31 | (simp only [Int.reduceToNat] at ho31; rw [← Ny418.out] at ho31))
                       replace HO_416002 := Aside0.mk (Kd.S_elder' (by (with_reducible repeat (first | apply Kd.S_alloc | apply Kd.S_drewN | apply Kd.S_drew)); exact HO_416002.out) (Kd.R_base ho31) hb)
                       have HO420 := Aside0.mk (Kd.R_lower (Kd.R_new' ho31 (Kd.R_lt (rP HO432))) (below_size (bZ HB)))
                       replace HO432 := Aside0.mk (Kd.R_elder' (rP HO432) (Kd.R_base ho31) hb)
                       replace BK413 := bB BK413 hb
                       replace BK414 := bB BK414 hb
                       replace BK415 := bB BK415 hb
                       replace BK417 := bB BK417 hb
                       replace HB := bS HB hb
                       clear hb ho31
                       refine hK.out _ _ (bS3 BK415 (bT3 BK417)) (fun hHeld => ?_)
                       clear hK K
                       refine nO (some 25) ?_
                       exact norm_ (by first | (simp only [putAll, Act.put, List.setIfInBounds_toArray, List.set_cons_zero, List.set_cons_succ]; done) | (simp only [putAll, Act.put, List.setIfInBounds_toArray, List.set_cons_zero, List.set_cons_succ]; rfl)) (hJ2_10 (v419, v431) _ ⟨hHeld, (by (with_reducible repeat (first | apply Kd.R_alloc | apply Kd.R_drewN | apply Kd.R_drew)); exact Kd.R_mono HO420.out (fun _ hk => hk.2)), (by (with_reducible repeat (first | apply Kd.R_alloc | apply Kd.R_drewN | apply Kd.R_drew)); exact Kd.R_mono HO432.out (fun _ hk => hk.2)), (by (with_reducible repeat (first | apply Kd.S_alloc | apply Kd.S_drewN | apply Kd.S_drew)); exact Kd.S_mono HO_416002.out (fun _ hk => ⟨hk.2, ⟨hk.1.1, hk.1.2⟩⟩)), (bP BK413), (bP BK414), (bP BK415), (bP BK417), (bZ HB)⟩)
                      ·skip
                       refine Kd.R_lit_step (Kd.int .i64) _ 3 ?hg (N := 29) ?hd (xs := ([] : List Int)) (inner := []) (ok := fun _ => True) (okp := fun _ => True) ?hr ?hp (fun _ hk => hk) trivial (Below.refl _ _) (Nat.le_refl _) (by simp) ?_; (case hd => rfl); (case hg => rfl); (case hr => first | (go_simp; done) | (go_simp; rfl)); (case hp => exact (Reps.none _ _))
                       intro v425 w30 ho31 hb hg_ hnew_
                       clear hg_ hnew_
                       (first | rw [← Ny424.out] at ho31 | (simp only [Int.reduceToNat] at ho31; rw [← Ny424.out] at ho31))
                       replace HO_416002 := Aside0.mk (Kd.S_elder' (by (with_reducible repeat (first | apply Kd.S_alloc | apply Kd.S_drewN | apply Kd.S_drew)); exact HO_416002.out) (Kd.R_base ho31) hb)
                       have HO426 := Aside0.mk (Kd.R_lower (Kd.R_new' ho31 (Kd.R_lt (rP HO432))) (below_size (bZ HB)))
                       replace HO432 := Aside0.mk (Kd.R_elder' (rP HO432) (Kd.R_base ho31) hb)
                       replace BK413 := bB BK413 hb
                       replace BK414 := bB BK414 hb
                       replace BK415 := bB BK415 hb
                       replace BK417 := bB BK417 hb
                       replace HB := bS HB hb
                       clear hb ho31
                       refine hK.out _ _ (bS3 BK415 (bT3 BK417)) (fun hHeld => ?_)
                       clear hK K
                       refine nO (some 29) ?_
                       exact norm_ (by first | (simp only [putAll, Act.put, List.setIfInBounds_toArray, List.set_cons_zero, List.set_cons_succ]; done) | (simp only [putAll, Act.put, List.setIfInBounds_toArray, List.set_cons_zero, List.set_cons_succ]; rfl)) (hJ6_10 (v425, v431) _ ⟨hHeld, (by (with_reducible repeat (first | apply Kd.R_alloc | apply Kd.R_drewN | apply Kd.R_drew)); exact Kd.R_mono HO426.out (fun _ hk => hk.2)), (by (with_reducible repeat (first | apply Kd.R_alloc | apply Kd.R_drewN | apply Kd.R_drew)); exact Kd.R_mono HO432.out (fun _ hk => hk.2)), (by (with_reducible repeat (first | apply Kd.S_alloc | apply Kd.S_drewN | apply Kd.S_drew)); exact Kd.S_mono HO_416002.out (fun _ hk => ⟨hk.2, ⟨hk.1.1, hk.1.2⟩⟩)), (bP BK413), (bP BK414), (bP BK415), (bP BK417), (bZ HB)⟩)
                    ·skip
                     rintro v425 w29 ⟨hS_, h0_, h1_, h2_, h3_, h4_, h5_, h6_⟩
                     have HO426 : Aside0 (Kd.R (Kd.int .i64) 3 w29 w.heap.size (fun _ => True) v425 y424) := ⟨h0_⟩
                     replace HO_416002 : Aside0 (Kd.S k75 75 w29 w.heap.size (fun k_ => some k_ ≠ (v425 : Value).ownBlock ∧ k_ ≠ gb417) (.slice Ao24 x416002_1.length co24) x416002_1) := ⟨h1_⟩
                     replace BK413 : Aside0 (w29.heap[gb413]? = some (.cells #[.int .i64 a0_0, .int .i64 a0_1, .slice (some ad416) l0_2.length c0_2] 43 (0, 0))) := ⟨h2_⟩
                     replace BK414 : Aside0 (w29.heap[gb414]? = some (.cells #[.int .i64 0, .int .i64 0, .slice none 0 0] 43 (0, 0))) := ⟨h3_⟩
                     replace BK415 : Aside0 (w29.heap[gb415]? = some (.cells #[.int .i64 a0_0, .int .i64 a0_1, .slice Ao24 x416002_1.length co24] 43 (0, 0))) := ⟨h4_⟩
                     replace BK417 : Aside0 (w29.heap[gb417]? = some (.cells #[.slice A416_0 ((rd_T75 l0_2 x4_1).f0).length c416_0, .slice A416_1 ((rd_T75 l0_2 x4_1).f1).length c416_1, .slice A416_2 ((rd_T75 l0_2 x4_1).f2).length c416_2] 75 (0, 0))) := ⟨h5_⟩
                     replace HB : Aside0 (Below w.heap.size w w29) := ⟨h6_⟩
                     clear h0_ h1_ h2_ h3_ h4_ h5_ h6_
                     have hHeld : w29.cell? ⟨gb415, 0, none⟩ = some (.int .i64 a0_0) ∧ w29.cell? ⟨gb415, 1, none⟩ = some (.int .i64 a0_1) ∧ w29.cell? ⟨gb415, 2, none⟩ = some (.slice Ao24 x416002_1.length co24) ∧ w29.cell? ⟨gb417, 0, none⟩ = some (.slice A416_0 ((rd_T75 l0_2 x4_1).f0).length c416_0) ∧ w29.cell? ⟨gb417, 1, none⟩ = some (.slice A416_1 ((rd_T75 l0_2 x4_1).f1).length c416_1) ∧ w29.cell? ⟨gb417, 2, none⟩ = some (.slice A416_2 ((rd_T75 l0_2 x4_1).f2).length c416_2) := hS_
                     refine norm_ (a' := ?_) ?_ ?_
                     rotate_left
                     ·simp only [putAll, Act.put, List.setIfInBounds_toArray, List.set_cons_zero, List.set_cons_succ]
                      rfl
                     refine two_ (i := 2) (j := 10) (Ni := some 25) (Nj := some 33) #[true, true, true, true, true, false, true, true, true, false, false, true, true, false, false, false, false, false, false] #[true, true, false, true, true, false, true, true, true, false, true, true, true, false, false, false, false, false, false] rfl rfl rfl rfl (two_of HT_.out (by kernel_rfl)) (by decide) (by decide) (fun K hK => ?_) (fun K hK => ?_)
                     ·skip
                      refine Kd.R_lit_step (Kd.int .i64) _ 3 ?hg (N := 25) ?hd (xs := ([] : List Int)) (inner := []) (ok := fun _ => True) (okp := fun _ => True) ?hr ?hp (fun _ hk => hk) trivial (Below.refl _ _) (Nat.le_refl _) (by simp) ?_; (case hd => rfl); (case hg => rfl); (case hr => first | (go_simp; done) | (go_simp; rfl)); (case hp => exact (Reps.none _ _))
                      intro v419 w30 ho31 hb hg_ hnew_
                      clear hg_ hnew_
                      (first | rw [← Ny418.out] at ho31 | (simp only [Int.reduceToNat] at ho31; rw [← Ny418.out] at ho31))
                      replace HO_416002 := Aside0.mk (Kd.S_elder' (by (with_reducible repeat (first | apply Kd.S_alloc | apply Kd.S_drewN | apply Kd.S_drew)); exact HO_416002.out) (Kd.R_base ho31) hb)
                      have HO420 := Aside0.mk (Kd.R_lower (Kd.R_new' ho31 (Kd.R_lt (rP HO426))) (below_size (bZ HB)))
                      replace HO426 := Aside0.mk (Kd.R_elder' (rP HO426) (Kd.R_base ho31) hb)
                      replace BK413 := bB BK413 hb
                      replace BK414 := bB BK414 hb
                      replace BK415 := bB BK415 hb
                      replace BK417 := bB BK417 hb
                      replace HB := bS HB hb
                      clear hb ho31
                      refine hK.out _ _ (bS3 BK415 (bT3 BK417)) (fun hHeld => ?_)
                      clear hK K
                      refine nO (some 25) ?_
                      exact norm_ (by first | (simp only [putAll, Act.put, List.setIfInBounds_toArray, List.set_cons_zero, List.set_cons_succ]; done) | (simp only [putAll, Act.put, List.setIfInBounds_toArray, List.set_cons_zero, List.set_cons_succ]; rfl)) (hJ2_6 (v419, v425) _ ⟨hHeld, (by (with_reducible repeat (first | apply Kd.R_alloc | apply Kd.R_drewN | apply Kd.R_drew)); exact Kd.R_mono HO420.out (fun _ hk => hk.2)), (by (with_reducible repeat (first | apply Kd.R_alloc | apply Kd.R_drewN | apply Kd.R_drew)); exact Kd.R_mono HO426.out (fun _ hk => hk.2)), (by (with_reducible repeat (first | apply Kd.S_alloc | apply Kd.S_drewN | apply Kd.S_drew)); exact Kd.S_mono HO_416002.out (fun _ hk => ⟨hk.2, ⟨hk.1.1, hk.1.2⟩⟩)), (bP BK413), (bP BK414), (bP BK415), (bP BK417), (bZ HB)⟩)
                     ·skip
                      refine Kd.R_lit_step (Kd.int .i64) _ 3 ?hg (N := 33) ?hd (xs := ([] : List Int)) (inner := []) (ok := fun _ => True) (okp := fun _ => True) ?hr ?hp (fun _ hk => hk) trivial (Below.refl _ _) (Nat.le_refl _) (by simp) ?_; (case hd => rfl); (case hg => rfl); (case hr => first | (go_simp; done) | (go_simp; rfl)); (case hp => exact (Reps.none _ _))
                      intro v431 w30 ho31 hb hg_ hnew_
                      clear hg_ hnew_
                      (first | rw [← Ny430.out] at ho31 | (simp only [Int.reduceToNat] at ho31; rw [← Ny430.out] at ho31))
                      replace HO_416002 := Aside0.mk (Kd.S_elder' (by (with_reducible repeat (first | apply Kd.S_alloc | apply Kd.S_drewN | apply Kd.S_drew)); exact HO_416002.out) (Kd.R_base ho31) hb)
                      have HO432 := Aside0.mk (Kd.R_lower (Kd.R_new' ho31 (Kd.R_lt (rP HO426))) (below_size (bZ HB)))
                      replace HO426 := Aside0.mk (Kd.R_elder' (rP HO426) (Kd.R_base ho31) hb)
                      replace BK413 := bB BK413 hb
                      replace BK414 := bB BK414 hb
                      replace BK415 := bB BK415 hb
                      replace BK417 := bB BK417 hb
                      replace HB := bS HB hb
                      clear hb ho31
                      refine hK.out _ _ (bS3 BK415 (bT3 BK417)) (fun hHeld => ?_)
                      clear hK K
                      refine nO (some 33) ?_
                      exact norm_ (by first | (simp only [putAll, Act.put, List.setIfInBounds_toArray, List.set_cons_zero, List.set_cons_succ]; done) | (simp only [putAll, Act.put, List.setIfInBounds_toArray, List.set_cons_zero, List.set_cons_succ]; rfl)) (hJ6_10 (v425, v431) _ ⟨hHeld, (by (with_reducible repeat (first | apply Kd.R_alloc | apply Kd.R_drewN | apply Kd.R_drew)); exact Kd.R_mono HO426.out (fun _ hk => hk.2)), (by (with_reducible repeat (first | apply Kd.R_alloc | apply Kd.R_drewN | apply Kd.R_drew)); exact Kd.R_mono HO432.out (fun _ hk => hk.2)), (by (with_reducible repeat (first | apply Kd.S_alloc | apply Kd.S_drewN | apply Kd.S_drew)); exact Kd.S_mono HO_416002.out (fun _ hk => ⟨hk.1.1, ⟨hk.2, hk.1.2⟩⟩)), (bP BK413), (bP BK414), (bP BK415), (bP BK417), (bZ HB)⟩)
                   ·skip
                    rintro v419 w29 ⟨hS_, h0_, h1_, h2_, h3_, h4_, h5_, h6_⟩
                    have HO420 : Aside0 (Kd.R (Kd.int .i64) 3 w29 w.heap.size (fun _ => True) v419 y418) := ⟨h0_⟩
                    replace HO_416002 : Aside0 (Kd.S k75 75 w29 w.heap.size (fun k_ => some k_ ≠ (v419 : Value).ownBlock ∧ k_ ≠ gb417) (.slice Ao24 x416002_1.length co24) x416002_1) := ⟨h1_⟩
                    replace BK413 : Aside0 (w29.heap[gb413]? = some (.cells #[.int .i64 a0_0, .int .i64 a0_1, .slice (some ad416) l0_2.length c0_2] 43 (0, 0))) := ⟨h2_⟩
                    replace BK414 : Aside0 (w29.heap[gb414]? = some (.cells #[.int .i64 0, .int .i64 0, .slice none 0 0] 43 (0, 0))) := ⟨h3_⟩
                    replace BK415 : Aside0 (w29.heap[gb415]? = some (.cells #[.int .i64 a0_0, .int .i64 a0_1, .slice Ao24 x416002_1.length co24] 43 (0, 0))) := ⟨h4_⟩
                    replace BK417 : Aside0 (w29.heap[gb417]? = some (.cells #[.slice A416_0 ((rd_T75 l0_2 x4_1).f0).length c416_0, .slice A416_1 ((rd_T75 l0_2 x4_1).f1).length c416_1, .slice A416_2 ((rd_T75 l0_2 x4_1).f2).length c416_2] 75 (0, 0))) := ⟨h5_⟩
                    replace HB : Aside0 (Below w.heap.size w w29) := ⟨h6_⟩
                    clear h0_ h1_ h2_ h3_ h4_ h5_ h6_
                    have hHeld : w29.cell? ⟨gb415, 0, none⟩ = some (.int .i64 a0_0) ∧ w29.cell? ⟨gb415, 1, none⟩ = some (.int .i64 a0_1) ∧ w29.cell? ⟨gb415, 2, none⟩ = some (.slice Ao24 x416002_1.length co24) ∧ w29.cell? ⟨gb417, 0, none⟩ = some (.slice A416_0 ((rd_T75 l0_2 x4_1).f0).length c416_0) ∧ w29.cell? ⟨gb417, 1, none⟩ = some (.slice A416_1 ((rd_T75 l0_2 x4_1).f1).length c416_1) ∧ w29.cell? ⟨gb417, 2, none⟩ = some (.slice A416_2 ((rd_T75 l0_2 x4_1).f2).length c416_2) := hS_
                    refine norm_ (a' := ?_) ?_ ?_
                    rotate_left
                    ·simp only [putAll, Act.put, List.setIfInBounds_toArray, List.set_cons_zero, List.set_cons_succ]
                     rfl
                    refine three_ (i := 5) (j := 6) (k := 10) (Ni := some 28) (Nj := some 29) (Nk := some 33) #[true, true, true, true, true, true, false, true, true, false, false, true, true, false, false, false, false, false, false] #[true, true, true, true, true, false, true, true, true, false, false, true, true, false, false, false, false, false, false] #[true, true, true, true, true, false, false, true, true, false, true, true, true, false, false, false, false, false, false] rfl rfl rfl rfl rfl rfl (three_of HT_.out (by kernel_rfl)) (by decide) (by decide) (by decide) (fun K hK => ?_) (fun K hK => ?_) (fun K hK => ?_)
                    ·skip
                     refine Kd.R_append_rows_step (Kd.int .i64) (w0 := w) w.heap.size (by rfl) (.tmp 25) (.tmp 27) 31 3 (.int .i64 0) 8 rfl Try.underlying31 info3 rfl (by decide) (by omega) v419 y418 ((rd_T75 l0_2 x4_1).f0) _ _ _ (fun _ => True) (fun _ => False) rfl rfl ?aO ?aR (fun _ _ h => h) (fun _ h => h.elim) ?aF ?aB ?aS ?aL ?_
                     (case aR => exact cP (Kd.C_below HR416_0.out HB.out))
                     (case aB => exact (bZ HB))
                     (case aF => exact (fun _ _ => trivial))
                     (case aO => exact (rP HO420))
                     (case aS => exact (below_size (bZ HB)))
                     (case aL => have := LMc12.out; omega)
                     intro v422 w30 ho hb hg hat
                     rw [← Ny421.out] at ho
                     replace HO_416002 := Aside0.mk (Kd.S_after (ok := (fun k_ => k_ ≠ gb417)) (by (with_reducible repeat (first | apply Kd.S_alloc | apply Kd.S_drewN | apply Kd.S_drew)); exact Kd.S_mono HO_416002.out (fun _ hk => ⟨hk.2, hk.1⟩)) hg hat)
                     replace BK413 := Aside0.mk (blk_grown (bP BK413) hg (Kd.R_ne HO420.out BK413.out (by decide)))
                     replace BK414 := Aside0.mk (blk_grown (bP BK414) hg (Kd.R_ne HO420.out BK414.out (by decide)))
                     replace BK415 := Aside0.mk (blk_grown (bP BK415) hg (Kd.R_ne HO420.out BK415.out (by decide)))
                     replace BK417 := Aside0.mk (blk_grown (bP BK417) hg (Kd.R_ne HO420.out BK417.out (by decide)))
                     replace HB := Aside0.mk (hb)
                     have HO423 := Aside0.mk (ho)
                     clear HO420
                     clear ho hb hg hat
                     refine hK.out _ _ (bS3 BK415 (bT3 BK417)) (fun hHeld => ?_)
                     clear hK K
                     refine nO (some 28) ?_
                     exact norm_ (by first | (simp only [putAll, Act.put, List.setIfInBounds_toArray, List.set_cons_zero, List.set_cons_succ]; done) | (simp only [putAll, Act.put, List.setIfInBounds_toArray, List.set_cons_zero, List.set_cons_succ]; rfl)) (hJ2_5 (v419, v422) _ ⟨hHeld, (rP HO423), (by (with_reducible repeat (first | apply Kd.S_alloc | apply Kd.S_drewN | apply Kd.S_drew)); exact Kd.S_mono HO_416002.out (fun _ hk => ⟨hk.2, hk.1⟩)), (bP BK413), (bP BK414), (bP BK415), (bP BK417), (bZ HB)⟩)
                    ·skip
                     refine Kd.R_lit_step (Kd.int .i64) _ 3 ?hg (N := 29) ?hd (xs := ([] : List Int)) (inner := []) (ok := fun _ => True) (okp := fun _ => True) ?hr ?hp (fun _ hk => hk) trivial (Below.refl _ _) (Nat.le_refl _) (by simp) ?_; (case hd => rfl); (case hg => rfl); (case hr => first | (go_simp; done) | (go_simp; rfl)); (case hp => exact (Reps.none _ _))
                     intro v425 w30 ho31 hb hg_ hnew_
                     clear hg_ hnew_
                     (first | rw [← Ny424.out] at ho31 | (simp only [Int.reduceToNat] at ho31; rw [← Ny424.out] at ho31))
                     replace HO_416002 := Aside0.mk (Kd.S_elder' (by (with_reducible repeat (first | apply Kd.S_alloc | apply Kd.S_drewN | apply Kd.S_drew)); exact HO_416002.out) (Kd.R_base ho31) hb)
                     have HO426 := Aside0.mk (Kd.R_lower (Kd.R_new' ho31 (Kd.R_lt (rP HO420))) (below_size (bZ HB)))
                     replace HO420 := Aside0.mk (Kd.R_elder' (rP HO420) (Kd.R_base ho31) hb)
                     replace BK413 := bB BK413 hb
                     replace BK414 := bB BK414 hb
                     replace BK415 := bB BK415 hb
                     replace BK417 := bB BK417 hb
                     replace HB := bS HB hb
                     clear hb ho31
                     refine hK.out _ _ (bS3 BK415 (bT3 BK417)) (fun hHeld => ?_)
                     clear hK K
                     refine nO (some 29) ?_
                     exact norm_ (by first | (simp only [putAll, Act.put, List.setIfInBounds_toArray, List.set_cons_zero, List.set_cons_succ]; done) | (simp only [putAll, Act.put, List.setIfInBounds_toArray, List.set_cons_zero, List.set_cons_succ]; rfl)) (hJ2_6 (v419, v425) _ ⟨hHeld, (by (with_reducible repeat (first | apply Kd.R_alloc | apply Kd.R_drewN | apply Kd.R_drew)); exact Kd.R_mono HO420.out (fun _ hk => hk.2)), (by (with_reducible repeat (first | apply Kd.R_alloc | apply Kd.R_drewN | apply Kd.R_drew)); exact Kd.R_mono HO426.out (fun _ hk => hk.2)), (by (with_reducible repeat (first | apply Kd.S_alloc | apply Kd.S_drewN | apply Kd.S_drew)); exact Kd.S_mono HO_416002.out (fun _ hk => ⟨hk.1.1, ⟨hk.2, hk.1.2⟩⟩)), (bP BK413), (bP BK414), (bP BK415), (bP BK417), (bZ HB)⟩)
                    ·skip
                     refine Kd.R_lit_step (Kd.int .i64) _ 3 ?hg (N := 33) ?hd (xs := ([] : List Int)) (inner := []) (ok := fun _ => True) (okp := fun _ => True) ?hr ?hp (fun _ hk => hk) trivial (Below.refl _ _) (Nat.le_refl _) (by simp) ?_; (case hd => rfl); (case hg => rfl); (case hr => first | (go_simp; done) | (go_simp; rfl)); (case hp => exact (Reps.none _ _))
                     intro v431 w30 ho31 hb hg_ hnew_
                     clear hg_ hnew_
                     (first | rw [← Ny430.out] at ho31 | (simp only [Int.reduceToNat] at ho31; rw [← Ny430.out] at ho31))
                     replace HO_416002 := Aside0.mk (Kd.S_elder' (by (with_reducible repeat (first | apply Kd.S_alloc | apply Kd.S_drewN | apply Kd.S_drew)); exact HO_416002.out) (Kd.R_base ho31) hb)
                     have HO432 := Aside0.mk (Kd.R_lower (Kd.R_new' ho31 (Kd.R_lt (rP HO420))) (below_size (bZ HB)))
                     replace HO420 := Aside0.mk (Kd.R_elder' (rP HO420) (Kd.R_base ho31) hb)
                     replace BK413 := bB BK413 hb
                     replace BK414 := bB BK414 hb
                     replace BK415 := bB BK415 hb
                     replace BK417 := bB BK417 hb
                     replace HB := bS HB hb
                     clear hb ho31
                     refine hK.out _ _ (bS3 BK415 (bT3 BK417)) (fun hHeld => ?_)
                     clear hK K
                     refine nO (some 33) ?_
                     exact norm_ (by first | (simp only [putAll, Act.put, List.setIfInBounds_toArray, List.set_cons_zero, List.set_cons_succ]; done) | (simp only [putAll, Act.put, List.setIfInBounds_toArray, List.set_cons_zero, List.set_cons_succ]; rfl)) (hJ2_10 (v419, v431) _ ⟨hHeld, (by (with_reducible repeat (first | apply Kd.R_alloc | apply Kd.R_drewN | apply Kd.R_drew)); exact Kd.R_mono HO420.out (fun _ hk => hk.2)), (by (with_reducible repeat (first | apply Kd.R_alloc | apply Kd.R_drewN | apply Kd.R_drew)); exact Kd.R_mono HO432.out (fun _ hk => hk.2)), (by (with_reducible repeat (first | apply Kd.S_alloc | apply Kd.S_drewN | apply Kd.S_drew)); exact Kd.S_mono HO_416002.out (fun _ hk => ⟨hk.1.1, ⟨hk.2, hk.1.2⟩⟩)), (bP BK413), (bP BK414), (bP BK415), (bP BK417), (bZ HB)⟩)
                  ·skip
                   rintro ⟨v425, v431⟩ w31 ⟨hS_, h0_, h1_, h2_, h3_, h4_, h5_, h6_, h7_⟩
                   have HO426 : Aside0 (Kd.R (Kd.int .i64) 3 w31 w.heap.size (fun k_ => some k_ ≠ (v431 : Value).ownBlock) v425 y424) := ⟨h0_⟩
                   have HO432 : Aside0 (Kd.R (Kd.int .i64) 3 w31 w.heap.size (fun k_ => some k_ ≠ (v425 : Value).ownBlock) v431 y430) := ⟨h1_⟩
                   replace HO_416002 : Aside0 (Kd.S k75 75 w31 w.heap.size (fun k_ => some k_ ≠ (v425 : Value).ownBlock ∧ some k_ ≠ (v431 : Value).ownBlock ∧ k_ ≠ gb417) (.slice Ao24 x416002_1.length co24) x416002_1) := ⟨h2_⟩
                   replace BK413 : Aside0 (w31.heap[gb413]? = some (.cells #[.int .i64 a0_0, .int .i64 a0_1, .slice (some ad416) l0_2.length c0_2] 43 (0, 0))) := ⟨h3_⟩
                   replace BK414 : Aside0 (w31.heap[gb414]? = some (.cells #[.int .i64 0, .int .i64 0, .slice none 0 0] 43 (0, 0))) := ⟨h4_⟩
                   replace BK415 : Aside0 (w31.heap[gb415]? = some (.cells #[.int .i64 a0_0, .int .i64 a0_1, .slice Ao24 x416002_1.length co24] 43 (0, 0))) := ⟨h5_⟩
                   replace BK417 : Aside0 (w31.heap[gb417]? = some (.cells #[.slice A416_0 ((rd_T75 l0_2 x4_1).f0).length c416_0, .slice A416_1 ((rd_T75 l0_2 x4_1).f1).length c416_1, .slice A416_2 ((rd_T75 l0_2 x4_1).f2).length c416_2] 75 (0, 0))) := ⟨h6_⟩
                   replace HB : Aside0 (Below w.heap.size w w31) := ⟨h7_⟩
                   clear h0_ h1_ h2_ h3_ h4_ h5_ h6_ h7_
                   have hHeld : w31.cell? ⟨gb415, 0, none⟩ = some (.int .i64 a0_0) ∧ w31.cell? ⟨gb415, 1, none⟩ = some (.int .i64 a0_1) ∧ w31.cell? ⟨gb415, 2, none⟩ = some (.slice Ao24 x416002_1.length co24) ∧ w31.cell? ⟨gb417, 0, none⟩ = some (.slice A416_0 ((rd_T75 l0_2 x4_1).f0).length c416_0) ∧ w31.cell? ⟨gb417, 1, none⟩ = some (.slice A416_1 ((rd_T75 l0_2 x4_1).f1).length c416_1) ∧ w31.cell? ⟨gb417, 2, none⟩ = some (.slice A416_2 ((rd_T75 l0_2 x4_1).f2).length c416_2) := hS_
                   refine norm_ (a' := ?_) ?_ ?_
                   rotate_left
                   ·simp only [putAll, Act.put, List.setIfInBounds_toArray, List.set_cons_zero, List.set_cons_succ]
                    rfl
                   refine oI 2 (some 25) HT_.out (fun K hK => ?_)
                   refine Kd.R_lit_step (Kd.int .i64) _ 3 ?hg (N := 25) ?hd (xs := ([] : List Int)) (inner := []) (ok := fun _ => True) (okp := fun _ => True) ?hr ?hp (fun _ hk => hk) trivial (Below.refl _ _) (Nat.le_refl _) (by simp) ?_; (case hd => rfl); (case hg => rfl); (case hr => first | (go_simp; done) | (go_simp; rfl)); (case hp => exact (Reps.none _ _))
                   intro v419 w32 ho33 hb hg_ hnew_
                   clear hg_ hnew_
                   (first | rw [← Ny418.out] at ho33 | (simp only [Int.reduceToNat] at ho33; rw [← Ny418.out] at ho33))
                   replace HO_416002 := Aside0.mk (Kd.S_elder' (by (with_reducible repeat (first | apply Kd.S_alloc | apply Kd.S_drewN | apply Kd.S_drew)); exact HO_416002.out) (Kd.R_base ho33) hb)
                   have HO420 := Aside0.mk (Kd.R_lower (Kd.R_new' (Kd.R_new' ho33 (Kd.R_lt (rP HO426))) (Kd.R_lt (rP HO432))) (below_size (bZ HB)))
                   replace HO426 := Aside0.mk (Kd.R_elder' (rP HO426) (Kd.R_base ho33) hb)
                   replace HO432 := Aside0.mk (Kd.R_elder' (rP HO432) (Kd.R_base ho33) hb)
                   replace BK413 := bB BK413 hb
                   replace BK414 := bB BK414 hb
                   replace BK415 := bB BK415 hb
                   replace BK417 := bB BK417 hb
                   replace HB := bS HB hb
                   clear hb ho33
                   refine hK.out _ _ (bS3 BK415 (bT3 BK417)) (fun hHeld => ?_)
                   clear hK K
                   refine nO (some 25) ?_
                   exact norm_ (by first | (simp only [putAll, Act.put, List.setIfInBounds_toArray, List.set_cons_zero, List.set_cons_succ]; done) | (simp only [putAll, Act.put, List.setIfInBounds_toArray, List.set_cons_zero, List.set_cons_succ]; rfl)) (hJ2_6_10 (v419, v425, v431) _ ⟨hHeld, (by (with_reducible repeat (first | apply Kd.R_alloc | apply Kd.R_drewN | apply Kd.R_drew)); exact Kd.R_mono HO420.out (fun _ hk => ⟨hk.1.2, hk.2⟩)), (by (with_reducible repeat (first | apply Kd.R_alloc | apply Kd.R_drewN | apply Kd.R_drew)); exact Kd.R_mono HO426.out (fun _ hk => ⟨hk.2, hk.1⟩)), (by (with_reducible repeat (first | apply Kd.R_alloc | apply Kd.R_drewN | apply Kd.R_drew)); exact Kd.R_mono HO432.out (fun _ hk => ⟨hk.2, hk.1⟩)), (by (with_reducible repeat (first | apply Kd.S_alloc | apply Kd.S_drewN | apply Kd.S_drew)); exact Kd.S_mono HO_416002.out (fun _ hk => ⟨hk.2, ⟨hk.1.1, ⟨hk.1.2.1, hk.1.2.2⟩⟩⟩)), (bP BK413), (bP BK414), (bP BK415), (bP BK417), (bZ HB)⟩)
                 ·skip
                  rintro ⟨v419, v431⟩ w31 ⟨hS_, h0_, h1_, h2_, h3_, h4_, h5_, h6_, h7_⟩
                  have HO420 : Aside0 (Kd.R (Kd.int .i64) 3 w31 w.heap.size (fun k_ => some k_ ≠ (v431 : Value).ownBlock) v419 y418) := ⟨h0_⟩
                  have HO432 : Aside0 (Kd.R (Kd.int .i64) 3 w31 w.heap.size (fun k_ => some k_ ≠ (v419 : Value).ownBlock) v431 y430) := ⟨h1_⟩
                  replace HO_416002 : Aside0 (Kd.S k75 75 w31 w.heap.size (fun k_ => some k_ ≠ (v419 : Value).ownBlock ∧ some k_ ≠ (v431 : Value).ownBlock ∧ k_ ≠ gb417) (.slice Ao24 x416002_1.length co24) x416002_1) := ⟨h2_⟩
                  replace BK413 : Aside0 (w31.heap[gb413]? = some (.cells #[.int .i64 a0_0, .int .i64 a0_1, .slice (some ad416) l0_2.length c0_2] 43 (0, 0))) := ⟨h3_⟩
                  replace BK414 : Aside0 (w31.heap[gb414]? = some (.cells #[.int .i64 0, .int .i64 0, .slice none 0 0] 43 (0, 0))) := ⟨h4_⟩
                  replace BK415 : Aside0 (w31.heap[gb415]? = some (.cells #[.int .i64 a0_0, .int .i64 a0_1, .slice Ao24 x416002_1.length co24] 43 (0, 0))) := ⟨h5_⟩
                  replace BK417 : Aside0 (w31.heap[gb417]? = some (.cells #[.slice A416_0 ((rd_T75 l0_2 x4_1).f0).length c416_0, .slice A416_1 ((rd_T75 l0_2 x4_1).f1).length c416_1, .slice A416_2 ((rd_T75 l0_2 x4_1).f2).length c416_2] 75 (0, 0))) := ⟨h6_⟩
                  replace HB : Aside0 (Below w.heap.size w w31) := ⟨h7_⟩
                  clear h0_ h1_ h2_ h3_ h4_ h5_ h6_ h7_
                  have hHeld : w31.cell? ⟨gb415, 0, none⟩ = some (.int .i64 a0_0) ∧ w31.cell? ⟨gb415, 1, none⟩ = some (.int .i64 a0_1) ∧ w31.cell? ⟨gb415, 2, none⟩ = some (.slice Ao24 x416002_1.length co24) ∧ w31.cell? ⟨gb417, 0, none⟩ = some (.slice A416_0 ((rd_T75 l0_2 x4_1).f0).length c416_0) ∧ w31.cell? ⟨gb417, 1, none⟩ = some (.slice A416_1 ((rd_T75 l0_2 x4_1).f1).length c416_1) ∧ w31.cell? ⟨gb417, 2, none⟩ = some (.slice A416_2 ((rd_T75 l0_2 x4_1).f2).length c416_2) := hS_
                  refine norm_ (a' := ?_) ?_ ?_
                  rotate_left
                  ·simp only [putAll, Act.put, List.setIfInBounds_toArray, List.set_cons_zero, List.set_cons_succ]
                   rfl
                  refine two_ (i := 5) (j := 6) (Ni := some 28) (Nj := some 29) #[true, true, true, true, true, true, false, true, true, false, true, true, true, false, false, false, false, false, false] #[true, true, true, true, true, false, true, true, true, false, true, true, true, false, false, false, false, false, false] rfl rfl rfl rfl (two_of HT_.out (by kernel_rfl)) (by decide) (by decide) (fun K hK => ?_) (fun K hK => ?_)
                  ·skip
                   refine Kd.R_append_rows_step (Kd.int .i64) (w0 := w) w.heap.size (by rfl) (.tmp 25) (.tmp 27) 31 3 (.int .i64 0) 8 rfl Try.underlying31 info3 rfl (by decide) (by omega) v419 y418 ((rd_T75 l0_2 x4_1).f0) _ _ _ (fun k_ => some k_ ≠ (v431 : Value).ownBlock) (fun _ => False) rfl rfl ?aO ?aR (fun _ _ h => h) (fun _ h => h.elim) ?aF ?aB ?aS ?aL ?_
                   (case aR => exact cP (Kd.C_below HR416_0.out HB.out))
                   (case aB => exact (bZ HB))
                   (case aF => exact (fun k_ hk => Kd.fresh' (Kd.R_lt (rP HO432)) k_ hk))
                   (case aO => exact (rP HO420))
                   (case aS => exact (below_size (bZ HB)))
                   (case aL => have := LMc12.out; omega)
                   intro v422 w32 ho hb hg hat
                   rw [← Ny421.out] at ho
                   replace HO_416002 := Aside0.mk (Kd.S_after (ok := (fun k_ => some k_ ≠ (v431 : Value).ownBlock ∧ k_ ≠ gb417)) (by (with_reducible repeat (first | apply Kd.S_alloc | apply Kd.S_drewN | apply Kd.S_drew)); exact Kd.S_mono HO_416002.out (fun _ hk => ⟨⟨hk.2.1, hk.2.2⟩, hk.1⟩)) hg hat)
                   replace BK413 := Aside0.mk (blk_grown (bP BK413) hg (Kd.R_ne HO420.out BK413.out (by decide)))
                   replace BK414 := Aside0.mk (blk_grown (bP BK414) hg (Kd.R_ne HO420.out BK414.out (by decide)))
                   replace BK415 := Aside0.mk (blk_grown (bP BK415) hg (Kd.R_ne HO420.out BK415.out (by decide)))
                   replace BK417 := Aside0.mk (blk_grown (bP BK417) hg (Kd.R_ne HO420.out BK417.out (by decide)))
                   replace HO432 := Aside0.mk (Kd.R_after (ok := (fun _ => True)) (by (with_reducible repeat (first | apply Kd.R_alloc | apply Kd.R_drewN | apply Kd.R_drew)); exact Kd.R_mono HO432.out (fun _ hk => ⟨trivial, hk⟩)) hg hat)
                   replace HB := Aside0.mk (hb)
                   have HO423 := Aside0.mk (ho)
                   clear HO420
                   clear ho hb hg hat
                   refine hK.out _ _ (bS3 BK415 (bT3 BK417)) (fun hHeld => ?_)
                   clear hK K
                   refine nO (some 28) ?_
                   exact norm_ (by first | (simp only [putAll, Act.put, List.setIfInBounds_toArray, List.set_cons_zero, List.set_cons_succ]; done) | (simp only [putAll, Act.put, List.setIfInBounds_toArray, List.set_cons_zero, List.set_cons_succ]; rfl)) (hJ2_5_10 (v419, v422, v431) _ ⟨hHeld, (rP HO423), (by (with_reducible repeat (first | apply Kd.R_alloc | apply Kd.R_drewN | apply Kd.R_drew)); exact Kd.R_mono HO432.out (fun _ hk => hk.2)), (by (with_reducible repeat (first | apply Kd.S_alloc | apply Kd.S_drewN | apply Kd.S_drew)); exact Kd.S_mono HO_416002.out (fun _ hk => ⟨hk.2, ⟨hk.1.1, hk.1.2⟩⟩)), (bP BK413), (bP BK414), (bP BK415), (bP BK417), (bZ HB)⟩)
                  ·skip
                   refine Kd.R_lit_step (Kd.int .i64) _ 3 ?hg (N := 29) ?hd (xs := ([] : List Int)) (inner := []) (ok := fun _ => True) (okp := fun _ => True) ?hr ?hp (fun _ hk => hk) trivial (Below.refl _ _) (Nat.le_refl _) (by simp) ?_; (case hd => rfl); (case hg => rfl); (case hr => first | (go_simp; done) | (go_simp; rfl)); (case hp => exact (Reps.none _ _))
                   intro v425 w32 ho33 hb hg_ hnew_
                   clear hg_ hnew_
                   (first | rw [← Ny424.out] at ho33 | (simp only [Int.reduceToNat] at ho33; rw [← Ny424.out] at ho33))
                   replace HO_416002 := Aside0.mk (Kd.S_elder' (by (with_reducible repeat (first | apply Kd.S_alloc | apply Kd.S_drewN | apply Kd.S_drew)); exact HO_416002.out) (Kd.R_base ho33) hb)
                   have HO426 := Aside0.mk (Kd.R_lower (Kd.R_new' (Kd.R_new' ho33 (Kd.R_lt (rP HO420))) (Kd.R_lt (rP HO432))) (below_size (bZ HB)))
                   replace HO420 := Aside0.mk (Kd.R_elder' (rP HO420) (Kd.R_base ho33) hb)
                   replace HO432 := Aside0.mk (Kd.R_elder' (rP HO432) (Kd.R_base ho33) hb)
                   replace BK413 := bB BK413 hb
                   replace BK414 := bB BK414 hb
                   replace BK415 := bB BK415 hb
                   replace BK417 := bB BK417 hb
                   replace HB := bS HB hb
                   clear hb ho33
                   refine hK.out _ _ (bS3 BK415 (bT3 BK417)) (fun hHeld => ?_)
                   clear hK K
                   refine nO (some 29) ?_
                   exact norm_ (by first | (simp only [putAll, Act.put, List.setIfInBounds_toArray, List.set_cons_zero, List.set_cons_succ]; done) | (simp only [putAll, Act.put, List.setIfInBounds_toArray, List.set_cons_zero, List.set_cons_succ]; rfl)) (hJ2_6_10 (v419, v425, v431) _ ⟨hHeld, (by (with_reducible repeat (first | apply Kd.R_alloc | apply Kd.R_drewN | apply Kd.R_drew)); exact Kd.R_mono HO420.out (fun _ hk => ⟨hk.2, hk.1⟩)), (by (with_reducible repeat (first | apply Kd.R_alloc | apply Kd.R_drewN | apply Kd.R_drew)); exact Kd.R_mono HO426.out (fun _ hk => ⟨hk.1.2, hk.2⟩)), (rP HO432), (by (with_reducible repeat (first | apply Kd.S_alloc | apply Kd.S_drewN | apply Kd.S_drew)); exact Kd.S_mono HO_416002.out (fun _ hk => ⟨hk.1.1, ⟨hk.2, ⟨hk.1.2.1, hk.1.2.2⟩⟩⟩)), (bP BK413), (bP BK414), (bP BK415), (bP BK417), (bZ HB)⟩)
                ·skip
                 rintro ⟨v419, v425⟩ w31 ⟨hS_, h0_, h1_, h2_, h3_, h4_, h5_, h6_, h7_⟩
                 have HO420 : Aside0 (Kd.R (Kd.int .i64) 3 w31 w.heap.size (fun k_ => some k_ ≠ (v425 : Value).ownBlock) v419 y418) := ⟨h0_⟩
                 have HO426 : Aside0 (Kd.R (Kd.int .i64) 3 w31 w.heap.size (fun k_ => some k_ ≠ (v419 : Value).ownBlock) v425 y424) := ⟨h1_⟩
                 replace HO_416002 : Aside0 (Kd.S k75 75 w31 w.heap.size (fun k_ => some k_ ≠ (v419 : Value).ownBlock ∧ some k_ ≠ (v425 : Value).ownBlock ∧ k_ ≠ gb417) (.slice Ao24 x416002_1.length co24) x416002_1) := ⟨h2_⟩
                 replace BK413 : Aside0 (w31.heap[gb413]? = some (.cells #[.int .i64 a0_0, .int .i64 a0_1, .slice (some ad416) l0_2.length c0_2] 43 (0, 0))) := ⟨h3_⟩
                 replace BK414 : Aside0 (w31.heap[gb414]? = some (.cells #[.int .i64 0, .int .i64 0, .slice none 0 0] 43 (0, 0))) := ⟨h4_⟩
                 replace BK415 : Aside0 (w31.heap[gb415]? = some (.cells #[.int .i64 a0_0, .int .i64 a0_1, .slice Ao24 x416002_1.length co24] 43 (0, 0))) := ⟨h5_⟩
                 replace BK417 : Aside0 (w31.heap[gb417]? = some (.cells #[.slice A416_0 ((rd_T75 l0_2 x4_1).f0).length c416_0, .slice A416_1 ((rd_T75 l0_2 x4_1).f1).length c416_1, .slice A416_2 ((rd_T75 l0_2 x4_1).f2).length c416_2] 75 (0, 0))) := ⟨h6_⟩
                 replace HB : Aside0 (Below w.heap.size w w31) := ⟨h7_⟩
                 clear h0_ h1_ h2_ h3_ h4_ h5_ h6_ h7_
                 have hHeld : w31.cell? ⟨gb415, 0, none⟩ = some (.int .i64 a0_0) ∧ w31.cell? ⟨gb415, 1, none⟩ = some (.int .i64 a0_1) ∧ w31.cell? ⟨gb415, 2, none⟩ = some (.slice Ao24 x416002_1.length co24) ∧ w31.cell? ⟨gb417, 0, none⟩ = some (.slice A416_0 ((rd_T75 l0_2 x4_1).f0).length c416_0) ∧ w31.cell? ⟨gb417, 1, none⟩ = some (.slice A416_1 ((rd_T75 l0_2 x4_1).f1).length c416_1) ∧ w31.cell? ⟨gb417, 2, none⟩ = some (.slice A416_2 ((rd_T75 l0_2 x4_1).f2).length c416_2) := hS_
                 refine norm_ (a' := ?_) ?_ ?_
                 rotate_left
                 ·simp only [putAll, Act.put, List.setIfInBounds_toArray, List.set_cons_zero, List.set_cons_succ]
                  rfl
                 refine two_ (i := 5) (j := 10) (Ni := some 28) (Nj := some 33) #[true, true, true, true, true, true, true, true, true, false, false, true, true, false, false, false, false, false, false] #[true, true, true, true, true, false, true, true, true, false, true, true, true, false, false, false, false, false, false] rfl rfl rfl rfl (two_of HT_.out (by kernel_rfl)) (by decide) (by decide) (fun K hK => ?_) (fun K hK => ?_)
                 ·skip
                  refine Kd.R_append_rows_step (Kd.int .i64) (w0 := w) w.heap.size (by rfl) (.tmp 25) (.tmp 27) 31 3 (.int .i64 0) 8 rfl Try.underlying31 info3 rfl (by decide) (by omega) v419 y418 ((rd_T75 l0_2 x4_1).f0) _ _ _ (fun k_ => some k_ ≠ (v425 : Value).ownBlock) (fun _ => False) rfl rfl ?aO ?aR (fun _ _ h => h) (fun _ h => h.elim) ?aF ?aB ?aS ?aL ?_
                  (case aR => exact cP (Kd.C_below HR416_0.out HB.out))
                  (case aB => exact (bZ HB))
                  (case aF => exact (fun k_ hk => Kd.fresh' (Kd.R_lt (rP HO426)) k_ hk))
                  (case aO => exact (rP HO420))
                  (case aS => exact (below_size (bZ HB)))
                  (case aL => have := LMc12.out; omega)
                  intro v422 w32 ho hb hg hat
                  rw [← Ny421.out] at ho
                  replace HO_416002 := Aside0.mk (Kd.S_after (ok := (fun k_ => some k_ ≠ (v425 : Value).ownBlock ∧ k_ ≠ gb417)) (by (with_reducible repeat (first | apply Kd.S_alloc | apply Kd.S_drewN | apply Kd.S_drew)); exact Kd.S_mono HO_416002.out (fun _ hk => ⟨⟨hk.2.1, hk.2.2⟩, hk.1⟩)) hg hat)
                  replace BK413 := Aside0.mk (blk_grown (bP BK413) hg (Kd.R_ne HO420.out BK413.out (by decide)))
                  replace BK414 := Aside0.mk (blk_grown (bP BK414) hg (Kd.R_ne HO420.out BK414.out (by decide)))
                  replace BK415 := Aside0.mk (blk_grown (bP BK415) hg (Kd.R_ne HO420.out BK415.out (by decide)))
                  replace BK417 := Aside0.mk (blk_grown (bP BK417) hg (Kd.R_ne HO420.out BK417.out (by decide)))
                  replace HO426 := Aside0.mk (Kd.R_after (ok := (fun _ => True)) (by (with_reducible repeat (first | apply Kd.R_alloc | apply Kd.R_drewN | apply Kd.R_drew)); exact Kd.R_mono HO426.out (fun _ hk => ⟨trivial, hk⟩)) hg hat)
                  replace HB := Aside0.mk (hb)
                  have HO423 := Aside0.mk (ho)
                  clear HO420
                  clear ho hb hg hat
                  refine hK.out _ _ (bS3 BK415 (bT3 BK417)) (fun hHeld => ?_)
                  clear hK K
                  refine nO (some 28) ?_
                  exact norm_ (by first | (simp only [putAll, Act.put, List.setIfInBounds_toArray, List.set_cons_zero, List.set_cons_succ]; done) | (simp only [putAll, Act.put, List.setIfInBounds_toArray, List.set_cons_zero, List.set_cons_succ]; rfl)) (hJ2_5_6 (v419, v422, v425) _ ⟨hHeld, (rP HO423), (by (with_reducible repeat (first | apply Kd.R_alloc | apply Kd.R_drewN | apply Kd.R_drew)); exact Kd.R_mono HO426.out (fun _ hk => hk.2)), (by (with_reducible repeat (first | apply Kd.S_alloc | apply Kd.S_drewN | apply Kd.S_drew)); exact Kd.S_mono HO_416002.out (fun _ hk => ⟨hk.2, ⟨hk.1.1, hk.1.2⟩⟩)), (bP BK413), (bP BK414), (bP BK415), (bP BK417), (bZ HB)⟩)
                 ·skip
                  refine Kd.R_lit_step (Kd.int .i64) _ 3 ?hg (N := 33) ?hd (xs := ([] : List Int)) (inner := []) (ok := fun _ => True) (okp := fun _ => True) ?hr ?hp (fun _ hk => hk) trivial (Below.refl _ _) (Nat.le_refl _) (by simp) ?_; (case hd => rfl); (case hg => rfl); (case hr => first | (go_simp; done) | (go_simp; rfl)); (case hp => exact (Reps.none _ _))
                  intro v431 w32 ho33 hb hg_ hnew_
                  clear hg_ hnew_
                  (first | rw [← Ny430.out] at ho33 | (simp only [Int.reduceToNat] at ho33; rw [← Ny430.out] at ho33))
                  replace HO_416002 := Aside0.mk (Kd.S_elder' (by (with_reducible repeat (first | apply Kd.S_alloc | apply Kd.S_drewN | apply Kd.S_drew)); exact HO_416002.out) (Kd.R_base ho33) hb)
                  have HO432 := Aside0.mk (Kd.R_lower (Kd.R_new' (Kd.R_new' ho33 (Kd.R_lt (rP HO420))) (Kd.R_lt (rP HO426))) (below_size (bZ HB)))
                  replace HO420 := Aside0.mk (Kd.R_elder' (rP HO420) (Kd.R_base ho33) hb)
                  replace HO426 := Aside0.mk (Kd.R_elder' (rP HO426) (Kd.R_base ho33) hb)
                  replace BK413 := bB BK413 hb
                  replace BK414 := bB BK414 hb
                  replace BK415 := bB BK415 hb
                  replace BK417 := bB BK417 hb
                  replace HB := bS HB hb
                  clear hb ho33
                  refine hK.out _ _ (bS3 BK415 (bT3 BK417)) (fun hHeld => ?_)
                  clear hK K
                  refine nO (some 33) ?_
                  exact norm_ (by first | (simp only [putAll, Act.put, List.setIfInBounds_toArray, List.set_cons_zero, List.set_cons_succ]; done) | (simp only [putAll, Act.put, List.setIfInBounds_toArray, List.set_cons_zero, List.set_cons_succ]; rfl)) (hJ2_6_10 (v419, v425, v431) _ ⟨hHeld, (rP HO420), (rP HO426), (by (with_reducible repeat (first | apply Kd.R_alloc | apply Kd.R_drewN | apply Kd.R_drew)); exact Kd.R_mono HO432.out (fun _ hk => ⟨hk.1.2, hk.2⟩)), (by (with_reducible repeat (first | apply Kd.S_alloc | apply Kd.S_drewN | apply Kd.S_drew)); exact Kd.S_mono HO_416002.out (fun _ hk => ⟨hk.1.1, ⟨hk.1.2.1, ⟨hk.2, hk.1.2.2⟩⟩⟩)), (bP BK413), (bP BK414), (bP BK415), (bP BK417), (bZ HB)⟩)
               ·skip
                rintro ⟨v419, v422⟩ w30 ⟨hS_, h0_, h1_, h2_, h3_, h4_, h5_, h6_⟩
                have HO423 : Aside0 (Kd.R (Kd.int .i64) 3 w30 w.heap.size (fun _ => True) v422 y421) := ⟨h0_⟩
                replace HO_416002 : Aside0 (Kd.S k75 75 w30 w.heap.size (fun k_ => some k_ ≠ (v422 : Value).ownBlock ∧ k_ ≠ gb417) (.slice Ao24 x416002_1.length co24) x416002_1) := ⟨h1_⟩
                replace BK413 : Aside0 (w30.heap[gb413]? = some (.cells #[.int .i64 a0_0, .int .i64 a0_1, .slice (some ad416) l0_2.length c0_2] 43 (0, 0))) := ⟨h2_⟩
                replace BK414 : Aside0 (w30.heap[gb414]? = some (.cells #[.int .i64 0, .int .i64 0, .slice none 0 0] 43 (0, 0))) := ⟨h3_⟩
                replace BK415 : Aside0 (w30.heap[gb415]? = some (.cells #[.int .i64 a0_0, .int .i64 a0_1, .slice Ao24 x416002_1.length co24] 43 (0, 0))) := ⟨h4_⟩
                replace BK417 : Aside0 (w30.heap[gb417]? = some (.cells #[.slice A416_0 ((rd_T75 l0_2 x4_1).f0).length c416_0, .slice A416_1 ((rd_T75 l0_2 x4_1).f1).length c416_1, .slice A416_2 ((rd_T75 l0_2 x4_1).f2).length c416_2] 75 (0, 0))) := ⟨h5_⟩
                replace HB : Aside0 (Below w.heap.size w w30) := ⟨h6_⟩
                clear h0_ h1_ h2_ h3_ h4_ h5_ h6_
                have hHeld : w30.cell? ⟨gb415, 0, none⟩ = some (.int .i64 a0_0) ∧ w30.cell? ⟨gb415, 1, none⟩ = some (.int .i64 a0_1) ∧ w30.cell? ⟨gb415, 2, none⟩ = some (.slice Ao24 x416002_1.length co24) ∧ w30.cell? ⟨gb417, 0, none⟩ = some (.slice A416_0 ((rd_T75 l0_2 x4_1).f0).length c416_0) ∧ w30.cell? ⟨gb417, 1, none⟩ = some (.slice A416_1 ((rd_T75 l0_2 x4_1).f1).length c416_1) ∧ w30.cell? ⟨gb417, 2, none⟩ = some (.slice A416_2 ((rd_T75 l0_2 x4_1).f2).length c416_2) := hS_
                refine norm_ (a' := ?_) ?_ ?_
                rotate_left
                ·simp only [putAll, Act.put, List.setIfInBounds_toArray, List.set_cons_zero, List.set_cons_succ]
                 rfl
                refine two_ (i := 6) (j := 10) (Ni := some 29) (Nj := some 33) #[true, true, true, true, true, true, true, true, true, false, false, true, true, false, false, false, false, false, false] #[true, true, true, true, true, true, false, true, true, false, true, true, true, false, false, false, false, false, false] rfl rfl rfl rfl (two_of HT_.out (by kernel_rfl)) (by decide) (by decide) (fun K hK => ?_) (fun K hK => ?_)
                ·skip
                 refine Kd.R_lit_step (Kd.int .i64) _ 3 ?hg (N := 29) ?hd (xs := ([] : List Int)) (inner := []) (ok := fun _ => True) (okp := fun _ => True) ?hr ?hp (fun _ hk => hk) trivial (Below.refl _ _) (Nat.le_refl _) (by simp) ?_; (case hd => rfl); (case hg => rfl); (case hr => first | (go_simp; done) | (go_simp; rfl)); (case hp => exact (Reps.none _ _))
                 intro v425 w31 ho32 hb hg_ hnew_
                 clear hg_ hnew_
                 (first | rw [← Ny424.out] at ho32 | (simp only [Int.reduceToNat] at ho32; rw [← Ny424.out] at ho32))
                 replace HO_416002 := Aside0.mk (Kd.S_elder' (by (with_reducible repeat (first | apply Kd.S_alloc | apply Kd.S_drewN | apply Kd.S_drew)); exact HO_416002.out) (Kd.R_base ho32) hb)
                 have HO426 := Aside0.mk (Kd.R_lower (Kd.R_new' ho32 (Kd.R_lt (rP HO423))) (below_size (bZ HB)))
                 replace HO423 := Aside0.mk (Kd.R_elder' (rP HO423) (Kd.R_base ho32) hb)
                 replace BK413 := bB BK413 hb
                 replace BK414 := bB BK414 hb
                 replace BK415 := bB BK415 hb
                 replace BK417 := bB BK417 hb
                 replace HB := bS HB hb
                 clear hb ho32
                 refine hK.out _ _ (bS3 BK415 (bT3 BK417)) (fun hHeld => ?_)
                 clear hK K
                 refine nO (some 29) ?_
                 exact norm_ (by first | (simp only [putAll, Act.put, List.setIfInBounds_toArray, List.set_cons_zero, List.set_cons_succ]; done) | (simp only [putAll, Act.put, List.setIfInBounds_toArray, List.set_cons_zero, List.set_cons_succ]; rfl)) (hJ2_5_6 (v419, v422, v425) _ ⟨hHeld, (by (with_reducible repeat (first | apply Kd.R_alloc | apply Kd.R_drewN | apply Kd.R_drew)); exact Kd.R_mono HO423.out (fun _ hk => hk.2)), (by (with_reducible repeat (first | apply Kd.R_alloc | apply Kd.R_drewN | apply Kd.R_drew)); exact Kd.R_mono HO426.out (fun _ hk => hk.2)), (by (with_reducible repeat (first | apply Kd.S_alloc | apply Kd.S_drewN | apply Kd.S_drew)); exact Kd.S_mono HO_416002.out (fun _ hk => ⟨hk.1.1, ⟨hk.2, hk.1.2⟩⟩)), (bP BK413), (bP BK414), (bP BK415), (bP BK417), (bZ HB)⟩)
                ·skip
                 refine Kd.R_lit_step (Kd.int .i64) _ 3 ?hg (N := 33) ?hd (xs := ([] : List Int)) (inner := []) (ok := fun _ => True) (okp := fun _ => True) ?hr ?hp (fun _ hk => hk) trivial (Below.refl _ _) (Nat.le_refl _) (by simp) ?_; (case hd => rfl); (case hg => rfl); (case hr => first | (go_simp; done) | (go_simp; rfl)); (case hp => exact (Reps.none _ _))
                 intro v431 w31 ho32 hb hg_ hnew_
                 clear hg_ hnew_
                 (first | rw [← Ny430.out] at ho32 | (simp only [Int.reduceToNat] at ho32; rw [← Ny430.out] at ho32))
                 replace HO_416002 := Aside0.mk (Kd.S_elder' (by (with_reducible repeat (first | apply Kd.S_alloc | apply Kd.S_drewN | apply Kd.S_drew)); exact HO_416002.out) (Kd.R_base ho32) hb)
                 have HO432 := Aside0.mk (Kd.R_lower (Kd.R_new' ho32 (Kd.R_lt (rP HO423))) (below_size (bZ HB)))
                 replace HO423 := Aside0.mk (Kd.R_elder' (rP HO423) (Kd.R_base ho32) hb)
                 replace BK413 := bB BK413 hb
                 replace BK414 := bB BK414 hb
                 replace BK415 := bB BK415 hb
                 replace BK417 := bB BK417 hb
                 replace HB := bS HB hb
                 clear hb ho32
                 refine hK.out _ _ (bS3 BK415 (bT3 BK417)) (fun hHeld => ?_)
                 clear hK K
                 refine nO (some 33) ?_
                 exact norm_ (by first | (simp only [putAll, Act.put, List.setIfInBounds_toArray, List.set_cons_zero, List.set_cons_succ]; done) | (simp only [putAll, Act.put, List.setIfInBounds_toArray, List.set_cons_zero, List.set_cons_succ]; rfl)) (hJ2_5_10 (v419, v422, v431) _ ⟨hHeld, (by (with_reducible repeat (first | apply Kd.R_alloc | apply Kd.R_drewN | apply Kd.R_drew)); exact Kd.R_mono HO423.out (fun _ hk => hk.2)), (by (with_reducible repeat (first | apply Kd.R_alloc | apply Kd.R_drewN | apply Kd.R_drew)); exact Kd.R_mono HO432.out (fun _ hk => hk.2)), (by (with_reducible repeat (first | apply Kd.S_alloc | apply Kd.S_drewN | apply Kd.S_drew)); exact Kd.S_mono HO_416002.out (fun _ hk => ⟨hk.1.1, ⟨hk.2, hk.1.2⟩⟩)), (bP BK413), (bP BK414), (bP BK415), (bP BK417), (bZ HB)⟩)
              ·skip
               rintro ⟨v419, v425, v431⟩ w33 ⟨hS_, h0_, h1_, h2_, h3_, h4_, h5_, h6_, h7_, h8_⟩
               have HO420 : Aside0 (Kd.R (Kd.int .i64) 3 w33 w.heap.size (fun k_ => some k_ ≠ (v425 : Value).ownBlock ∧ some k_ ≠ (v431 : Value).ownBlock) v419 y418) := ⟨h0_⟩
               have HO426 : Aside0 (Kd.R (Kd.int .i64) 3 w33 w.heap.size (fun k_ => some k_ ≠ (v419 : Value).ownBlock ∧ some k_ ≠ (v431 : Value).ownBlock) v425 y424) := ⟨h1_⟩
               have HO432 : Aside0 (Kd.R (Kd.int .i64) 3 w33 w.heap.size (fun k_ => some k_ ≠ (v419 : Value).ownBlock ∧ some k_ ≠ (v425 : Value).ownBlock) v431 y430) := ⟨h2_⟩
               replace HO_416002 : Aside0 (Kd.S k75 75 w33 w.heap.size (fun k_ => some k_ ≠ (v419 : Value).ownBlock ∧ some k_ ≠ (v425 : Value).ownBlock ∧ some k_ ≠ (v431 : Value).ownBlock ∧ k_ ≠ gb417) (.slice Ao24 x416002_1.length co24) x416002_1) := ⟨h3_⟩
               replace BK413 : Aside0 (w33.heap[gb413]? = some (.cells #[.int .i64 a0_0, .int .i64 a0_1, .slice (some ad416) l0_2.length c0_2] 43 (0, 0))) := ⟨h4_⟩
               replace BK414 : Aside0 (w33.heap[gb414]? = some (.cells #[.int .i64 0, .int .i64 0, .slice none 0 0] 43 (0, 0))) := ⟨h5_⟩
               replace BK415 : Aside0 (w33.heap[gb415]? = some (.cells #[.int .i64 a0_0, .int .i64 a0_1, .slice Ao24 x416002_1.length co24] 43 (0, 0))) := ⟨h6_⟩
               replace BK417 : Aside0 (w33.heap[gb417]? = some (.cells #[.slice A416_0 ((rd_T75 l0_2 x4_1).f0).length c416_0, .slice A416_1 ((rd_T75 l0_2 x4_1).f1).length c416_1, .slice A416_2 ((rd_T75 l0_2 x4_1).f2).length c416_2] 75 (0, 0))) := ⟨h7_⟩
               replace HB : Aside0 (Below w.heap.size w w33) := ⟨h8_⟩
               clear h0_ h1_ h2_ h3_ h4_ h5_ h6_ h7_ h8_
               have hHeld : w33.cell? ⟨gb415, 0, none⟩ = some (.int .i64 a0_0) ∧ w33.cell? ⟨gb415, 1, none⟩ = some (.int .i64 a0_1) ∧ w33.cell? ⟨gb415, 2, none⟩ = some (.slice Ao24 x416002_1.length co24) ∧ w33.cell? ⟨gb417, 0, none⟩ = some (.slice A416_0 ((rd_T75 l0_2 x4_1).f0).length c416_0) ∧ w33.cell? ⟨gb417, 1, none⟩ = some (.slice A416_1 ((rd_T75 l0_2 x4_1).f1).length c416_1) ∧ w33.cell? ⟨gb417, 2, none⟩ = some (.slice A416_2 ((rd_T75 l0_2 x4_1).f2).length c416_2) := hS_
               refine norm_ (a' := ?_) ?_ ?_
               rotate_left
               ·simp only [putAll, Act.put, List.setIfInBounds_toArray, List.set_cons_zero, List.set_cons_succ]
                rfl
               refine oI 5 (some 28) HT_.out (fun K hK => ?_)
               refine Kd.R_append_rows_step (Kd.int .i64) (w0 := w) w.heap.size (by rfl) (.tmp 25) (.tmp 27) 31 3 (.int .i64 0) 8 rfl Try.underlying31 info3 rfl (by decide) (by omega) v419 y418 ((rd_T75 l0_2 x4_1).f0) _ _ _ (fun k_ => some k_ ≠ (v425 : Value).ownBlock ∧ some k_ ≠ (v431 : Value).ownBlock) (fun _ => False) rfl rfl ?aO ?aR (fun _ _ h => h) (fun _ h => h.elim) ?aF ?aB ?aS ?aL ?_
               (case aR => exact cP (Kd.C_below HR416_0.out HB.out))
               (case aB => exact (bZ HB))
               (case aF => exact (fun k_ hk => ⟨Kd.fresh' (Kd.R_lt (rP HO426)) k_ hk, Kd.fresh' (Kd.R_lt (rP HO432)) k_ hk⟩))
               (case aO => exact (rP HO420))
               (case aS => exact (below_size (bZ HB)))
               (case aL => have := LMc12.out; omega)
               intro v422 w34 ho hb hg hat
               rw [← Ny421.out] at ho
               replace HO_416002 := Aside0.mk (Kd.S_after (ok := (fun k_ => some k_ ≠ (v425 : Value).ownBlock ∧ some k_ ≠ (v431 : Value).ownBlock ∧ k_ ≠ gb417)) (by (with_reducible repeat (first | apply Kd.S_alloc | apply Kd.S_drewN | apply Kd.S_drew)); exact Kd.S_mono HO_416002.out (fun _ hk => ⟨⟨hk.2.1, ⟨hk.2.2.1, hk.2.2.2⟩⟩, hk.1⟩)) hg hat)
               replace BK413 := Aside0.mk (blk_grown (bP BK413) hg (Kd.R_ne HO420.out BK413.out (by decide)))
               replace BK414 := Aside0.mk (blk_grown (bP BK414) hg (Kd.R_ne HO420.out BK414.out (by decide)))
               replace BK415 := Aside0.mk (blk_grown (bP BK415) hg (Kd.R_ne HO420.out BK415.out (by decide)))
               replace BK417 := Aside0.mk (blk_grown (bP BK417) hg (Kd.R_ne HO420.out BK417.out (by decide)))
               replace HO426 := Aside0.mk (Kd.R_after (ok := (fun k_ => some k_ ≠ (v431 : Value).ownBlock)) (by (with_reducible repeat (first | apply Kd.R_alloc | apply Kd.R_drewN | apply Kd.R_drew)); exact Kd.R_mono HO426.out (fun _ hk => ⟨hk.2, hk.1⟩)) hg hat)
               replace HO432 := Aside0.mk (Kd.R_after (ok := (fun k_ => some k_ ≠ (v425 : Value).ownBlock)) (by (with_reducible repeat (first | apply Kd.R_alloc | apply Kd.R_drewN | apply Kd.R_drew)); exact Kd.R_mono HO432.out (fun _ hk => ⟨hk.2, hk.1⟩)) hg hat)
               replace HB := Aside0.mk (hb)
               have HO423 := Aside0.mk (ho)
               clear HO420
               clear ho hb hg hat
               refine hK.out _ _ (bS3 BK415 (bT3 BK417)) (fun hHeld => ?_)
               clear hK K
               refine nO (some 28) ?_
               exact norm_ (by first | (simp only [putAll, Act.put, List.setIfInBounds_toArray, List.set_cons_zero, List.set_cons_succ]; done) | (simp only [putAll, Act.put, List.setIfInBounds_toArray, List.set_cons_zero, List.set_cons_succ]; rfl)) (hJ2_5_6_10 (v419, v422, v425, v431) _ ⟨hHeld, (rP HO423), (by (with_reducible repeat (first | apply Kd.R_alloc | apply Kd.R_drewN | apply Kd.R_drew)); exact Kd.R_mono HO426.out (fun _ hk => ⟨hk.2, hk.1⟩)), (by (with_reducible repeat (first | apply Kd.R_alloc | apply Kd.R_drewN | apply Kd.R_drew)); exact Kd.R_mono HO432.out (fun _ hk => ⟨hk.2, hk.1⟩)), (by (with_reducible repeat (first | apply Kd.S_alloc | apply Kd.S_drewN | apply Kd.S_drew)); exact Kd.S_mono HO_416002.out (fun _ hk => ⟨hk.2, ⟨hk.1.1, ⟨hk.1.2.1, hk.1.2.2⟩⟩⟩)), (bP BK413), (bP BK414), (bP BK415), (bP BK417), (bZ HB)⟩)
             ·skip
              rintro ⟨v419, v422, v431⟩ w32 ⟨hS_, h0_, h1_, h2_, h3_, h4_, h5_, h6_, h7_⟩
              have HO423 : Aside0 (Kd.R (Kd.int .i64) 3 w32 w.heap.size (fun k_ => some k_ ≠ (v431 : Value).ownBlock) v422 y421) := ⟨h0_⟩
              have HO432 : Aside0 (Kd.R (Kd.int .i64) 3 w32 w.heap.size (fun k_ => some k_ ≠ (v422 : Value).ownBlock) v431 y430) := ⟨h1_⟩
              replace HO_416002 : Aside0 (Kd.S k75 75 w32 w.heap.size (fun k_ => some k_ ≠ (v422 : Value).ownBlock ∧ some k_ ≠ (v431 : Value).ownBlock ∧ k_ ≠ gb417) (.slice Ao24 x416002_1.length co24) x416002_1) := ⟨h2_⟩
              replace BK413 : Aside0 (w32.heap[gb413]? = some (.cells #[.int .i64 a0_0, .int .i64 a0_1, .slice (some ad416) l0_2.length c0_2] 43 (0, 0))) := ⟨h3_⟩
              replace BK414 : Aside0 (w32.heap[gb414]? = some (.cells #[.int .i64 0, .int .i64 0, .slice none 0 0] 43 (0, 0))) := ⟨h4_⟩
              replace BK415 : Aside0 (w32.heap[gb415]? = some (.cells #[.int .i64 a0_0, .int .i64 a0_1, .slice Ao24 x416002_1.length co24] 43 (0, 0))) := ⟨h5_⟩
              replace BK417 : Aside0 (w32.heap[gb417]? = some (.cells #[.slice A416_0 ((rd_T75 l0_2 x4_1).f0).length c416_0, .slice A416_1 ((rd_T75 l0_2 x4_1).f1).length c416_1, .slice A416_2 ((rd_T75 l0_2 x4_1).f2).length c416_2] 75 (0, 0))) := ⟨h6_⟩
              replace HB : Aside0 (Below w.heap.size w w32) := ⟨h7_⟩
              clear h0_ h1_ h2_ h3_ h4_ h5_ h6_ h7_
              have hHeld : w32.cell? ⟨gb415, 0, none⟩ = some (.int .i64 a0_0) ∧ w32.cell? ⟨gb415, 1, none⟩ = some (.int .i64 a0_1) ∧ w32.cell? ⟨gb415, 2, none⟩ = some (.slice Ao24 x416002_1.length co24) ∧ w32.cell? ⟨gb417, 0, none⟩ = some (.slice A416_0 ((rd_T75 l0_2 x4_1).f0).length c416_0) ∧ w32.cell? ⟨gb417, 1, none⟩ = some (.slice A416_1 ((rd_T75 l0_2 x4_1).f1).length c416_1) ∧ w32.cell? ⟨gb417, 2, none⟩ = some (.slice A416_2 ((rd_T75 l0_2 x4_1).f2).length c416_2) := hS_
              refine norm_ (a' := ?_) ?_ ?_
              rotate_left
              ·simp only [putAll, Act.put, List.setIfInBounds_toArray, List.set_cons_zero, List.set_cons_succ]
               rfl
              refine oI 6 (some 29) HT_.out (fun K hK => ?_)
              refine Kd.R_lit_step (Kd.int .i64) _ 3 ?hg (N := 29) ?hd (xs := ([] : List Int)) (inner := []) (ok := fun _ => True) (okp := fun _ => True) ?hr ?hp (fun _ hk => hk) trivial (Below.refl _ _) (Nat.le_refl _) (by simp) ?_; (case hd => rfl); (case hg => rfl); (case hr => first | (go_simp; done) | (go_simp; rfl)); (case hp => exact (Reps.none _ _))
              intro v425 w33 ho34 hb hg_ hnew_
              clear hg_ hnew_
              (first | rw [← Ny424.out] at ho34 | (simp only [Int.reduceToNat] at ho34; rw [← Ny424.out] at ho34))
              replace HO_416002 := Aside0.mk (Kd.S_elder' (by (with_reducible repeat (first | apply Kd.S_alloc | apply Kd.S_drewN | apply Kd.S_drew)); exact HO_416002.out) (Kd.R_base ho34) hb)
              have HO426 := Aside0.mk (Kd.R_lower (Kd.R_new' (Kd.R_new' ho34 (Kd.R_lt (rP HO423))) (Kd.R_lt (rP HO432))) (below_size (bZ HB)))
              replace HO423 := Aside0.mk (Kd.R_elder' (rP HO423) (Kd.R_base ho34) hb)
              replace HO432 := Aside0.mk (Kd.R_elder' (rP HO432) (Kd.R_base ho34) hb)
              replace BK413 := bB BK413 hb
              replace BK414 := bB BK414 hb
              replace BK415 := bB BK415 hb
              replace BK417 := bB BK417 hb
              replace HB := bS HB hb
              clear hb ho34
              refine hK.out _ _ (bS3 BK415 (bT3 BK417)) (fun hHeld => ?_)
              clear hK K
              refine nO (some 29) ?_
              exact norm_ (by first | (simp only [putAll, Act.put, List.setIfInBounds_toArray, List.set_cons_zero, List.set_cons_succ]; done) | (simp only [putAll, Act.put, List.setIfInBounds_toArray, List.set_cons_zero, List.set_cons_succ]; rfl)) (hJ2_5_6_10 (v419, v422, v425, v431) _ ⟨hHeld, (by (with_reducible repeat (first | apply Kd.R_alloc | apply Kd.R_drewN | apply Kd.R_drew)); exact Kd.R_mono HO423.out (fun _ hk => ⟨hk.2, hk.1⟩)), (by (with_reducible repeat (first | apply Kd.R_alloc | apply Kd.R_drewN | apply Kd.R_drew)); exact Kd.R_mono HO426.out (fun _ hk => ⟨hk.1.2, hk.2⟩)), (rP HO432), (by (with_reducible repeat (first | apply Kd.S_alloc | apply Kd.S_drewN | apply Kd.S_drew)); exact Kd.S_mono HO_416002.out (fun _ hk => ⟨hk.1.1, ⟨hk.2, ⟨hk.1.2.1, hk.1.2.2⟩⟩⟩)), (bP BK413), (bP BK414), (bP BK415), (bP BK417), (bZ HB)⟩)
            ·skip
             rintro ⟨v419, v422, v425⟩ w32 ⟨hS_, h0_, h1_, h2_, h3_, h4_, h5_, h6_, h7_⟩
             have HO423 : Aside0 (Kd.R (Kd.int .i64) 3 w32 w.heap.size (fun k_ => some k_ ≠ (v425 : Value).ownBlock) v422 y421) := ⟨h0_⟩
             have HO426 : Aside0 (Kd.R (Kd.int .i64) 3 w32 w.heap.size (fun k_ => some k_ ≠ (v422 : Value).ownBlock) v425 y424) := ⟨h1_⟩
             replace HO_416002 : Aside0 (Kd.S k75 75 w32 w.heap.size (fun k_ => some k_ ≠ (v422 : Value).ownBlock ∧ some k_ ≠ (v425 : Value).ownBlock ∧ k_ ≠ gb417) (.slice Ao24 x416002_1.length co24) x416002_1) := ⟨h2_⟩
             replace BK413 : Aside0 (w32.heap[gb413]? = some (.cells #[.int .i64 a0_0, .int .i64 a0_1, .slice (some ad416) l0_2.length c0_2] 43 (0, 0))) := ⟨h3_⟩
             replace BK414 : Aside0 (w32.heap[gb414]? = some (.cells #[.int .i64 0, .int .i64 0, .slice none 0 0] 43 (0, 0))) := ⟨h4_⟩
             replace BK415 : Aside0 (w32.heap[gb415]? = some (.cells #[.int .i64 a0_0, .int .i64 a0_1, .slice Ao24 x416002_1.length co24] 43 (0, 0))) := ⟨h5_⟩
             replace BK417 : Aside0 (w32.heap[gb417]? = some (.cells #[.slice A416_0 ((rd_T75 l0_2 x4_1).f0).length c416_0, .slice A416_1 ((rd_T75 l0_2 x4_1).f1).length c416_1, .slice A416_2 ((rd_T75 l0_2 x4_1).f2).length c416_2] 75 (0, 0))) := ⟨h6_⟩
             replace HB : Aside0 (Below w.heap.size w w32) := ⟨h7_⟩
             clear h0_ h1_ h2_ h3_ h4_ h5_ h6_ h7_
             have hHeld : w32.cell? ⟨gb415, 0, none⟩ = some (.int .i64 a0_0) ∧ w32.cell? ⟨gb415, 1, none⟩ = some (.int .i64 a0_1) ∧ w32.cell? ⟨gb415, 2, none⟩ = some (.slice Ao24 x416002_1.length co24) ∧ w32.cell? ⟨gb417, 0, none⟩ = some (.slice A416_0 ((rd_T75 l0_2 x4_1).f0).length c416_0) ∧ w32.cell? ⟨gb417, 1, none⟩ = some (.slice A416_1 ((rd_T75 l0_2 x4_1).f1).length c416_1) ∧ w32.cell? ⟨gb417, 2, none⟩ = some (.slice A416_2 ((rd_T75 l0_2 x4_1).f2).length c416_2) := hS_
             refine norm_ (a' := ?_) ?_ ?_
             rotate_left
             ·simp only [putAll, Act.put, List.setIfInBounds_toArray, List.set_cons_zero, List.set_cons_succ]
              rfl
             refine two_ (i := 9) (j := 10) (Ni := some 32) (Nj := some 33) #[true, true, true, true, true, true, true, true, true, true, false, true, true, false, false, false, false, false, false] #[true, true, true, true, true, true, true, true, true, false, true, true, true, false, false, false, false, false, false] rfl rfl rfl rfl (two_of HT_.out (by kernel_rfl)) (by decide) (by decide) (fun K hK => ?_) (fun K hK => ?_)
             ·skip
              refine Kd.R_append_rows_step (Kd.int .i64) (w0 := w) w.heap.size (by rfl) (.tmp 29) (.tmp 31) 31 3 (.int .i64 0) 8 rfl Try.underlying31 info3 rfl (by decide) (by omega) v425 y424 ((rd_T75 l0_2 x4_1).f1) _ _ _ (fun k_ => some k_ ≠ (v422 : Value).ownBlock) (fun _ => False) rfl rfl ?aO ?aR (fun _ _ h => h) (fun _ h => h.elim) ?aF ?aB ?aS ?aL ?_
              (case aR => exact cP (Kd.C_below HR416_1.out HB.out))
              (case aB => exact (bZ HB))
              (case aF => exact (fun k_ hk => Kd.fresh' (Kd.R_lt (rP HO423)) k_ hk))
              (case aO => exact (rP HO426))
              (case aS => exact (below_size (bZ HB)))
              (case aL => have := LMc13.out; omega)
              intro v428 w33 ho hb hg hat
              rw [← Ny427.out] at ho
              replace HO_416002 := Aside0.mk (Kd.S_after (ok := (fun k_ => some k_ ≠ (v422 : Value).ownBlock ∧ k_ ≠ gb417)) (by (with_reducible repeat (first | apply Kd.S_alloc | apply Kd.S_drewN | apply Kd.S_drew)); exact Kd.S_mono HO_416002.out (fun _ hk => ⟨⟨hk.1, hk.2.2⟩, hk.2.1⟩)) hg hat)
              replace BK413 := Aside0.mk (blk_grown (bP BK413) hg (Kd.R_ne HO426.out BK413.out (by decide)))
              replace BK414 := Aside0.mk (blk_grown (bP BK414) hg (Kd.R_ne HO426.out BK414.out (by decide)))
              replace BK415 := Aside0.mk (blk_grown (bP BK415) hg (Kd.R_ne HO426.out BK415.out (by decide)))
              replace BK417 := Aside0.mk (blk_grown (bP BK417) hg (Kd.R_ne HO426.out BK417.out (by decide)))
              replace HO423 := Aside0.mk (Kd.R_after (ok := (fun _ => True)) (by (with_reducible repeat (first | apply Kd.R_alloc | apply Kd.R_drewN | apply Kd.R_drew)); exact Kd.R_mono HO423.out (fun _ hk => ⟨trivial, hk⟩)) hg hat)
              replace HB := Aside0.mk (hb)
              have HO429 := Aside0.mk (ho)
              clear HO426
              clear ho hb hg hat
              refine hK.out _ _ (bS3 BK415 (bT3 BK417)) (fun hHeld => ?_)
              clear hK K
              refine nO (some 32) ?_
              exact norm_ (by first | (simp only [putAll, Act.put, List.setIfInBounds_toArray, List.set_cons_zero, List.set_cons_succ]; done) | (simp only [putAll, Act.put, List.setIfInBounds_toArray, List.set_cons_zero, List.set_cons_succ]; rfl)) (hJ2_5_6_9 (v419, v422, v425, v428) _ ⟨hHeld, (by (with_reducible repeat (first | apply Kd.R_alloc | apply Kd.R_drewN | apply Kd.R_drew)); exact Kd.R_mono HO423.out (fun _ hk => hk.2)), (rP HO429), (by (with_reducible repeat (first | apply Kd.S_alloc | apply Kd.S_drewN | apply Kd.S_drew)); exact Kd.S_mono HO_416002.out (fun _ hk => ⟨hk.1.1, ⟨hk.2, hk.1.2⟩⟩)), (bP BK413), (bP BK414), (bP BK415), (bP BK417), (bZ HB)⟩)
             ·skip
              refine Kd.R_lit_step (Kd.int .i64) _ 3 ?hg (N := 33) ?hd (xs := ([] : List Int)) (inner := []) (ok := fun _ => True) (okp := fun _ => True) ?hr ?hp (fun _ hk => hk) trivial (Below.refl _ _) (Nat.le_refl _) (by simp) ?_; (case hd => rfl); (case hg => rfl); (case hr => first | (go_simp; done) | (go_simp; rfl)); (case hp => exact (Reps.none _ _))
              intro v431 w33 ho34 hb hg_ hnew_
              clear hg_ hnew_
              (first | rw [← Ny430.out] at ho34 | (simp only [Int.reduceToNat] at ho34; rw [← Ny430.out] at ho34))
              replace HO_416002 := Aside0.mk (Kd.S_elder' (by (with_reducible repeat (first | apply Kd.S_alloc | apply Kd.S_drewN | apply Kd.S_drew)); exact HO_416002.out) (Kd.R_base ho34) hb)
              have HO432 := Aside0.mk (Kd.R_lower (Kd.R_new' (Kd.R_new' ho34 (Kd.R_lt (rP HO423))) (Kd.R_lt (rP HO426))) (below_size (bZ HB)))
              replace HO423 := Aside0.mk (Kd.R_elder' (rP HO423) (Kd.R_base ho34) hb)
              replace HO426 := Aside0.mk (Kd.R_elder' (rP HO426) (Kd.R_base ho34) hb)
              replace BK413 := bB BK413 hb
              replace BK414 := bB BK414 hb
              replace BK415 := bB BK415 hb
              replace BK417 := bB BK417 hb
              replace HB := bS HB hb
              clear hb ho34
              refine hK.out _ _ (bS3 BK415 (bT3 BK417)) (fun hHeld => ?_)
              clear hK K
              refine nO (some 33) ?_
              exact norm_ (by first | (simp only [putAll, Act.put, List.setIfInBounds_toArray, List.set_cons_zero, List.set_cons_succ]; done) | (simp only [putAll, Act.put, List.setIfInBounds_toArray, List.set_cons_zero, List.set_cons_succ]; rfl)) (hJ2_5_6_10 (v419, v422, v425, v431) _ ⟨hHeld, (rP HO423), (rP HO426), (by (with_reducible repeat (first | apply Kd.R_alloc | apply Kd.R_drewN | apply Kd.R_drew)); exact Kd.R_mono HO432.out (fun _ hk => ⟨hk.1.2, hk.2⟩)), (by (with_reducible repeat (first | apply Kd.S_alloc | apply Kd.S_drewN | apply Kd.S_drew)); exact Kd.S_mono HO_416002.out (fun _ hk => ⟨hk.1.1, ⟨hk.1.2.1, ⟨hk.2, hk.1.2.2⟩⟩⟩)), (bP BK413), (bP BK414), (bP BK415), (bP BK417), (bZ HB)⟩)
           ·skip
            rintro ⟨v419, v422, v425, v431⟩ w34 ⟨hS_, h0_, h1_, h2_, h3_, h4_, h5_, h6_, h7_, h8_⟩
            have HO423 : Aside0 (Kd.R (Kd.int .i64) 3 w34 w.heap.size (fun k_ => some k_ ≠ (v425 : Value).ownBlock ∧ some k_ ≠ (v431 : Value).ownBlock) v422 y421) := ⟨h0_⟩
            have HO426 : Aside0 (Kd.R (Kd.int .i64) 3 w34 w.heap.size (fun k_ => some k_ ≠ (v422 : Value).ownBlock ∧ some k_ ≠ (v431 : Value).ownBlock) v425 y424) := ⟨h1_⟩
            have HO432 : Aside0 (Kd.R (Kd.int .i64) 3 w34 w.heap.size (fun k_ => some k_ ≠ (v422 : Value).ownBlock ∧ some k_ ≠ (v425 : Value).ownBlock) v431 y430) := ⟨h2_⟩
            replace HO_416002 : Aside0 (Kd.S k75 75 w34 w.heap.size (fun k_ => some k_ ≠ (v422 : Value).ownBlock ∧ some k_ ≠ (v425 : Value).ownBlock ∧ some k_ ≠ (v431 : Value).ownBlock ∧ k_ ≠ gb417) (.slice Ao24 x416002_1.length co24) x416002_1) := ⟨h3_⟩
            replace BK413 : Aside0 (w34.heap[gb413]? = some (.cells #[.int .i64 a0_0, .int .i64 a0_1, .slice (some ad416) l0_2.length c0_2] 43 (0, 0))) := ⟨h4_⟩
            replace BK414 : Aside0 (w34.heap[gb414]? = some (.cells #[.int .i64 0, .int .i64 0, .slice none 0 0] 43 (0, 0))) := ⟨h5_⟩
            replace BK415 : Aside0 (w34.heap[gb415]? = some (.cells #[.int .i64 a0_0, .int .i64 a0_1, .slice Ao24 x416002_1.length co24] 43 (0, 0))) := ⟨h6_⟩
            replace BK417 : Aside0 (w34.heap[gb417]? = some (.cells #[.slice A416_0 ((rd_T75 l0_2 x4_1).f0).length c416_0, .slice A416_1 ((rd_T75 l0_2 x4_1).f1).length c416_1, .slice A416_2 ((rd_T75 l0_2 x4_1).f2).length c416_2] 75 (0, 0))) := ⟨h7_⟩
            replace HB : Aside0 (Below w.heap.size w w34) := ⟨h8_⟩
            clear h0_ h1_ h2_ h3_ h4_ h5_ h6_ h7_ h8_
            have hHeld : w34.cell? ⟨gb415, 0, none⟩ = some (.int .i64 a0_0) ∧ w34.cell? ⟨gb415, 1, none⟩ = some (.int .i64 a0_1) ∧ w34.cell? ⟨gb415, 2, none⟩ = some (.slice Ao24 x416002_1.length co24) ∧ w34.cell? ⟨gb417, 0, none⟩ = some (.slice A416_0 ((rd_T75 l0_2 x4_1).f0).length c416_0) ∧ w34.cell? ⟨gb417, 1, none⟩ = some (.slice A416_1 ((rd_T75 l0_2 x4_1).f1).length c416_1) ∧ w34.cell? ⟨gb417, 2, none⟩ = some (.slice A416_2 ((rd_T75 l0_2 x4_1).f2).length c416_2) := hS_
            refine norm_ (a' := ?_) ?_ ?_
            rotate_left
            ·simp only [putAll, Act.put, List.setIfInBounds_toArray, List.set_cons_zero, List.set_cons_succ]
             rfl
            refine oI 9 (some 32) HT_.out (fun K hK => ?_)
            refine Kd.R_append_rows_step (Kd.int .i64) (w0 := w) w.heap.size (by rfl) (.tmp 29) (.tmp 31) 31 3 (.int .i64 0) 8 rfl Try.underlying31 info3 rfl (by decide) (by omega) v425 y424 ((rd_T75 l0_2 x4_1).f1) _ _ _ (fun k_ => some k_ ≠ (v422 : Value).ownBlock ∧ some k_ ≠ (v431 : Value).ownBlock) (fun _ => False) rfl rfl ?aO ?aR (fun _ _ h => h) (fun _ h => h.elim) ?aF ?aB ?aS ?aL ?_
            (case aR => exact cP (Kd.C_below HR416_1.out HB.out))
            (case aB => exact (bZ HB))
            (case aF => exact (fun k_ hk => ⟨Kd.fresh' (Kd.R_lt (rP HO423)) k_ hk, Kd.fresh' (Kd.R_lt (rP HO432)) k_ hk⟩))
            (case aO => exact (rP HO426))
            (case aS => exact (below_size (bZ HB)))
            (case aL => have := LMc13.out; omega)
            intro v428 w35 ho hb hg hat
            rw [← Ny427.out] at ho
            replace HO_416002 := Aside0.mk (Kd.S_after (ok := (fun k_ => some k_ ≠ (v422 : Value).ownBlock ∧ some k_ ≠ (v431 : Value).ownBlock ∧ k_ ≠ gb417)) (by (with_reducible repeat (first | apply Kd.S_alloc | apply Kd.S_drewN | apply Kd.S_drew)); exact Kd.S_mono HO_416002.out (fun _ hk => ⟨⟨hk.1, ⟨hk.2.2.1, hk.2.2.2⟩⟩, hk.2.1⟩)) hg hat)
            replace BK413 := Aside0.mk (blk_grown (bP BK413) hg (Kd.R_ne HO426.out BK413.out (by decide)))
            replace BK414 := Aside0.mk (blk_grown (bP BK414) hg (Kd.R_ne HO426.out BK414.out (by decide)))
            replace BK415 := Aside0.mk (blk_grown (bP BK415) hg (Kd.R_ne HO426.out BK415.out (by decide)))
            replace BK417 := Aside0.mk (blk_grown (bP BK417) hg (Kd.R_ne HO426.out BK417.out (by decide)))
            replace HO423 := Aside0.mk (Kd.R_after (ok := (fun k_ => some k_ ≠ (v431 : Value).ownBlock)) (by (with_reducible repeat (first | apply Kd.R_alloc | apply Kd.R_drewN | apply Kd.R_drew)); exact Kd.R_mono HO423.out (fun _ hk => ⟨hk.2, hk.1⟩)) hg hat)
            replace HO432 := Aside0.mk (Kd.R_after (ok := (fun k_ => some k_ ≠ (v422 : Value).ownBlock)) (rP HO432) hg hat)
            replace HB := Aside0.mk (hb)
            have HO429 := Aside0.mk (ho)
            clear HO426
            clear ho hb hg hat
            refine hK.out _ _ (bS3 BK415 (bT3 BK417)) (fun hHeld => ?_)
            clear hK K
            refine nO (some 32) ?_
            exact norm_ (by first | (simp only [putAll, Act.put, List.setIfInBounds_toArray, List.set_cons_zero, List.set_cons_succ]; done) | (simp only [putAll, Act.put, List.setIfInBounds_toArray, List.set_cons_zero, List.set_cons_succ]; rfl)) (hJ2_5_6_9_10 (v419, v422, v425, v428, v431) _ ⟨hHeld, (by (with_reducible repeat (first | apply Kd.R_alloc | apply Kd.R_drewN | apply Kd.R_drew)); exact Kd.R_mono HO423.out (fun _ hk => ⟨hk.2, hk.1⟩)), (rP HO429), (rP HO432), (by (with_reducible repeat (first | apply Kd.S_alloc | apply Kd.S_drewN | apply Kd.S_drew)); exact Kd.S_mono HO_416002.out (fun _ hk => ⟨hk.1.1, ⟨hk.2, ⟨hk.1.2.1, hk.1.2.2⟩⟩⟩)), (bP BK413), (bP BK414), (bP BK415), (bP BK417), (bZ HB)⟩)
          ·skip
           rintro ⟨v419, v422, v425, v428⟩ w33 ⟨hS_, h0_, h1_, h2_, h3_, h4_, h5_, h6_, h7_⟩
           have HO423 : Aside0 (Kd.R (Kd.int .i64) 3 w33 w.heap.size (fun k_ => some k_ ≠ (v428 : Value).ownBlock) v422 y421) := ⟨h0_⟩
           have HO429 : Aside0 (Kd.R (Kd.int .i64) 3 w33 w.heap.size (fun k_ => some k_ ≠ (v422 : Value).ownBlock) v428 y427) := ⟨h1_⟩
           replace HO_416002 : Aside0 (Kd.S k75 75 w33 w.heap.size (fun k_ => some k_ ≠ (v422 : Value).ownBlock ∧ some k_ ≠ (v428 : Value).ownBlock ∧ k_ ≠ gb417) (.slice Ao24 x416002_1.length co24) x416002_1) := ⟨h2_⟩
           replace BK413 : Aside0 (w33.heap[gb413]? = some (.cells #[.int .i64 a0_0, .int .i64 a0_1, .slice (some ad416) l0_2.length c0_2] 43 (0, 0))) := ⟨h3_⟩
           replace BK414 : Aside0 (w33.heap[gb414]? = some (.cells #[.int .i64 0, .int .i64 0, .slice none 0 0] 43 (0, 0))) := ⟨h4_⟩
           replace BK415 : Aside0 (w33.heap[gb415]? = some (.cells #[.int .i64 a0_0, .int .i64 a0_1, .slice Ao24 x416002_1.length co24] 43 (0, 0))) := ⟨h5_⟩
           replace BK417 : Aside0 (w33.heap[gb417]? = some (.cells #[.slice A416_0 ((rd_T75 l0_2 x4_1).f0).length c416_0, .slice A416_1 ((rd_T75 l0_2 x4_1).f1).length c416_1, .slice A416_2 ((rd_T75 l0_2 x4_1).f2).length c416_2] 75 (0, 0))) := ⟨h6_⟩
           replace HB : Aside0 (Below w.heap.size w w33) := ⟨h7_⟩
           clear h0_ h1_ h2_ h3_ h4_ h5_ h6_ h7_
           have hHeld : w33.cell? ⟨gb415, 0, none⟩ = some (.int .i64 a0_0) ∧ w33.cell? ⟨gb415, 1, none⟩ = some (.int .i64 a0_1) ∧ w33.cell? ⟨gb415, 2, none⟩ = some (.slice Ao24 x416002_1.length co24) ∧ w33.cell? ⟨gb417, 0, none⟩ = some (.slice A416_0 ((rd_T75 l0_2 x4_1).f0).length c416_0) ∧ w33.cell? ⟨gb417, 1, none⟩ = some (.slice A416_1 ((rd_T75 l0_2 x4_1).f1).length c416_1) ∧ w33.cell? ⟨gb417, 2, none⟩ = some (.slice A416_2 ((rd_T75 l0_2 x4_1).f2).length c416_2) := hS_
           refine norm_ (a' := ?_) ?_ ?_
           rotate_left
           ·simp only [putAll, Act.put, List.setIfInBounds_toArray, List.set_cons_zero, List.set_cons_succ]
            rfl
           refine oI 10 (some 33) HT_.out (fun K hK => ?_)
           refine Kd.R_lit_step (Kd.int .i64) _ 3 ?hg (N := 33) ?hd (xs := ([] : List Int)) (inner := []) (ok := fun _ => True) (okp := fun _ => True) ?hr ?hp (fun _ hk => hk) trivial (Below.refl _ _) (Nat.le_refl _) (by simp) ?_; (case hd => rfl); (case hg => rfl); (case hr => first | (go_simp; done) | (go_simp; rfl)); (case hp => exact (Reps.none _ _))
           intro v431 w34 ho35 hb hg_ hnew_
           clear hg_ hnew_
           (first | rw [← Ny430.out] at ho35 | (simp only [Int.reduceToNat] at ho35; rw [← Ny430.out] at ho35))
           replace HO_416002 := Aside0.mk (Kd.S_elder' (by (with_reducible repeat (first | apply Kd.S_alloc | apply Kd.S_drewN | apply Kd.S_drew)); exact HO_416002.out) (Kd.R_base ho35) hb)
           have HO432 := Aside0.mk (Kd.R_lower (Kd.R_new' (Kd.R_new' ho35 (Kd.R_lt (rP HO423))) (Kd.R_lt (rP HO429))) (below_size (bZ HB)))
           replace HO423 := Aside0.mk (Kd.R_elder' (rP HO423) (Kd.R_base ho35) hb)
           replace HO429 := Aside0.mk (Kd.R_elder' (rP HO429) (Kd.R_base ho35) hb)
           replace BK413 := bB BK413 hb
           replace BK414 := bB BK414 hb
           replace BK415 := bB BK415 hb
           replace BK417 := bB BK417 hb
           replace HB := bS HB hb
           clear hb ho35
           refine hK.out _ _ (bS3 BK415 (bT3 BK417)) (fun hHeld => ?_)
           clear hK K
           refine nO (some 33) ?_
           exact norm_ (by first | (simp only [putAll, Act.put, List.setIfInBounds_toArray, List.set_cons_zero, List.set_cons_succ]; done) | (simp only [putAll, Act.put, List.setIfInBounds_toArray, List.set_cons_zero, List.set_cons_succ]; rfl)) (hJ2_5_6_9_10 (v419, v422, v425, v428, v431) _ ⟨hHeld, (rP HO423), (rP HO429), (by (with_reducible repeat (first | apply Kd.R_alloc | apply Kd.R_drewN | apply Kd.R_drew)); exact Kd.R_mono HO432.out (fun _ hk => ⟨hk.1.2, hk.2⟩)), (by (with_reducible repeat (first | apply Kd.S_alloc | apply Kd.S_drewN | apply Kd.S_drew)); exact Kd.S_mono HO_416002.out (fun _ hk => ⟨hk.1.1, ⟨hk.1.2.1, ⟨hk.2, hk.1.2.2⟩⟩⟩)), (bP BK413), (bP BK414), (bP BK415), (bP BK417), (bZ HB)⟩)
         rintro ⟨v419, v422, v425, v428, v431⟩ w35 ⟨hS_, h0_, h1_, h2_, h3_, h4_, h5_, h6_, h7_, h8_⟩
         have HO423 : Aside0 (Kd.R (Kd.int .i64) 3 w35 w.heap.size (fun k_ => some k_ ≠ (v428 : Value).ownBlock ∧ some k_ ≠ (v431 : Value).ownBlock) v422 y421) := ⟨h0_⟩
         have HO429 : Aside0 (Kd.R (Kd.int .i64) 3 w35 w.heap.size (fun k_ => some k_ ≠ (v422 : Value).ownBlock ∧ some k_ ≠ (v431 : Value).ownBlock) v428 y427) := ⟨h1_⟩
         have HO432 : Aside0 (Kd.R (Kd.int .i64) 3 w35 w.heap.size (fun k_ => some k_ ≠ (v422 : Value).ownBlock ∧ some k_ ≠ (v428 : Value).ownBlock) v431 y430) := ⟨h2_⟩
         replace HO_416002 : Aside0 (Kd.S k75 75 w35 w.heap.size (fun k_ => some k_ ≠ (v422 : Value).ownBlock ∧ some k_ ≠ (v428 : Value).ownBlock ∧ some k_ ≠ (v431 : Value).ownBlock ∧ k_ ≠ gb417) (.slice Ao24 x416002_1.length co24) x416002_1) := ⟨h3_⟩
         replace BK413 : Aside0 (w35.heap[gb413]? = some (.cells #[.int .i64 a0_0, .int .i64 a0_1, .slice (some ad416) l0_2.length c0_2] 43 (0, 0))) := ⟨h4_⟩
         replace BK414 : Aside0 (w35.heap[gb414]? = some (.cells #[.int .i64 0, .int .i64 0, .slice none 0 0] 43 (0, 0))) := ⟨h5_⟩
         replace BK415 : Aside0 (w35.heap[gb415]? = some (.cells #[.int .i64 a0_0, .int .i64 a0_1, .slice Ao24 x416002_1.length co24] 43 (0, 0))) := ⟨h6_⟩
         replace BK417 : Aside0 (w35.heap[gb417]? = some (.cells #[.slice A416_0 ((rd_T75 l0_2 x4_1).f0).length c416_0, .slice A416_1 ((rd_T75 l0_2 x4_1).f1).length c416_1, .slice A416_2 ((rd_T75 l0_2 x4_1).f2).length c416_2] 75 (0, 0))) := ⟨h7_⟩
         replace HB : Aside0 (Below w.heap.size w w35) := ⟨h8_⟩
         clear h0_ h1_ h2_ h3_ h4_ h5_ h6_ h7_ h8_
         have hHeld : w35.cell? ⟨gb415, 0, none⟩ = some (.int .i64 a0_0) ∧ w35.cell? ⟨gb415, 1, none⟩ = some (.int .i64 a0_1) ∧ w35.cell? ⟨gb415, 2, none⟩ = some (.slice Ao24 x416002_1.length co24) ∧ w35.cell? ⟨gb417, 0, none⟩ = some (.slice A416_0 ((rd_T75 l0_2 x4_1).f0).length c416_0) ∧ w35.cell? ⟨gb417, 1, none⟩ = some (.slice A416_1 ((rd_T75 l0_2 x4_1).f1).length c416_1) ∧ w35.cell? ⟨gb417, 2, none⟩ = some (.slice A416_2 ((rd_T75 l0_2 x4_1).f2).length c416_2) := hS_
         refine norm_ (a' := ?_) ?_ ?_
         rotate_left
         ·simp only [putAll, Act.put, List.setIfInBounds_toArray, List.set_cons_zero, List.set_cons_succ]
          rfl
         refine oI 13 (some 36) HT_.out (fun K hK => ?_)
         refine Kd.R_append_rows_step (Kd.int .i64) (w0 := w) w.heap.size (by rfl) (.tmp 33) (.tmp 35) 31 3 (.int .i64 0) 8 rfl Try.underlying31 info3 rfl (by decide) (by omega) v431 y430 ((rd_T75 l0_2 x4_1).f2) _ _ _ (fun k_ => some k_ ≠ (v422 : Value).ownBlock ∧ some k_ ≠ (v428 : Value).ownBlock) (fun _ => False) rfl rfl ?aO ?aR (fun _ _ h => h) (fun _ h => h.elim) ?aF ?aB ?aS ?aL ?_
         (case aR => exact cP (Kd.C_below HR416_2.out HB.out))
         (case aB => exact (bZ HB))
         (case aF => exact (fun k_ hk => ⟨Kd.fresh' (Kd.R_lt (rP HO423)) k_ hk, Kd.fresh' (Kd.R_lt (rP HO429)) k_ hk⟩))
         (case aO => exact (rP HO432))
         (case aS => exact (below_size (bZ HB)))
         (case aL => have := LMc14.out; omega)
         intro v434 w36 ho hb hg hat
         rw [← Ny433.out] at ho
         replace HO_416002 := Aside0.mk (Kd.S_after (ok := (fun k_ => some k_ ≠ (v422 : Value).ownBlock ∧ some k_ ≠ (v428 : Value).ownBlock ∧ k_ ≠ gb417)) (by (with_reducible repeat (first | apply Kd.S_alloc | apply Kd.S_drewN | apply Kd.S_drew)); exact Kd.S_mono HO_416002.out (fun _ hk => ⟨⟨hk.1, ⟨hk.2.1, hk.2.2.2⟩⟩, hk.2.2.1⟩)) hg hat)
         replace BK413 := Aside0.mk (blk_grown (bP BK413) hg (Kd.R_ne HO432.out BK413.out (by decide)))
         replace BK414 := Aside0.mk (blk_grown (bP BK414) hg (Kd.R_ne HO432.out BK414.out (by decide)))
         replace BK415 := Aside0.mk (blk_grown (bP BK415) hg (Kd.R_ne HO432.out BK415.out (by decide)))
         replace BK417 := Aside0.mk (blk_grown (bP BK417) hg (Kd.R_ne HO432.out BK417.out (by decide)))
         replace HO423 := Aside0.mk (Kd.R_after (ok := (fun k_ => some k_ ≠ (v428 : Value).ownBlock)) (rP HO423) hg hat)
         replace HO429 := Aside0.mk (Kd.R_after (ok := (fun k_ => some k_ ≠ (v422 : Value).ownBlock)) (rP HO429) hg hat)
         replace HB := Aside0.mk (hb)
         have HO435 := Aside0.mk (ho)
         clear HO432
         clear ho hb hg hat
         obtain ⟨Ao37, co37, eo37⟩ := Kd.R_slice HO435.out
         (first | subst eo37 | (injection eo37 with f1_ f2_ f3_; have f4_ := f1_.symm; have f5_ := f3_.symm; clear f1_ f2_ f3_; subst f4_; subst f5_))
         obtain ⟨Ao38, co38, eo38⟩ := Kd.R_slice HO429.out
         (first | subst eo38 | (injection eo38 with f1_ f2_ f3_; have f4_ := f1_.symm; have f5_ := f3_.symm; clear f1_ f2_ f3_; subst f4_; subst f5_))
         obtain ⟨Ao39, co39, eo39⟩ := Kd.R_slice HO423.out
         (first | subst eo39 | (injection eo39 with f1_ f2_ f3_; have f4_ := f1_.symm; have f5_ := f3_.symm; clear f1_ f2_ f3_; subst f4_; subst f5_))
         refine hK.out _ _ (bS3 BK415 (bT3 BK417)) (fun hHeld => ?_)
         clear hK K
         refine nO (some 36) ?_
         refine pI 14 (some 37) HT_.out ?_
         refine oI 15 (some 38) HT_.out (fun K hK => ?_)
         refine value_ (w1 := ?_) (v := ?_) (by rfl) rfl ?_ ?_
         rotate_left 2
         ·go_simp
          constructor
          ·rfl
          ·rfl
         refine hK.out _ _ ⟨(blk_cell (blk_alloc BK415.out _) 0).trans rfl, (blk_cell (blk_alloc BK415.out _) 1).trans rfl, (blk_cell (blk_alloc BK415.out _) 2).trans rfl, (blk_cell (blk_alloc BK417.out _) 0).trans rfl, (blk_cell (blk_alloc BK417.out _) 1).trans rfl, (blk_cell (blk_alloc BK417.out _) 2).trans rfl⟩ (fun hHeld => ?_)
         clear hK K
         refine nO (some 38) ?_
         refine oI 16 (some 39) HT_.out (fun K hK => ?_)
         refine Kd.S_append_step k75 (w0 := w) w.heap.size (by rfl) (.tmp 24) (.tmp 38) 41 75 (.agg #[(.slice none 0 0), (.slice none 0 0), (.slice none 0 0)]) 72 rfl Try.underlying41 info75 rfl (by decide) (by omega) (.slice Ao24 x416002_1.length co24) x416002_1 (⟨y421, y427, y433⟩ : S75) [.slice Ao39 y421.length co39, .slice Ao38 y427.length co38, .slice Ao37 y433.length co37] (fun k_ => k_ ≠ gb417) (fun k_ => some k_ = (.slice Ao39 y421.length co39 : Value).ownBlock ∨ some k_ = (.slice Ao38 y427.length co38 : Value).ownBlock ∨ some k_ = (.slice Ao37 y433.length co37 : Value).ownBlock) rfl rfl ?aP (fun k_ hk_ => hk_.elim (fun h_ => ((Kd.R_mono (ok' := fun k_ => ((fun k_ => k_ ≠ gb417)) k_ ∧ some k_ ≠ (.slice Ao24 x416002_1.length co24 : Value).ownBlock) (Kd.R_types (Kd.R_apart' (HO423.out) (Kd.S_typed HO_416002.out) (by decide)) BK417.out (by decide)) (fun k_ hk => ⟨hk.2, hk.1.2⟩))).1 k_ h_.symm) (fun h_ => h_.elim (fun h_ => ((Kd.R_mono (ok' := fun k_ => ((fun k_ => k_ ≠ gb417)) k_ ∧ some k_ ≠ (.slice Ao24 x416002_1.length co24 : Value).ownBlock) (Kd.R_types (Kd.R_apart' (HO429.out) (Kd.S_typed HO_416002.out) (by decide)) BK417.out (by decide)) (fun k_ hk => ⟨hk.2, hk.1.2⟩))).1 k_ h_.symm) (fun h_ => ((Kd.R_mono (ok' := fun k_ => ((fun k_ => k_ ≠ gb417)) k_ ∧ some k_ ≠ (.slice Ao24 x416002_1.length co24 : Value).ownBlock) (Kd.R_types (Kd.R_apart' (HO435.out) (Kd.S_typed HO_416002.out) (by decide)) BK417.out (by decide)) (fun k_ hk => ⟨hk.2, hk.1.2⟩))).1 k_ h_.symm))) ?aF ?aO ?aB ?aS ?aL ?_
         (case aP => exact k75_mkM _ _ _ (⟨y421, y427, y433⟩ : S75) (Kd.R_mono (Kd.R_tight rfl (Kd.R_mono (ok' := fun k_ => ((fun k_ => k_ ≠ gb417)) k_ ∧ some k_ ≠ (.slice Ao24 x416002_1.length co24 : Value).ownBlock) (Kd.R_types (Kd.R_apart' (HO423.out) (Kd.S_typed HO_416002.out) (by decide)) BK417.out (by decide)) (fun k_ hk => ⟨hk.2, hk.1.2⟩))) (fun _ h_ => Or.inl h_)) (Kd.R_mono (Kd.R_tight rfl (Kd.R_mono (ok' := fun k_ => ((fun k_ => k_ ≠ gb417)) k_ ∧ some k_ ≠ (.slice Ao24 x416002_1.length co24 : Value).ownBlock) (Kd.R_types (Kd.R_apart' (HO429.out) (Kd.S_typed HO_416002.out) (by decide)) BK417.out (by decide)) (fun k_ hk => ⟨hk.2, hk.1.2⟩))) (fun _ h_ => Or.inr (Or.inl h_))) (Kd.R_mono (Kd.R_tight rfl (Kd.R_mono (ok' := fun k_ => ((fun k_ => k_ ≠ gb417)) k_ ∧ some k_ ≠ (.slice Ao24 x416002_1.length co24 : Value).ownBlock) (Kd.R_types (Kd.R_apart' (HO435.out) (Kd.S_typed HO_416002.out) (by decide)) BK417.out (by decide)) (fun k_ hk => ⟨hk.2, hk.1.2⟩))) (fun _ h_ => Or.inr (Or.inr (h_)))) (fun k_ e_ e2_ => by first | (have h_ := HO423.out.1 k_ e_; first | exact h_ e2_.symm | exact h_.1 e2_.symm | exact h_.2 e2_.symm | exact h_.1.1 e2_.symm | exact h_.2.1 e2_.symm | exact h_.1.2 e2_.symm | exact h_.2.2 e2_.symm | exact h_.1.1.1 e2_.symm | exact h_.2.1.1 e2_.symm | exact h_.1.2.1 e2_.symm | exact h_.2.2.1 e2_.symm | exact h_.1.1.2 e2_.symm | exact h_.2.1.2 e2_.symm | exact h_.1.2.2 e2_.symm | exact h_.2.2.2 e2_.symm | exact h_.1.1.1.1 e2_.symm | exact h_.2.1.1.1 e2_.symm | exact h_.1.2.1.1 e2_.symm | exact h_.2.2.1.1 e2_.symm | exact h_.1.1.2.1 e2_.symm | exact h_.2.1.2.1 e2_.symm | exact h_.1.2.2.1 e2_.symm | exact h_.2.2.2.1 e2_.symm | exact h_.1.1.1.2 e2_.symm | exact h_.2.1.1.2 e2_.symm | exact h_.1.2.1.2 e2_.symm | exact h_.2.2.1.2 e2_.symm | exact h_.1.1.2.2 e2_.symm | exact h_.2.1.2.2 e2_.symm | exact h_.1.2.2.2 e2_.symm | exact h_.2.2.2.2 e2_.symm | exact h_.1.1.1.1.1 e2_.symm | exact h_.2.1.1.1.1 e2_.symm | exact h_.1.2.1.1.1 e2_.symm | exact h_.2.2.1.1.1 e2_.symm | exact h_.1.1.2.1.1 e2_.symm | exact h_.2.1.2.1.1 e2_.symm | exact h_.1.2.2.1.1 e2_.symm | exact h_.2.2.2.1.1 e2_.symm | exact h_.1.1.1.2.1 e2_.symm | exact h_.2.1.1.2.1 e2_.symm | exact h_.1.2.1.2.1 e2_.symm | exact h_.2.2.1.2.1 e2_.symm | exact h_.1.1.2.2.1 e2_.symm | exact h_.2.1.2.2.1 e2_.symm | exact h_.1.2.2.2.1 e2_.symm | exact h_.2.2.2.2.1 e2_.symm | exact h_.1.1.1.1.2 e2_.symm | exact h_.2.1.1.1.2 e2_.symm | exact h_.1.2.1.1.2 e2_.symm | exact h_.2.2.1.1.2 e2_.symm | exact h_.1.1.2.1.2 e2_.symm | exact h_.2.1.2.1.2 e2_.symm | exact h_.1.2.2.1.2 e2_.symm | exact h_.2.2.2.1.2 e2_.symm | exact h_.1.1.1.2.2 e2_.symm | exact h_.2.1.1.2.2 e2_.symm | exact h_.1.2.1.2.2 e2_.symm | exact h_.2.2.1.2.2 e2_.symm | exact h_.1.1.2.2.2 e2_.symm | exact h_.2.1.2.2.2 e2_.symm | exact h_.1.2.2.2.2 e2_.symm | exact h_.2.2.2.2.2 e2_.symm | exact h_.1.1.1.1.1.1 e2_.symm | exact h_.2.1.1.1.1.1 e2_.symm | exact h_.1.2.1.1.1.1 e2_.symm | exact h_.2.2.1.1.1.1 e2_.symm | exact h_.1.1.2.1.1.1 e2_.symm | exact h_.2.1.2.1.1.1 e2_.symm | exact h_.1.2.2.1.1.1 e2_.symm | exact h_.2.2.2.1.1.1 e2_.symm | exact h_.1.1.1.2.1.1 e2_.symm | exact h_.2.1.1.2.1.1 e2_.symm | exact h_.1.2.1.2.1.1 e2_.symm | exact h_.2.2.1.2.1.1 e2_.symm | exact h_.1.1.2.2.1.1 e2_.symm | exact h_.2.1.2.2.1.1 e2_.symm | exact h_.1.2.2.2.1.1 e2_.symm | exact h_.2.2.2.2.1.1 e2_.symm | exact h_.1.1.1.1.2.1 e2_.symm | exact h_.2.1.1.1.2.1 e2_.symm | exact h_.1.2.1.1.2.1 e2_.symm | exact h_.2.2.1.1.2.1 e2_.symm | exact h_.1.1.2.1.2.1 e2_.symm | exact h_.2.1.2.1.2.1 e2_.symm | exact h_.1.2.2.1.2.1 e2_.symm | exact h_.2.2.2.1.2.1 e2_.symm | exact h_.1.1.1.2.2.1 e2_.symm | exact h_.2.1.1.2.2.1 e2_.symm | exact h_.1.2.1.2.2.1 e2_.symm | exact h_.2.2.1.2.2.1 e2_.symm | exact h_.1.1.2.2.2.1 e2_.symm | exact h_.2.1.2.2.2.1 e2_.symm | exact h_.1.2.2.2.2.1 e2_.symm | exact h_.2.2.2.2.2.1 e2_.symm | exact h_.1.1.1.1.1.2 e2_.symm | exact h_.2.1.1.1.1.2 e2_.symm | exact h_.1.2.1.1.1.2 e2_.symm | exact h_.2.2.1.1.1.2 e2_.symm | exact h_.1.1.2.1.1.2 e2_.symm | exact h_.2.1.2.1.1.2 e2_.symm | exact h_.1.2.2.1.1.2 e2_.symm | exact h_.2.2.2.1.1.2 e2_.symm | exact h_.1.1.1.2.1.2 e2_.symm | exact h_.2.1.1.2.1.2 e2_.symm | exact h_.1.2.1.2.1.2 e2_.symm | exact h_.2.2.1.2.1.2 e2_.symm | exact h_.1.1.2.2.1.2 e2_.symm | exact h_.2.1.2.2.1.2 e2_.symm | exact h_.1.2.2.2.1.2 e2_.symm | exact h_.2.2.2.2.1.2 e2_.symm | exact h_.1.1.1.1.2.2 e2_.symm | exact h_.2.1.1.1.2.2 e2_.symm | exact h_.1.2.1.1.2.2 e2_.symm | exact h_.2.2.1.1.2.2 e2_.symm | exact h_.1.1.2.1.2.2 e2_.symm | exact h_.2.1.2.1.2.2 e2_.symm | exact h_.1.2.2.1.2.2 e2_.symm | exact h_.2.2.2.1.2.2 e2_.symm | exact h_.1.1.1.2.2.2 e2_.symm | exact h_.2.1.1.2.2.2 e2_.symm | exact h_.1.2.1.2.2.2 e2_.symm | exact h_.2.2.1.2.2.2 e2_.symm | exact h_.1.1.2.2.2.2 e2_.symm | exact h_.2.1.2.2.2.2 e2_.symm | exact h_.1.2.2.2.2.2 e2_.symm | exact h_.2.2.2.2.2.2 e2_.symm) | (have h_ := HO429.out.1 k_ e2_; first | exact h_ e_.symm | exact h_.1 e_.symm | exact h_.2 e_.symm | exact h_.1.1 e_.symm | exact h_.2.1 e_.symm | exact h_.1.2 e_.symm | exact h_.2.2 e_.symm | exact h_.1.1.1 e_.symm | exact h_.2.1.1 e_.symm | exact h_.1.2.1 e_.symm | exact h_.2.2.1 e_.symm | exact h_.1.1.2 e_.symm | exact h_.2.1.2 e_.symm | exact h_.1.2.2 e_.symm | exact h_.2.2.2 e_.symm | exact h_.1.1.1.1 e_.symm | exact h_.2.1.1.1 e_.symm | exact h_.1.2.1.1 e_.symm | exact h_.2.2.1.1 e_.symm | exact h_.1.1.2.1 e_.symm | exact h_.2.1.2.1 e_.symm | exact h_.1.2.2.1 e_.symm | exact h_.2.2.2.1 e_.symm | exact h_.1.1.1.2 e_.symm | exact h_.2.1.1.2 e_.symm | exact h_.1.2.1.2 e_.symm | exact h_.2.2.1.2 e_.symm | exact h_.1.1.2.2 e_.symm | exact h_.2.1.2.2 e_.symm | exact h_.1.2.2.2 e_.symm | exact h_.2.2.2.2 e_.symm | exact h_.1.1.1.1.1 e_.symm | exact h_.2.1.1.1.1 e_.symm | exact h_.1.2.1.1.1 e_.symm | exact h_.2.2.1.1.1 e_.symm | exact h_.1.1.2.1.1 e_.symm | exact h_.2.1.2.1.1 e_.symm | exact h_.1.2.2.1.1 e_.symm | exact h_.2.2.2.1.1 e_.symm | exact h_.1.1.1.2.1 e_.symm | exact h_.2.1.1.2.1 e_.symm | exact h_.1.2.1.2.1 e_.symm | exact h_.2.2.1.2.1 e_.symm | exact h_.1.1.2.2.1 e_.symm | exact h_.2.1.2.2.1 e_.symm | exact h_.1.2.2.2.1 e_.symm | exact h_.2.2.2.2.1 e_.symm | exact h_.1.1.1.1.2 e_.symm | exact h_.2.1.1.1.2 e_.symm | exact h_.1.2.1.1.2 e_.symm | exact h_.2.2.1.1.2 e_.symm | exact h_.1.1.2.1.2 e_.symm | exact h_.2.1.2.1.2 e_.symm | exact h_.1.2.2.1.2 e_.symm | exact h_.2.2.2.1.2 e_.symm | exact h_.1.1.1.2.2 e_.symm | exact h_.2.1.1.2.2 e_.symm | exact h_.1.2.1.2.2 e_.symm | exact h_.2.2.1.2.2 e_.symm | exact h_.1.1.2.2.2 e_.symm | exact h_.2.1.2.2.2 e_.symm | exact h_.1.2.2.2.2 e_.symm | exact h_.2.2.2.2.2 e_.symm | exact h_.1.1.1.1.1.1 e_.symm | exact h_.2.1.1.1.1.1 e_.symm | exact h_.1.2.1.1.1.1 e_.symm | exact h_.2.2.1.1.1.1 e_.symm | exact h_.1.1.2.1.1.1 e_.symm | exact h_.2.1.2.1.1.1 e_.symm | exact h_.1.2.2.1.1.1 e_.symm | exact h_.2.2.2.1.1.1 e_.symm | exact h_.1.1.1.2.1.1 e_.symm | exact h_.2.1.1.2.1.1 e_.symm | exact h_.1.2.1.2.1.1 e_.symm | exact h_.2.2.1.2.1.1 e_.symm | exact h_.1.1.2.2.1.1 e_.symm | exact h_.2.1.2.2.1.1 e_.symm | exact h_.1.2.2.2.1.1 e_.symm | exact h_.2.2.2.2.1.1 e_.symm | exact h_.1.1.1.1.2.1 e_.symm | exact h_.2.1.1.1.2.1 e_.symm | exact h_.1.2.1.1.2.1 e_.symm | exact h_.2.2.1.1.2.1 e_.symm | exact h_.1.1.2.1.2.1 e_.symm | exact h_.2.1.2.1.2.1 e_.symm | exact h_.1.2.2.1.2.1 e_.symm | exact h_.2.2.2.1.2.1 e_.symm | exact h_.1.1.1.2.2.1 e_.symm | exact h_.2.1.1.2.2.1 e_.symm | exact h_.1.2.1.2.2.1 e_.symm | exact h_.2.2.1.2.2.1 e_.symm | exact h_.1.1.2.2.2.1 e_.symm | exact h_.2.1.2.2.2.1 e_.symm | exact h_.1.2.2.2.2.1 e_.symm | exact h_.2.2.2.2.2.1 e_.symm | exact h_.1.1.1.1.1.2 e_.symm | exact h_.2.1.1.1.1.2 e_.symm | exact h_.1.2.1.1.1.2 e_.symm | exact h_.2.2.1.1.1.2 e_.symm | exact h_.1.1.2.1.1.2 e_.symm | exact h_.2.1.2.1.1.2 e_.symm | exact h_.1.2.2.1.1.2 e_.symm | exact h_.2.2.2.1.1.2 e_.symm | exact h_.1.1.1.2.1.2 e_.symm | exact h_.2.1.1.2.1.2 e_.symm | exact h_.1.2.1.2.1.2 e_.symm | exact h_.2.2.1.2.1.2 e_.symm | exact h_.1.1.2.2.1.2 e_.symm | exact h_.2.1.2.2.1.2 e_.symm | exact h_.1.2.2.2.1.2 e_.symm | exact h_.2.2.2.2.1.2 e_.symm | exact h_.1.1.1.1.2.2 e_.symm | exact h_.2.1.1.1.2.2 e_.symm | exact h_.1.2.1.1.2.2 e_.symm | exact h_.2.2.1.1.2.2 e_.symm | exact h_.1.1.2.1.2.2 e_.symm | exact h_.2.1.2.1.2.2 e_.symm | exact h_.1.2.2.1.2.2 e_.symm | exact h_.2.2.2.1.2.2 e_.symm | exact h_.1.1.1.2.2.2 e_.symm | exact h_.2.1.1.2.2.2 e_.symm | exact h_.1.2.1.2.2.2 e_.symm | exact h_.2.2.1.2.2.2 e_.symm | exact h_.1.1.2.2.2.2 e_.symm | exact h_.2.1.2.2.2.2 e_.symm | exact h_.1.2.2.2.2.2 e_.symm | exact h_.2.2.2.2.2.2 e_.symm)) (fun k_ e_ e2_ => by first | (have h_ := HO423.out.1 k_ e_; first | exact h_ e2_.symm | exact h_.1 e2_.symm | exact h_.2 e2_.symm | exact h_.1.1 e2_.symm | exact h_.2.1 e2_.symm | exact h_.1.2 e2_.symm | exact h_.2.2 e2_.symm | exact h_.1.1.1 e2_.symm | exact h_.2.1.1 e2_.symm | exact h_.1.2.1 e2_.symm | exact h_.2.2.1 e2_.symm | exact h_.1.1.2 e2_.symm | exact h_.2.1.2 e2_.symm | exact h_.1.2.2 e2_.symm | exact h_.2.2.2 e2_.symm | exact h_.1.1.1.1 e2_.symm | exact h_.2.1.1.1 e2_.symm | exact h_.1.2.1.1 e2_.symm | exact h_.2.2.1.1 e2_.symm | exact h_.1.1.2.1 e2_.symm | exact h_.2.1.2.1 e2_.symm | exact h_.1.2.2.1 e2_.symm | exact h_.2.2.2.1 e2_.symm | exact h_.1.1.1.2 e2_.symm | exact h_.2.1.1.2 e2_.symm | exact h_.1.2.1.2 e2_.symm | exact h_.2.2.1.2 e2_.symm | exact h_.1.1.2.2 e2_.symm | exact h_.2.1.2.2 e2_.symm | exact h_.1.2.2.2 e2_.symm | exact h_.2.2.2.2 e2_.symm | exact h_.1.1.1.1.1 e2_.symm | exact h_.2.1.1.1.1 e2_.symm | exact h_.1.2.1.1.1 e2_.symm | exact h_.2.2.1.1.1 e2_.symm | exact h_.1.1.2.1.1 e2_.symm | exact h_.2.1.2.1.1 e2_.symm | exact h_.1.2.2.1.1 e2_.symm | exact h_.2.2.2.1.1 e2_.symm | exact h_.1.1.1.2.1 e2_.symm | exact h_.2.1.1.2.1 e2_.symm | exact h_.1.2.1.2.1 e2_.symm | exact h_.2.2.1.2.1 e2_.symm | exact h_.1.1.2.2.1 e2_.symm | exact h_.2.1.2.2.1 e2_.symm | exact h_.1.2.2.2.1 e2_.symm | exact h_.2.2.2.2.1 e2_.symm | exact h_.1.1.1.1.2 e2_.symm | exact h_.2.1.1.1.2 e2_.symm | exact h_.1.2.1.1.2 e2_.symm | exact h_.2.2.1.1.2 e2_.symm | exact h_.1.1.2.1.2 e2_.symm | exact h_.2.1.2.1.2 e2_.symm | exact h_.1.2.2.1.2 e2_.symm | exact h_.2.2.2.1.2 e2_.symm | exact h_.1.1.1.2.2 e2_.symm | exact h_.2.1.1.2.2 e2_.symm | exact h_.1.2.1.2.2 e2_.symm | exact h_.2.2.1.2.2 e2_.symm | exact h_.1.1.2.2.2 e2_.symm | exact h_.2.1.2.2.2 e2_.symm | exact h_.1.2.2.2.2 e2_.symm | exact h_.2.2.2.2.2 e2_.symm | exact h_.1.1.1.1.1.1 e2_.symm | exact h_.2.1.1.1.1.1 e2_.symm | exact h_.1.2.1.1.1.1 e2_.symm | exact h_.2.2.1.1.1.1 e2_.symm | exact h_.1.1.2.1.1.1 e2_.symm | exact h_.2.1.2.1.1.1 e2_.symm | exact h_.1.2.2.1.1.1 e2_.symm | exact h_.2.2.2.1.1.1 e2_.symm | exact h_.1.1.1.2.1.1 e2_.symm | exact h_.2.1.1.2.1.1 e2_.symm | exact h_.1.2.1.2.1.1 e2_.symm | exact h_.2.2.1.2.1.1 e2_.symm | exact h_.1.1.2.2.1.1 e2_.symm | exact h_.2.1.2.2.1.1 e2_.symm | exact h_.1.2.2.2.1.1 e2_.symm | exact h_.2.2.2.2.1.1 e2_.symm | exact h_.1.1.1.1.2.1 e2_.symm | exact h_.2.1.1.1.2.1 e2_.symm | exact h_.1.2.1.1.2.1 e2_.symm | exact h_.2.2.1.1.2.1 e2_.symm | exact h_.1.1.2.1.2.1 e2_.symm | exact h_.2.1.2.1.2.1 e2_.symm | exact h_.1.2.2.1.2.1 e2_.symm | exact h_.2.2.2.1.2.1 e2_.symm | exact h_.1.1.1.2.2.1 e2_.symm | exact h_.2.1.1.2.2.1 e2_.symm | exact h_.1.2.1.2.2.1 e2_.symm | exact h_.2.2.1.2.2.1 e2_.symm | exact h_.1.1.2.2.2.1 e2_.symm | exact h_.2.1.2.2.2.1 e2_.symm | exact h_.1.2.2.2.2.1 e2_.symm | exact h_.2.2.2.2.2.1 e2_.symm | exact h_.1.1.1.1.1.2 e2_.symm | exact h_.2.1.1.1.1.2 e2_.symm | exact h_.1.2.1.1.1.2 e2_.symm | exact h_.2.2.1.1.1.2 e2_.symm | exact h_.1.1.2.1.1.2 e2_.symm | exact h_.2.1.2.1.1.2 e2_.symm | exact h_.1.2.2.1.1.2 e2_.symm | exact h_.2.2.2.1.1.2 e2_.symm | exact h_.1.1.1.2.1.2 e2_.symm | exact h_.2.1.1.2.1.2 e2_.symm | exact h_.1.2.1.2.1.2 e2_.symm | exact h_.2.2.1.2.1.2 e2_.symm | exact h_.1.1.2.2.1.2 e2_.symm | exact h_.2.1.2.2.1.2 e2_.symm | exact h_.1.2.2.2.1.2 e2_.symm | exact h_.2.2.2.2.1.2 e2_.symm | exact h_.1.1.1.1.2.2 e2_.symm | exact h_.2.1.1.1.2.2 e2_.symm | exact h_.1.2.1.1.2.2 e2_.symm | exact h_.2.2.1.1.2.2 e2_.symm | exact h_.1.1.2.1.2.2 e2_.symm | exact h_.2.1.2.1.2.2 e2_.symm | exact h_.1.2.2.1.2.2 e2_.symm | exact h_.2.2.2.1.2.2 e2_.symm | exact h_.1.1.1.2.2.2 e2_.symm | exact h_.2.1.1.2.2.2 e2_.symm | exact h_.1.2.1.2.2.2 e2_.symm | exact h_.2.2.1.2.2.2 e2_.symm | exact h_.1.1.2.2.2.2 e2_.symm | exact h_.2.1.2.2.2.2 e2_.symm | exact h_.1.2.2.2.2.2 e2_.symm | exact h_.2.2.2.2.2.2 e2_.symm) | (have h_ := HO435.out.1 k_ e2_; first | exact h_ e_.symm | exact h_.1 e_.symm | exact h_.2 e_.symm | exact h_.1.1 e_.symm | exact h_.2.1 e_.symm | exact h_.1.2 e_.symm | exact h_.2.2 e_.symm | exact h_.1.1.1 e_.symm | exact h_.2.1.1 e_.symm | exact h_.1.2.1 e_.symm | exact h_.2.2.1 e_.symm | exact h_.1.1.2 e_.symm | exact h_.2.1.2 e_.symm | exact h_.1.2.2 e_.symm | exact h_.2.2.2 e_.symm | exact h_.1.1.1.1 e_.symm | exact h_.2.1.1.1 e_.symm | exact h_.1.2.1.1 e_.symm | exact h_.2.2.1.1 e_.symm | exact h_.1.1.2.1 e_.symm | exact h_.2.1.2.1 e_.symm | exact h_.1.2.2.1 e_.symm | exact h_.2.2.2.1 e_.symm | exact h_.1.1.1.2 e_.symm | exact h_.2.1.1.2 e_.symm | exact h_.1.2.1.2 e_.symm | exact h_.2.2.1.2 e_.symm | exact h_.1.1.2.2 e_.symm | exact h_.2.1.2.2 e_.symm | exact h_.1.2.2.2 e_.symm | exact h_.2.2.2.2 e_.symm | exact h_.1.1.1.1.1 e_.symm | exact h_.2.1.1.1.1 e_.symm | exact h_.1.2.1.1.1 e_.symm | exact h_.2.2.1.1.1 e_.symm | exact h_.1.1.2.1.1 e_.symm | exact h_.2.1.2.1.1 e_.symm | exact h_.1.2.2.1.1 e_.symm | exact h_.2.2.2.1.1 e_.symm | exact h_.1.1.1.2.1 e_.symm | exact h_.2.1.1.2.1 e_.symm | exact h_.1.2.1.2.1 e_.symm | exact h_.2.2.1.2.1 e_.symm | exact h_.1.1.2.2.1 e_.symm | exact h_.2.1.2.2.1 e_.symm | exact h_.1.2.2.2.1 e_.symm | exact h_.2.2.2.2.1 e_.symm | exact h_.1.1.1.1.2 e_.symm | exact h_.2.1.1.1.2 e_.symm | exact h_.1.2.1.1.2 e_.symm | exact h_.2.2.1.1.2 e_.symm | exact h_.1.1.2.1.2 e_.symm | exact h_.2.1.2.1.2 e_.symm | exact h_.1.2.2.1.2 e_.symm | exact h_.2.2.2.1.2 e_.symm | exact h_.1.1.1.2.2 e_.symm | exact h_.2.1.1.2.2 e_.symm | exact h_.1.2.1.2.2 e_.symm | exact h_.2.2.1.2.2 e_.symm | exact h_.1.1.2.2.2 e_.symm | exact h_.2.1.2.2.2 e_.symm | exact h_.1.2.2.2.2 e_.symm | exact h_.2.2.2.2.2 e_.symm | exact h_.1.1.1.1.1.1 e_.symm | exact h_.2.1.1.1.1.1 e_.symm | exact h_.1.2.1.1.1.1 e_.symm | exact h_.2.2.1.1.1.1 e_.symm | exact h_.1.1.2.1.1.1 e_.symm | exact h_.2.1.2.1.1.1 e_.symm | exact h_.1.2.2.1.1.1 e_.symm | exact h_.2.2.2.1.1.1 e_.symm | exact h_.1.1.1.2.1.1 e_.symm | exact h_.2.1.1.2.1.1 e_.symm | exact h_.1.2.1.2.1.1 e_.symm | exact h_.2.2.1.2.1.1 e_.symm | exact h_.1.1.2.2.1.1 e_.symm | exact h_.2.1.2.2.1.1 e_.symm | exact h_.1.2.2.2.1.1 e_.symm | exact h_.2.2.2.2.1.1 e_.symm | exact h_.1.1.1.1.2.1 e_.symm | exact h_.2.1.1.1.2.1 e_.symm | exact h_.1.2.1.1.2.1 e_.symm | exact h_.2.2.1.1.2.1 e_.symm | exact h_.1.1.2.1.2.1 e_.symm | exact h_.2.1.2.1.2.1 e_.symm | exact h_.1.2.2.1.2.1 e_.symm | exact h_.2.2.2.1.2.1 e_.symm | exact h_.1.1.1.2.2.1 e_.symm | exact h_.2.1.1.2.2.1 e_.symm | exact h_.1.2.1.2.2.1 e_.symm | exact h_.2.2.1.2.2.1 e_.symm | exact h_.1.1.2.2.2.1 e_.symm | exact h_.2.1.2.2.2.1 e_.symm | exact h_.1.2.2.2.2.1 e_.symm | exact h_.2.2.2.2.2.1 e_.symm | exact h_.1.1.1.1.1.2 e_.symm | exact h_.2.1.1.1.1.2 e_.symm | exact h_.1.2.1.1.1.2 e_.symm | exact h_.2.2.1.1.1.2 e_.symm | exact h_.1.1.2.1.1.2 e_.symm | exact h_.2.1.2.1.1.2 e_.symm | exact h_.1.2.2.1.1.2 e_.symm | exact h_.2.2.2.1.1.2 e_.symm | exact h_.1.1.1.2.1.2 e_.symm | exact h_.2.1.1.2.1.2 e_.symm | exact h_.1.2.1.2.1.2 e_.symm | exact h_.2.2.1.2.1.2 e_.symm | exact h_.1.1.2.2.1.2 e_.symm | exact h_.2.1.2.2.1.2 e_.symm | exact h_.1.2.2.2.1.2 e_.symm | exact h_.2.2.2.2.1.2 e_.symm | exact h_.1.1.1.1.2.2 e_.symm | exact h_.2.1.1.1.2.2 e_.symm | exact h_.1.2.1.1.2.2 e_.symm | exact h_.2.2.1.1.2.2 e_.symm | exact h_.1.1.2.1.2.2 e_.symm | exact h_.2.1.2.1.2.2 e_.symm | exact h_.1.2.2.1.2.2 e_.symm | exact h_.2.2.2.1.2.2 e_.symm | exact h_.1.1.1.2.2.2 e_.symm | exact h_.2.1.1.2.2.2 e_.symm | exact h_.1.2.1.2.2.2 e_.symm | exact h_.2.2.1.2.2.2 e_.symm | exact h_.1.1.2.2.2.2 e_.symm | exact h_.2.1.2.2.2.2 e_.symm | exact h_.1.2.2.2.2.2 e_.symm | exact h_.2.2.2.2.2.2 e_.symm)) (fun k_ e_ e2_ => by first | (have h_ := HO429.out.1 k_ e_; first | exact h_ e2_.symm | exact h_.1 e2_.symm | exact h_.2 e2_.symm | exact h_.1.1 e2_.symm | exact h_.2.1 e2_.symm | exact h_.1.2 e2_.symm | exact h_.2.2 e2_.symm | exact h_.1.1.1 e2_.symm | exact h_.2.1.1 e2_.symm | exact h_.1.2.1 e2_.symm | exact h_.2.2.1 e2_.symm | exact h_.1.1.2 e2_.symm | exact h_.2.1.2 e2_.symm | exact h_.1.2.2 e2_.symm | exact h_.2.2.2 e2_.symm | exact h_.1.1.1.1 e2_.symm | exact h_.2.1.1.1 e2_.symm | exact h_.1.2.1.1 e2_.symm | exact h_.2.2.1.1 e2_.symm | exact h_.1.1.2.1 e2_.symm | exact h_.2.1.2.1 e2_.symm | exact h_.1.2.2.1 e2_.symm | exact h_.2.2.2.1 e2_.symm | exact h_.1.1.1.2 e2_.symm | exact h_.2.1.1.2 e2_.symm | exact h_.1.2.1.2 e2_.symm | exact h_.2.2.1.2 e2_.symm | exact h_.1.1.2.2 e2_.symm | exact h_.2.1.2.2 e2_.symm | exact h_.1.2.2.2 e2_.symm | exact h_.2.2.2.2 e2_.symm | exact h_.1.1.1.1.1 e2_.symm | exact h_.2.1.1.1.1 e2_.symm | exact h_.1.2.1.1.1 e2_.symm | exact h_.2.2.1.1.1 e2_.symm | exact h_.1.1.2.1.1 e2_.symm | exact h_.2.1.2.1.1 e2_.symm | exact h_.1.2.2.1.1 e2_.symm | exact h_.2.2.2.1.1 e2_.symm | exact h_.1.1.1.2.1 e2_.symm | exact h_.2.1.1.2.1 e2_.symm | exact h_.1.2.1.2.1 e2_.symm | exact h_.2.2.1.2.1 e2_.symm | exact h_.1.1.2.2.1 e2_.symm | exact h_.2.1.2.2.1 e2_.symm | exact h_.1.2.2.2.1 e2_.symm | exact h_.2.2.2.2.1 e2_.symm | exact h_.1.1.1.1.2 e2_.symm | exact h_.2.1.1.1.2 e2_.symm | exact h_.1.2.1.1.2 e2_.symm | exact h_.2.2.1.1.2 e2_.symm | exact h_.1.1.2.1.2 e2_.symm | exact h_.2.1.2.1.2 e2_.symm | exact h_.1.2.2.1.2 e2_.symm | exact h_.2.2.2.1.2 e2_.symm | exact h_.1.1.1.2.2 e2_.symm | exact h_.2.1.1.2.2 e2_.symm | exact h_.1.2.1.2.2 e2_.symm | exact h_.2.2.1.2.2 e2_.symm | exact h_.1.1.2.2.2 e2_.symm | exact h_.2.1.2.2.2 e2_.symm | exact h_.1.2.2.2.2 e2_.symm | exact h_.2.2.2.2.2 e2_.symm | exact h_.1.1.1.1.1.1 e2_.symm | exact h_.2.1.1.1.1.1 e2_.symm | exact h_.1.2.1.1.1.1 e2_.symm | exact h_.2.2.1.1.1.1 e2_.symm | exact h_.1.1.2.1.1.1 e2_.symm | exact h_.2.1.2.1.1.1 e2_.symm | exact h_.1.2.2.1.1.1 e2_.symm | exact h_.2.2.2.1.1.1 e2_.symm | exact h_.1.1.1.2.1.1 e2_.symm | exact h_.2.1.1.2.1.1 e2_.symm | exact h_.1.2.1.2.1.1 e2_.symm | exact h_.2.2.1.2.1.1 e2_.symm | exact h_.1.1.2.2.1.1 e2_.symm | exact h_.2.1.2.2.1.1 e2_.symm | exact h_.1.2.2.2.1.1 e2_.symm | exact h_.2.2.2.2.1.1 e2_.symm | exact h_.1.1.1.1.2.1 e2_.symm | exact h_.2.1.1.1.2.1 e2_.symm | exact h_.1.2.1.1.2.1 e2_.symm | exact h_.2.2.1.1.2.1 e2_.symm | exact h_.1.1.2.1.2.1 e2_.symm | exact h_.2.1.2.1.2.1 e2_.symm | exact h_.1.2.2.1.2.1 e2_.symm | exact h_.2.2.2.1.2.1 e2_.symm | exact h_.1.1.1.2.2.1 e2_.symm | exact h_.2.1.1.2.2.1 e2_.symm | exact h_.1.2.1.2.2.1 e2_.symm | exact h_.2.2.1.2.2.1 e2_.symm | exact h_.1.1.2.2.2.1 e2_.symm | exact h_.2.1.2.2.2.1 e2_.symm | exact h_.1.2.2.2.2.1 e2_.symm | exact h_.2.2.2.2.2.1 e2_.symm | exact h_.1.1.1.1.1.2 e2_.symm | exact h_.2.1.1.1.1.2 e2_.symm | exact h_.1.2.1.1.1.2 e2_.symm | exact h_.2.2.1.1.1.2 e2_.symm | exact h_.1.1.2.1.1.2 e2_.symm | exact h_.2.1.2.1.1.2 e2_.symm | exact h_.1.2.2.1.1.2 e2_.symm | exact h_.2.2.2.1.1.2 e2_.symm | exact h_.1.1.1.2.1.2 e2_.symm | exact h_.2.1.1.2.1.2 e2_.symm | exact h_.1.2.1.2.1.2 e2_.symm | exact h_.2.2.1.2.1.2 e2_.symm | exact h_.1.1.2.2.1.2 e2_.symm | exact h_.2.1.2.2.1.2 e2_.symm | exact h_.1.2.2.2.1.2 e2_.symm | exact h_.2.2.2.2.1.2 e2_.symm | exact h_.1.1.1.1.2.2 e2_.symm | exact h_.2.1.1.1.2.2 e2_.symm | exact h_.1.2.1.1.2.2 e2_.symm | exact h_.2.2.1.1.2.2 e2_.symm | exact h_.1.1.2.1.2.2 e2_.symm | exact h_.2.1.2.1.2.2 e2_.symm | exact h_.1.2.2.1.2.2 e2_.symm | exact h_.2.2.2.1.2.2 e2_.symm | exact h_.1.1.1.2.2.2 e2_.symm | exact h_.2.1.1.2.2.2 e2_.symm | exact h_.1.2.1.2.2.2 e2_.symm | exact h_.2.2.1.2.2.2 e2_.symm | exact h_.1.1.2.2.2.2 e2_.symm | exact h_.2.1.2.2.2.2 e2_.symm | exact h_.1.2.2.2.2.2 e2_.symm | exact h_.2.2.2.2.2.2 e2_.symm) | (have h_ := HO435.out.1 k_ e2_; first | exact h_ e_.symm | exact h_.1 e_.symm | exact h_.2 e_.symm | exact h_.1.1 e_.symm | exact h_.2.1 e_.symm | exact h_.1.2 e_.symm | exact h_.2.2 e_.symm | exact h_.1.1.1 e_.symm | exact h_.2.1.1 e_.symm | exact h_.1.2.1 e_.symm | exact h_.2.2.1 e_.symm | exact h_.1.1.2 e_.symm | exact h_.2.1.2 e_.symm | exact h_.1.2.2 e_.symm | exact h_.2.2.2 e_.symm | exact h_.1.1.1.1 e_.symm | exact h_.2.1.1.1 e_.symm | exact h_.1.2.1.1 e_.symm | exact h_.2.2.1.1 e_.symm | exact h_.1.1.2.1 e_.symm | exact h_.2.1.2.1 e_.symm | exact h_.1.2.2.1 e_.symm | exact h_.2.2.2.1 e_.symm | exact h_.1.1.1.2 e_.symm | exact h_.2.1.1.2 e_.symm | exact h_.1.2.1.2 e_.symm | exact h_.2.2.1.2 e_.symm | exact h_.1.1.2.2 e_.symm | exact h_.2.1.2.2 e_.symm | exact h_.1.2.2.2 e_.symm | exact h_.2.2.2.2 e_.symm | exact h_.1.1.1.1.1 e_.symm | exact h_.2.1.1.1.1 e_.symm | exact h_.1.2.1.1.1 e_.symm | exact h_.2.2.1.1.1 e_.symm | exact h_.1.1.2.1.1 e_.symm | exact h_.2.1.2.1.1 e_.symm | exact h_.1.2.2.1.1 e_.symm | exact h_.2.2.2.1.1 e_.symm | exact h_.1.1.1.2.1 e_.symm | exact h_.2.1.1.2.1 e_.symm | exact h_.1.2.1.2.1 e_.symm | exact h_.2.2.1.2.1 e_.symm | exact h_.1.1.2.2.1 e_.symm | exact h_.2.1.2.2.1 e_.symm | exact h_.1.2.2.2.1 e_.symm | exact h_.2.2.2.2.1 e_.symm | exact h_.1.1.1.1.2 e_.symm | exact h_.2.1.1.1.2 e_.symm | exact h_.1.2.1.1.2 e_.symm | exact h_.2.2.1.1.2 e_.symm | exact h_.1.1.2.1.2 e_.symm | exact h_.2.1.2.1.2 e_.symm | exact h_.1.2.2.1.2 e_.symm | exact h_.2.2.2.1.2 e_.symm | exact h_.1.1.1.2.2 e_.symm | exact h_.2.1.1.2.2 e_.symm | exact h_.1.2.1.2.2 e_.symm | exact h_.2.2.1.2.2 e_.symm | exact h_.1.1.2.2.2 e_.symm | exact h_.2.1.2.2.2 e_.symm | exact h_.1.2.2.2.2 e_.symm | exact h_.2.2.2.2.2 e_.symm | exact h_.1.1.1.1.1.1 e_.symm | exact h_.2.1.1.1.1.1 e_.symm | exact h_.1.2.1.1.1.1 e_.symm | exact h_.2.2.1.1.1.1 e_.symm | exact h_.1.1.2.1.1.1 e_.symm | exact h_.2.1.2.1.1.1 e_.symm | exact h_.1.2.2.1.1.1 e_.symm | exact h_.2.2.2.1.1.1 e_.symm | exact h_.1.1.1.2.1.1 e_.symm | exact h_.2.1.1.2.1.1 e_.symm | exact h_.1.2.1.2.1.1 e_.symm | exact h_.2.2.1.2.1.1 e_.symm | exact h_.1.1.2.2.1.1 e_.symm | exact h_.2.1.2.2.1.1 e_.symm | exact h_.1.2.2.2.1.1 e_.symm | exact h_.2.2.2.2.1.1 e_.symm | exact h_.1.1.1.1.2.1 e_.symm | exact h_.2.1.1.1.2.1 e_.symm | exact h_.1.2.1.1.2.1 e_.symm | exact h_.2.2.1.1.2.1 e_.symm | exact h_.1.1.2.1.2.1 e_.symm | exact h_.2.1.2.1.2.1 e_.symm | exact h_.1.2.2.1.2.1 e_.symm | exact h_.2.2.2.1.2.1 e_.symm | exact h_.1.1.1.2.2.1 e_.symm | exact h_.2.1.1.2.2.1 e_.symm | exact h_.1.2.1.2.2.1 e_.symm | exact h_.2.2.1.2.2.1 e_.symm | exact h_.1.1.2.2.2.1 e_.symm | exact h_.2.1.2.2.2.1 e_.symm | exact h_.1.2.2.2.2.1 e_.symm | exact h_.2.2.2.2.2.1 e_.symm | exact h_.1.1.1.1.1.2 e_.symm | exact h_.2.1.1.1.1.2 e_.symm | exact h_.1.2.1.1.1.2 e_.symm | exact h_.2.2.1.1.1.2 e_.symm | exact h_.1.1.2.1.1.2 e_.symm | exact h_.2.1.2.1.1.2 e_.symm | exact h_.1.2.2.1.1.2 e_.symm | exact h_.2.2.2.1.1.2 e_.symm | exact h_.1.1.1.2.1.2 e_.symm | exact h_.2.1.1.2.1.2 e_.symm | exact h_.1.2.1.2.1.2 e_.symm | exact h_.2.2.1.2.1.2 e_.symm | exact h_.1.1.2.2.1.2 e_.symm | exact h_.2.1.2.2.1.2 e_.symm | exact h_.1.2.2.2.1.2 e_.symm | exact h_.2.2.2.2.1.2 e_.symm | exact h_.1.1.1.1.2.2 e_.symm | exact h_.2.1.1.1.2.2 e_.symm | exact h_.1.2.1.1.2.2 e_.symm | exact h_.2.2.1.1.2.2 e_.symm | exact h_.1.1.2.1.2.2 e_.symm | exact h_.2.1.2.1.2.2 e_.symm | exact h_.1.2.2.1.2.2 e_.symm | exact h_.2.2.2.1.2.2 e_.symm | exact h_.1.1.1.2.2.2 e_.symm | exact h_.2.1.1.2.2.2 e_.symm | exact h_.1.2.1.2.2.2 e_.symm | exact h_.2.2.1.2.2.2 e_.symm | exact h_.1.1.2.2.2.2 e_.symm | exact h_.2.1.2.2.2.2 e_.symm | exact h_.1.2.2.2.2.2 e_.symm | exact h_.2.2.2.2.2.2 e_.symm)))
         (case aB => exact (bZ HB))
         (case aF => exact (fun k_ hk => Kd.freshB (bP BK417) k_ hk))
         (case aO => exact (by (with_reducible repeat (first | apply Kd.S_alloc | apply Kd.S_drewN | apply Kd.S_drew)); exact Kd.S_mono HO_416002.out (fun k_ hk => ⟨hk.1.2.2, fun e_ => e_.elim (fun h_ => hk.1.1 h_) (fun h_ => h_.elim (fun h_ => hk.1.2.1 h_) (fun h_ => hk.2 h_))⟩)))
         (case aS => exact (below_size (bZ HB)))
         (case aL => have := LMc15.out; omega)
         intro v437 w40 ho hb hg hat
         rw [← Ny436.out] at ho
         replace BK413 := Aside0.mk (blk_grown (bP BK413) hg (Kd.S_ne HO_416002.out BK413.out (by decide)))
         replace BK414 := Aside0.mk (blk_grown (bP BK414) hg (Kd.S_ne HO_416002.out BK414.out (by decide)))
         replace BK415 := Aside0.mk (blk_grown (bP BK415) hg (Kd.S_ne HO_416002.out BK415.out (by decide)))
         replace BK417 := Aside0.mk (blk_grown (bP BK417) hg (Kd.S_away HO_416002.out (fun _ hk => hk.1.2.2)))
         replace HB := Aside0.mk (hb)
         have HO438 := Aside0.mk (ho)
         clear HO_416002 HO423 HO429 HO435
         clear ho hb hg hat
         obtain ⟨Ao41, co41, eo41⟩ := Kd.S_slice HO438.out
         (first | subst eo41 | (injection eo41 with f1_ f2_ f3_; have f4_ := f1_.symm; have f5_ := f3_.symm; clear f1_ f2_ f3_; subst f4_; subst f5_))
         refine hK.out _ _ (bS3 BK415 (bT3 BK417)) (fun hHeld => ?_)
         clear hK K
         refine nO (some 39) ?_
         refine pI 17 (some 40) HT_.out ?_
         refine last_ (i := 18) (N := none) #[true, true, true, true, true, true, true, true, true, true, true, true, true, true, true, true, true, true, true] rfl rfl (one_of HT_.out (by kernel_rfl)) (by decide) (fun K hK => ?_)
         have hs42 : w40.cell? ⟨gb415, 2, none⟩ = some (.slice Ao24 x416002_1.length co24) := bc BK415 2
         have hfs42 := blk_frozen BK415.out 2
         have hns42_0 := NB413_415.out
         have hns42_1 := NB414_415.out
         have hns42_3 := NB417_415.out
         have hms42_0 := NB415_413.out
         have hms42_1 := NB415_414.out
         have hms42_3 := NB415_417.out
         refine skip_ (w1 := ?_) (by rfl) rfl ?_ ?_
         rotate_left
         ·go_simp
          rfl
         refine hK.out _ _ ?_
         clear hK K
         refine done_ (done_of HT_.out (by kernel_rfl)) ?_
         try go_wp2
         go_roundg k1
         case measure => have := HK1.out; omega
         case rel => exact ⟨(wrap64 (x4_1 + 1)), (y436), (.slice Ao41 y436.length co41), rS, H', ⟨by have := HK1.out; omega⟩, ⟨by (with_reducible repeat (first | apply Kd.S_alloc | apply Kd.S_drewN | apply Kd.S_drew)); exact Kd.S_mono (Kd.S_far (p := ⟨gb415, 2, none⟩) (Kd.S_types HO438.out BK415.out (by decide)) (fun _ hk => hk.2) (.slice Ao41 y436.length co41)) (fun _ hk => trivial)⟩, ⟨bP BK413⟩, ⟨bP BK414⟩, ⟨bU BK415⟩, ⟨bZ HB⟩⟩
        ·rw [if_neg c15] at H
         exact absurd H (by simp)
       ·rw [if_neg c14] at H
        exact absurd H (by simp)
      ·rw [if_neg c13] at H
       exact absurd H (by simp)
     ·rw [if_neg c12] at H
      exact absurd H (by simp)
    ·rw [if_neg c11] at H
     exact absurd H (by simp)
   ·rw [if_neg c10] at H
    have c10b0 := decide_eq_false c10
    clear c10
    simp only [Option.some.injEq, Prod.mk.injEq] at H
    obtain ⟨rfl, rfl, rfl⟩ := H
    obtain ⟨hnb43, hnc43⟩ := nB NB413_414
    obtain ⟨hnb44, hnc44⟩ := nB NB413_415
    obtain ⟨hcz45_0, hcz45_1, hcz45_2, hfz45_0, hfz45_1, hfz45_2⟩ := bK3 (w := wr) BK413
    obtain ⟨hnb46, hnc46⟩ := nB NB415_414
    obtain ⟨hcz47_0, hcz47_1, hcz47_2, hfz47_0, hfz47_1, hfz47_2⟩ := bK3 (w := wr) BK415
    obtain ⟨hcz48_0, hcz48_1, hcz48_2, hfz48_0, hfz48_1, hfz48_2⟩ := bK3 (w := wr) BK414
    obtain ⟨Ao49, co49, eo49⟩ := Kd.S_slice HO_416002.out
    subst eo49
    go_wp2
    refine rC gb414 43 #[.int .i64 a0_0, .int .i64 a0_1, .slice Ao49 x416002_1.length co49] (bU BK414) Try.underlying43 ?_
    exact ⟨_, by first | rfl | (simp [errW_none, errW_some] <;> rfl) | (simp [*, errW_none, errW_some] <;> rfl), by (with_reducible repeat (first | apply Kd.S_alloc | apply Kd.S_drewN | apply Kd.S_drew)); exact Kd.S_mono (Kd.S_far (p := ⟨gb414, 2, none⟩) (Kd.S_far (p := ⟨gb414, 1, none⟩) (Kd.S_far (p := ⟨gb414, 0, none⟩) (Kd.S_types HO_416002.out BK414.out (by decide)) (fun _ hk => hk.2) (.int .i64 a0_0)) (fun _ hk => hk.2) (.int .i64 a0_1)) (fun _ hk => hk.2) (.slice Ao49 x416002_1.length co49)) (fun _ hk => trivial), bZ HB⟩
end Go.Proofs.Ythdpfjkdpeamnaa.Pf
end
