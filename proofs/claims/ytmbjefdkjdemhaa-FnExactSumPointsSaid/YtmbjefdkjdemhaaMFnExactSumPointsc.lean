/- What is proved here: part 3 of 3 of the proof of the given statement FnExactSumPoints: the contracts of the Go functions that it reaches, the plain facts on lists and numbers, and (in the last part) the statement itself. No conditions beyond the given ones. -/
import Derived.Test.YtmbjefdkjdemhaaMFnExactSumPointsa
import Derived.Test.YtmbjefdkjdemhaaMFnExactSumPointsb
import Derived.Test.YtmbjefdkjdemhaaMFnExactSumPointswMore
import Derived.Deep.Slices
import Derived.ChangeArms
import Derived.DataReads
import Derived.ChangeShapes
import Derived.Test.YtmbjefdkjdemhaaRows
import Derived.WalkKit
import Derived.ProofKit
import Derived.OpenShut
import Derived.ShutString
import Derived.ChangeOld
import Derived.Below
import Derived.SizedLaws

section
namespace Go.Proofs.Ytmbjefdkjdemhaa.Pf
open Go.RowKit Go.Proofs.YtmbjefdkjdemhaaW.PrintWords Go.Proofs.YtmbjefdkjdemhaaW.PrintLast Go.Proofs.YtmbjefdkjdemhaaW.PrintMore
attribute [local go_sem] max2_int min2_int max_two min_two max_three min_three max_four min_four   -- for this text's walks alone
set_option linter.unusedVariables false
set_option linter.unusedSimpArgs false

/-! ### laws_eqPointS: function 38 -/
def laws_eqPointS.l0 : Nat → List (S25) → List (S25) → Int → Option (Bool)
  | 0, _, _, _ => none
  | k + 1, x0, x1, x5 => if x5 < (x0.length : Int) then (if 0 ≤ x5 then (if x5 < (x1.length : Int) then ((laws_eqPoint.f ((rd_T25 x0 x5).f0) ((rd_T25 x0 x5).f1) ((rd_T25 x0 x5).f2) ((rd_T25 x1 x5).f0) ((rd_T25 x1 x5).f1) ((rd_T25 x1 x5).f2)).bind fun t776 => (if t776 = true then (laws_eqPointS.l0 k x0 x1 (wrap64 (x5 + 1))) else (some false))) else (none)) else (none)) else (some true)
def laws_eqPointS.f (k : Nat) (l0 : List (S25)) (l1 : List (S25)) : Option (Bool) := if (l0.length : Int) = (l1.length : Int) then (laws_eqPointS.l0 k l0 l1 0) else (some false)
theorem laws_eqPointS.mono_l : ∀ k, (∀ y0 y1 y2, LeO (laws_eqPointS.l0 k y0 y1 y2) (laws_eqPointS.l0 (k + 1) y0 y1 y2))
  | 0 => fun _ _ _ r h => by simp [laws_eqPointS.l0] at h
  | k + 1 => by
    have ih0 := laws_eqPointS.mono_l k
    · intro y0 y1 y2
      unfold laws_eqPointS.l0
      repeat' first
      | (with_reducible exact ih0 _ _ _)
      | (with_reducible exact LeO.refl _)
      | (with_reducible exact LeO.none _)
      | (with_reducible refine LeO.ite ?_ ?_)
      | (with_reducible refine LeO.bind ?_ (fun _ => ?_))
      | exact ih0 _ _ _
      | exact LeO.none _
      | refine LeO.ite ?_ ?_
      | refine LeO.bind ?_ (fun _ => ?_)
theorem laws_eqPointS.mono : ∀ a0 a1 k, LeO (laws_eqPointS.f k a0 a1) (laws_eqPointS.f (k + 1) a0 a1) := by
  intro a0 a1 k
  have ih0 := laws_eqPointS.mono_l k
  unfold laws_eqPointS.f
  repeat' first
      | (with_reducible exact ih0 _ _ _)
      | (with_reducible exact LeO.refl _)
      | (with_reducible exact LeO.none _)
      | (with_reducible refine LeO.ite ?_ ?_)
      | (with_reducible refine LeO.bind ?_ (fun _ => ?_))
      | exact ih0 _ _ _
      | exact LeO.none _
      | refine LeO.ite ?_ ?_
      | refine LeO.bind ?_ (fun _ => ?_)
def laws_eqPointS.T6 : Bool × List (List Nat × List Nat) := (true, [([], []), ([], []), ([0, 1], [0, 1]), ([2], [2]), ([], []), ([], []), ([4, 5], [4, 5]), ([6], [6]), ([3, 7], [3, 7]), ([8], [8])])
def laws_eqPointS.B6 : List Nat := [0, 0, 3, 7, 0, 0, 48, 112, 255, 511]
theorem laws_eqPointS.tab6 : rtab .any (opsOf Try.f38 6) = laws_eqPointS.T6 := by kernel_rfl
theorem laws_eqPointS.bits6 : waitsOk laws_eqPointS.T6.2 laws_eqPointS.B6 = true := by kernel_rfl
set_option maxHeartbeats 8000000 in
set_option maxRecDepth 100000 in
theorem laws_eqPointS.calls (k : Nat) (A0 : Option Addr) (c0 : Nat) (l0 : List (S25)) (A1 : Option Addr) (c1 : Nat) (l1 : List (S25)) (r : Bool) (w : World) (hr0 : Kd.C k25 w A0 l0.length l0) (hc0 : l0.length ≤ c0) (hr1 : Kd.C k25 w A1 l1.length l1) (hc1 : l1.length ≤ c1) (h : laws_eqPointS.f k l0 l1 = some r) :
    Calls Try.prog 38 #[.slice A0 l0.length c0, .slice A1 l1.length c1] w fun e w' => e = .returned (.bool r) ∧ Below w.heap.size w w' := by
  have hu25 := Try.underlying25
  have HR0 := Aside0.mk hr0
  have HC0 := Aside0.mk hc0
  clear hr0 hc0
  have HR1 := Aside0.mk hr1
  have HC1 := Aside0.mk hc1
  clear hr1 hc1
  have HB := Aside0.mk (Below.refl w.heap.size w)
  have H : (if (l0.length : Int) = (l1.length : Int) then (laws_eqPointS.l0 k l0 l1 0) else (some false)) = some r := h
  clear h
  by_cases c3 : (l0.length : Int) = (l1.length : Int)
  · rw [if_pos c3] at H
    have c3b0 : ((l0.length : Int) == (l1.length : Int)) = true := beq_iff_eq.mpr c3
    have c3b1 : ((l0.length : Int) != (l1.length : Int)) = false := bne_eq_false_iff_eq.mpr c3
    have c3b2 : (l0.length == l1.length) = true := by first | simpa using c3 | (simp at c3 ⊢; omega)
    clear c3
    have H' := Aside0.mk H
    clear H
    go_enter Try.func38, Try.ntmps38
    go_wp2
    go_loopg [5] k (fun kq v5 w' => ∃ (x5_1 : Int), v5 = .int .i64 x5_1 ∧ Aside0 (laws_eqPointS.l0 kq l0 l1 x5_1 = some r) ∧ Aside0 (kq ≤ k) ∧ Aside0 (Below w.heap.size w w'))
    case atStart => exact ⟨(0), (by first | rfl | (simp; done) | (simp [*]; done)), H', ⟨Nat.le_refl _⟩, ⟨by repeat (first | (with_reducible first | exact HB.out | apply below_alloc | apply pw_below_drewN | apply below_drew1) | exact HB.out)⟩⟩
    case round =>
      clear H'
      try clear c1
      try clear p2
      try clear c3
      try clear c3b0
      try clear c3b1
      try clear c3b2
      obtain ⟨x5_1, rfl, HA, HK1, HB⟩ := hrel
      cases gk with
      | zero => exact absurd HA.out (by simp [laws_eqPointS.l0])
      | succ k1 =>
        have H := HA.out
        clear HA
        simp only [laws_eqPointS.l0] at H
        by_cases c4 : x5_1 < (l0.length : Int)
        · rw [if_pos c4] at H
          have c4b0 : decide (x5_1 < (l0.length : Int)) = true := decide_eq_true c4
          clear c4
          by_cases c5 : 0 ≤ x5_1
          · rw [if_pos c5] at H
            have c5b0 : decide (0 ≤ x5_1) = true := decide_eq_true c5
            clear c5
            by_cases c6 : x5_1 < (l1.length : Int)
            · rw [if_pos c6] at H
              have c6b0 : decide (x5_1 < (l1.length : Int)) = true := decide_eq_true c6
              clear c6
              replace H := Option.bind_eq_some_iff.mp H
              obtain ⟨t776, A70, H⟩ := H
              replace H : (if t776 = true then (laws_eqPointS.l0 k1 l0 l1 (wrap64 (x5_1 + 1))) else (some false)) = some r := H
              have A7 := Aside0.mk A70
              clear A70
              by_cases c8 : t776 = true
              · subst c8
                have H1 : (laws_eqPointS.l0 k1 l0 l1 (wrap64 (x5_1 + 1))) = some r := by rw [if_pos rfl] at H; exact H
                clear H
                have H := H1
                clear H1
                have H' := Aside0.mk H
                clear H
                try go_wp2
                have n0_ := Aside0.mk (below_drew1 HB.out)
                clear HB
                have HB := n0_
                clear n0_
                have p774 : 0 ≤ (x5_1 : Int) := of_decide_eq_true (by first | (with_reducible assumption) | assumption)
                have q774 : x5_1 < (l0.length : Int) := of_decide_eq_true (by first | (with_reducible assumption) | assumption)
                obtain ⟨ad774, e774, hx774_0, hx774_1, hx774_2⟩ := at_T25 HR0.out x5_1 p774 q774
                have hw774_2 := hx774_2
                have hw774_1 := hx774_1
                have hw774_0 := hx774_0
                cases e774
                replace hx774_0 := (HB.out.cell (World.block_lt_of_cell? w _ hx774_0)).trans hx774_0
                replace hx774_1 := (HB.out.cell (World.block_lt_of_cell? w _ hx774_1)).trans hx774_1
                replace hx774_2 := (HB.out.cell (World.block_lt_of_cell? w _ hx774_2)).trans hx774_2
                replace p774 := eq_true p774
                replace q774 := eq_true q774
                have p775 : 0 ≤ (x5_1 : Int) := of_decide_eq_true (by first | (with_reducible assumption) | assumption)
                have q775 : x5_1 < (l1.length : Int) := of_decide_eq_true (by first | (with_reducible assumption) | assumption)
                obtain ⟨ad775, e775, hx775_0, hx775_1, hx775_2⟩ := at_T25 HR1.out x5_1 p775 q775
                have hw775_2 := hx775_2
                have hw775_1 := hx775_1
                have hw775_0 := hx775_0
                cases e775
                replace hx775_0 := (HB.out.cell (World.block_lt_of_cell? w _ hx775_0)).trans hx775_0
                replace hx775_1 := (HB.out.cell (World.block_lt_of_cell? w _ hx775_1)).trans hx775_1
                replace hx775_2 := (HB.out.cell (World.block_lt_of_cell? w _ hx775_2)).trans hx775_2
                replace p775 := eq_true p775
                replace q775 := eq_true q775
                refine start_ (n := 10) (S := fun w' => w'.cell? (ad774.add ((x5_1).toNat * 3)) = some (.int .i64 ((rd_T25 l0 x5_1).f0)) ∧ w'.cell? ⟨(ad774.add ((x5_1).toNat * 3)).block, (ad774.add ((x5_1).toNat * 3)).off + 1, none⟩ = some (.int .i64 ((rd_T25 l0 x5_1).f1)) ∧ w'.cell? ⟨(ad774.add ((x5_1).toNat * 3)).block, (ad774.add ((x5_1).toNat * 3)).off + 2, none⟩ = some (.bool ((rd_T25 l0 x5_1).f2)) ∧ w'.cell? (ad775.add ((x5_1).toNat * 3)) = some (.int .i64 ((rd_T25 l1 x5_1).f0)) ∧ w'.cell? ⟨(ad775.add ((x5_1).toNat * 3)).block, (ad775.add ((x5_1).toNat * 3)).off + 1, none⟩ = some (.int .i64 ((rd_T25 l1 x5_1).f1)) ∧ w'.cell? ⟨(ad775.add ((x5_1).toNat * 3)).block, (ad775.add ((x5_1).toNat * 3)).off + 2, none⟩ = some (.bool ((rd_T25 l1 x5_1).f2))) (ds := []) #[false, false, false, false, false, false, false, false, false, false] (by kernel_rfl) rfl rfl ⟨((HB.out.cell (World.block_lt_of_cell? w _ hw774_0)).trans hw774_0), ((HB.out.cell (World.block_lt_of_cell? w _ hw774_1)).trans hw774_1), ((HB.out.cell (World.block_lt_of_cell? w _ hw774_2)).trans hw774_2), ((HB.out.cell (World.block_lt_of_cell? w _ hw775_0)).trans hw775_0), ((HB.out.cell (World.block_lt_of_cell? w _ hw775_1)).trans hw775_1), ((HB.out.cell (World.block_lt_of_cell? w _ hw775_2)).trans hw775_2)⟩ (fun hHeld => ?_); refine with_tabW laws_eqPointS.tab6 laws_eqPointS.bits6 (fun HT_ HW_ => ?_)
                generalize wr.drew = w9 at HB hx774_0 hx774_1 hx774_2 hx775_0 hx775_1 hx775_2 hHeld ⊢
                refine pure_ (i := 0) (N := some 17) (v := ?_) (a' := ?_) #[true, false, false, false, false, false, false, false, false, false] rfl rfl (any_of HT_.out (by kernel_rfl)) (fun _ _ _ h => h) (Or.inl ⟨by rfl, ?_⟩) ?_ ?_
                rotate_left
                · intro w'
                  go_simp
                  with_reducible rfl
                rotate_left
                · simp only [Act.put, List.setIfInBounds_toArray, List.set_cons_zero, List.set_cons_succ, i64_w, i32_w]
                  rfl
                refine pure_ (i := 1) (N := some 18) (v := ?_) (a' := ?_) #[true, true, false, false, false, false, false, false, false, false] rfl rfl (any_of HT_.out (by kernel_rfl)) (fun _ _ _ h => h) (Or.inl ⟨by rfl, ?_⟩) ?_ ?_
                rotate_left
                · intro w'
                  go_simp
                  with_reducible rfl
                rotate_left
                · simp only [Act.put, List.setIfInBounds_toArray, List.set_cons_zero, List.set_cons_succ, i64_w, i32_w]
                  rfl
                refine pure_ (i := 2) (N := some 19) (v := ?_) (a' := ?_) #[true, true, true, false, false, false, false, false, false, false] rfl rfl (any_of HT_.out (by kernel_rfl)) (fun _ _ _ h => h) (Or.inl ⟨by rfl, ?_⟩) ?_ ?_
                rotate_left
                · intro w'
                  go_simp
                  with_reducible rfl
                rotate_left
                · simp only [Act.put, List.setIfInBounds_toArray, List.set_cons_zero, List.set_cons_succ, i64_w, i32_w]
                  rfl
                refine pure_ (i := 4) (N := some 21) (v := ?_) (a' := ?_) #[true, true, true, false, true, false, false, false, false, false] rfl rfl (any_of HT_.out (by kernel_rfl)) (fun _ _ _ h => h) (Or.inl ⟨by rfl, ?_⟩) ?_ ?_
                rotate_left
                · intro w'
                  go_simp
                  with_reducible rfl
                rotate_left
                · simp only [Act.put, List.setIfInBounds_toArray, List.set_cons_zero, List.set_cons_succ, i64_w, i32_w]
                  rfl
                refine pure_ (i := 5) (N := some 22) (v := ?_) (a' := ?_) #[true, true, true, false, true, true, false, false, false, false] rfl rfl (any_of HT_.out (by kernel_rfl)) (fun _ _ _ h => h) (Or.inl ⟨by rfl, ?_⟩) ?_ ?_
                rotate_left
                · intro w'
                  go_simp
                  with_reducible rfl
                rotate_left
                · simp only [Act.put, List.setIfInBounds_toArray, List.set_cons_zero, List.set_cons_succ, i64_w, i32_w]
                  rfl
                refine pure_ (i := 6) (N := some 23) (v := ?_) (a' := ?_) #[true, true, true, false, true, true, true, false, false, false] rfl rfl (any_of HT_.out (by kernel_rfl)) (fun _ _ _ h => h) (Or.inl ⟨by rfl, ?_⟩) ?_ ?_
                rotate_left
                · intro w'
                  go_simp
                  with_reducible rfl
                rotate_left
                · simp only [Act.put, List.setIfInBounds_toArray, List.set_cons_zero, List.set_cons_succ, i64_w, i32_w]
                  rfl
                refine take_ (i := 3) (N := some 20) (v := ?_) (a' := ?_) #[true, true, true, true, true, true, true, false, false, false] rfl rfl (take_ofW HT_.out HW_.out (by kernel_rfl)) (fun _ _ _ h => h) (Or.inl ⟨by rfl, ?_⟩) hHeld ?_ ?_
                rotate_left
                · rintro w' ⟨s0, s1, s2, s3, s4, s5⟩
                  go_simp
                  with_reducible rfl
                rotate_left
                · simp only [Act.put, List.setIfInBounds_toArray, List.set_cons_zero, List.set_cons_succ, i64_w, i32_w]
                  rfl
                refine take_ (i := 7) (N := some 24) (v := ?_) (a' := ?_) #[true, true, true, true, true, true, true, true, false, false] rfl rfl (take_ofW HT_.out HW_.out (by kernel_rfl)) (fun _ _ _ h => h) (Or.inl ⟨by rfl, ?_⟩) hHeld ?_ ?_
                rotate_left
                · rintro w' ⟨s0, s1, s2, s3, s4, s5⟩
                  go_simp
                  with_reducible rfl
                rotate_left
                · simp only [Act.put, List.setIfInBounds_toArray, List.set_cons_zero, List.set_cons_succ, i64_w, i32_w]
                  rfl
                refine one_ (i := 8) (N := some 25) #[true, true, true, true, true, true, true, true, true, false] rfl rfl (one_of HT_.out (by kernel_rfl)) (by decide) (fun K hK => ?_)
                refine goes_ Try.func28 (by kernel_rfl) rfl #[.agg #[.int .i64 ((rd_T25 l0 x5_1).f0), .int .i64 ((rd_T25 l0 x5_1).f1), .bool ((rd_T25 l0 x5_1).f2)], .agg #[.int .i64 ((rd_T25 l1 x5_1).f0), .int .i64 ((rd_T25 l1 x5_1).f1), .bool ((rd_T25 l1 x5_1).f2)]] (by rfl) rfl rfl (by (try simp only [List.map_toArray, List.map_cons, List.map_nil]); first | done | rfl | (simp only [List.length_drop, List.length_take]; rfl)) ?_
                with_reducible refine (laws_eqPoint.calls ((rd_T25 l0 x5_1).f0) ((rd_T25 l0 x5_1).f1) ((rd_T25 l0 x5_1).f2) ((rd_T25 l1 x5_1).f0) ((rd_T25 l1 x5_1).f1) ((rd_T25 l1 x5_1).f2) true _ A7.out).mono ?_
                rintro e w10 ⟨rfl, hb⟩
                refine ⟨_, rfl, ?_⟩
                have n0_ := Aside0.mk (below_step (by repeat (first | (with_reducible first | exact HB.out | apply below_alloc | apply pw_below_drewN | apply below_drew1) | exact HB.out)) hb)
                clear HB
                have HB := n0_
                clear n0_
                (try clear hb)
                (try clear hb2)
                (try clear hk)
                (try clear hi)
                refine hK.out _ _ ⟨((HB.out.cell (World.block_lt_of_cell? w _ hw774_0)).trans hw774_0), ((HB.out.cell (World.block_lt_of_cell? w _ hw774_1)).trans hw774_1), ((HB.out.cell (World.block_lt_of_cell? w _ hw774_2)).trans hw774_2), ((HB.out.cell (World.block_lt_of_cell? w _ hw775_0)).trans hw775_0), ((HB.out.cell (World.block_lt_of_cell? w _ hw775_1)).trans hw775_1), ((HB.out.cell (World.block_lt_of_cell? w _ hw775_2)).trans hw775_2)⟩ (fun hHeld => ?_)
                clear hK K
                refine norm_ (a' := ?_) ?_ ?_
                rotate_left
                · show Act.put _ (some 25) _ = _
                  simp only [Act.put, List.setIfInBounds_toArray, List.set_cons_zero, List.set_cons_succ, i64_w, i32_w]
                  rfl
                refine pure_ (i := 9) (N := some 26) (v := ?_) (a' := ?_) #[true, true, true, true, true, true, true, true, true, true] rfl rfl (any_of HT_.out (by kernel_rfl)) (fun _ _ _ h => h) (Or.inl ⟨by rfl, ?_⟩) ?_ ?_
                rotate_left
                · intro w'
                  go_simp
                  with_reducible rfl
                rotate_left
                · simp only [Act.put, List.setIfInBounds_toArray, List.set_cons_zero, List.set_cons_succ, i64_w, i32_w]
                  rfl
                refine done_ (done_of HT_.out (by kernel_rfl)) ?_
                try go_wp2
                go_roundg k1
                case measure => have := HK1.out; omega
                case rel => exact ⟨(wrap64 (x5_1 + 1)), (by first | rfl | (simp; done) | (simp [*]; done)), H', ⟨by have := HK1.out; omega⟩, ⟨by repeat (first | (with_reducible first | exact HB.out | apply below_alloc | apply pw_below_drewN | apply below_drew1) | exact HB.out)⟩⟩
              · replace c8 := Bool.eq_false_iff.mpr c8
                subst c8
                have H1 : (some false) = some r := by rw [if_neg (show ¬ (false = true) by decide)] at H; exact H
                clear H
                have H := H1
                clear H1
                obtain rfl := Option.some.inj H
                try go_wp2
                have n0_ := Aside0.mk (below_drew1 HB.out)
                clear HB
                have HB := n0_
                clear n0_
                have p774 : 0 ≤ (x5_1 : Int) := of_decide_eq_true (by first | (with_reducible assumption) | assumption)
                have q774 : x5_1 < (l0.length : Int) := of_decide_eq_true (by first | (with_reducible assumption) | assumption)
                obtain ⟨ad774, e774, hx774_0, hx774_1, hx774_2⟩ := at_T25 HR0.out x5_1 p774 q774
                have hw774_2 := hx774_2
                have hw774_1 := hx774_1
                have hw774_0 := hx774_0
                cases e774
                replace hx774_0 := (HB.out.cell (World.block_lt_of_cell? w _ hx774_0)).trans hx774_0
                replace hx774_1 := (HB.out.cell (World.block_lt_of_cell? w _ hx774_1)).trans hx774_1
                replace hx774_2 := (HB.out.cell (World.block_lt_of_cell? w _ hx774_2)).trans hx774_2
                replace p774 := eq_true p774
                replace q774 := eq_true q774
                have p775 : 0 ≤ (x5_1 : Int) := of_decide_eq_true (by first | (with_reducible assumption) | assumption)
                have q775 : x5_1 < (l1.length : Int) := of_decide_eq_true (by first | (with_reducible assumption) | assumption)
                obtain ⟨ad775, e775, hx775_0, hx775_1, hx775_2⟩ := at_T25 HR1.out x5_1 p775 q775
                have hw775_2 := hx775_2
                have hw775_1 := hx775_1
                have hw775_0 := hx775_0
                cases e775
                replace hx775_0 := (HB.out.cell (World.block_lt_of_cell? w _ hx775_0)).trans hx775_0
                replace hx775_1 := (HB.out.cell (World.block_lt_of_cell? w _ hx775_1)).trans hx775_1
                replace hx775_2 := (HB.out.cell (World.block_lt_of_cell? w _ hx775_2)).trans hx775_2
                replace p775 := eq_true p775
                replace q775 := eq_true q775
                refine start_ (n := 10) (S := fun w' => w'.cell? (ad774.add ((x5_1).toNat * 3)) = some (.int .i64 ((rd_T25 l0 x5_1).f0)) ∧ w'.cell? ⟨(ad774.add ((x5_1).toNat * 3)).block, (ad774.add ((x5_1).toNat * 3)).off + 1, none⟩ = some (.int .i64 ((rd_T25 l0 x5_1).f1)) ∧ w'.cell? ⟨(ad774.add ((x5_1).toNat * 3)).block, (ad774.add ((x5_1).toNat * 3)).off + 2, none⟩ = some (.bool ((rd_T25 l0 x5_1).f2)) ∧ w'.cell? (ad775.add ((x5_1).toNat * 3)) = some (.int .i64 ((rd_T25 l1 x5_1).f0)) ∧ w'.cell? ⟨(ad775.add ((x5_1).toNat * 3)).block, (ad775.add ((x5_1).toNat * 3)).off + 1, none⟩ = some (.int .i64 ((rd_T25 l1 x5_1).f1)) ∧ w'.cell? ⟨(ad775.add ((x5_1).toNat * 3)).block, (ad775.add ((x5_1).toNat * 3)).off + 2, none⟩ = some (.bool ((rd_T25 l1 x5_1).f2))) (ds := []) #[false, false, false, false, false, false, false, false, false, false] (by kernel_rfl) rfl rfl ⟨((HB.out.cell (World.block_lt_of_cell? w _ hw774_0)).trans hw774_0), ((HB.out.cell (World.block_lt_of_cell? w _ hw774_1)).trans hw774_1), ((HB.out.cell (World.block_lt_of_cell? w _ hw774_2)).trans hw774_2), ((HB.out.cell (World.block_lt_of_cell? w _ hw775_0)).trans hw775_0), ((HB.out.cell (World.block_lt_of_cell? w _ hw775_1)).trans hw775_1), ((HB.out.cell (World.block_lt_of_cell? w _ hw775_2)).trans hw775_2)⟩ (fun hHeld => ?_); refine with_tabW laws_eqPointS.tab6 laws_eqPointS.bits6 (fun HT_ HW_ => ?_)
                generalize wr.drew = w11 at HB hx774_0 hx774_1 hx774_2 hx775_0 hx775_1 hx775_2 hHeld ⊢
                refine pure_ (i := 0) (N := some 17) (v := ?_) (a' := ?_) #[true, false, false, false, false, false, false, false, false, false] rfl rfl (any_of HT_.out (by kernel_rfl)) (fun _ _ _ h => h) (Or.inl ⟨by rfl, ?_⟩) ?_ ?_
                rotate_left
                · intro w'
                  go_simp
                  with_reducible rfl
                rotate_left
                · simp only [Act.put, List.setIfInBounds_toArray, List.set_cons_zero, List.set_cons_succ, i64_w, i32_w]
                  rfl
                refine pure_ (i := 1) (N := some 18) (v := ?_) (a' := ?_) #[true, true, false, false, false, false, false, false, false, false] rfl rfl (any_of HT_.out (by kernel_rfl)) (fun _ _ _ h => h) (Or.inl ⟨by rfl, ?_⟩) ?_ ?_
                rotate_left
                · intro w'
                  go_simp
                  with_reducible rfl
                rotate_left
                · simp only [Act.put, List.setIfInBounds_toArray, List.set_cons_zero, List.set_cons_succ, i64_w, i32_w]
                  rfl
                refine pure_ (i := 2) (N := some 19) (v := ?_) (a' := ?_) #[true, true, true, false, false, false, false, false, false, false] rfl rfl (any_of HT_.out (by kernel_rfl)) (fun _ _ _ h => h) (Or.inl ⟨by rfl, ?_⟩) ?_ ?_
                rotate_left
                · intro w'
                  go_simp
                  with_reducible rfl
                rotate_left
                · simp only [Act.put, List.setIfInBounds_toArray, List.set_cons_zero, List.set_cons_succ, i64_w, i32_w]
                  rfl
                refine pure_ (i := 4) (N := some 21) (v := ?_) (a' := ?_) #[true, true, true, false, true, false, false, false, false, false] rfl rfl (any_of HT_.out (by kernel_rfl)) (fun _ _ _ h => h) (Or.inl ⟨by rfl, ?_⟩) ?_ ?_
                rotate_left
                · intro w'
                  go_simp
                  with_reducible rfl
                rotate_left
                · simp only [Act.put, List.setIfInBounds_toArray, List.set_cons_zero, List.set_cons_succ, i64_w, i32_w]
                  rfl
                refine pure_ (i := 5) (N := some 22) (v := ?_) (a' := ?_) #[true, true, true, false, true, true, false, false, false, false] rfl rfl (any_of HT_.out (by kernel_rfl)) (fun _ _ _ h => h) (Or.inl ⟨by rfl, ?_⟩) ?_ ?_
                rotate_left
                · intro w'
                  go_simp
                  with_reducible rfl
                rotate_left
                · simp only [Act.put, List.setIfInBounds_toArray, List.set_cons_zero, List.set_cons_succ, i64_w, i32_w]
                  rfl
                refine pure_ (i := 6) (N := some 23) (v := ?_) (a' := ?_) #[true, true, true, false, true, true, true, false, false, false] rfl rfl (any_of HT_.out (by kernel_rfl)) (fun _ _ _ h => h) (Or.inl ⟨by rfl, ?_⟩) ?_ ?_
                rotate_left
                · intro w'
                  go_simp
                  with_reducible rfl
                rotate_left
                · simp only [Act.put, List.setIfInBounds_toArray, List.set_cons_zero, List.set_cons_succ, i64_w, i32_w]
                  rfl
                refine take_ (i := 3) (N := some 20) (v := ?_) (a' := ?_) #[true, true, true, true, true, true, true, false, false, false] rfl rfl (take_ofW HT_.out HW_.out (by kernel_rfl)) (fun _ _ _ h => h) (Or.inl ⟨by rfl, ?_⟩) hHeld ?_ ?_
                rotate_left
                · rintro w' ⟨s0, s1, s2, s3, s4, s5⟩
                  go_simp
                  with_reducible rfl
                rotate_left
                · simp only [Act.put, List.setIfInBounds_toArray, List.set_cons_zero, List.set_cons_succ, i64_w, i32_w]
                  rfl
                refine take_ (i := 7) (N := some 24) (v := ?_) (a' := ?_) #[true, true, true, true, true, true, true, true, false, false] rfl rfl (take_ofW HT_.out HW_.out (by kernel_rfl)) (fun _ _ _ h => h) (Or.inl ⟨by rfl, ?_⟩) hHeld ?_ ?_
                rotate_left
                · rintro w' ⟨s0, s1, s2, s3, s4, s5⟩
                  go_simp
                  with_reducible rfl
                rotate_left
                · simp only [Act.put, List.setIfInBounds_toArray, List.set_cons_zero, List.set_cons_succ, i64_w, i32_w]
                  rfl
                refine one_ (i := 8) (N := some 25) #[true, true, true, true, true, true, true, true, true, false] rfl rfl (one_of HT_.out (by kernel_rfl)) (by decide) (fun K hK => ?_)
                refine goes_ Try.func28 (by kernel_rfl) rfl #[.agg #[.int .i64 ((rd_T25 l0 x5_1).f0), .int .i64 ((rd_T25 l0 x5_1).f1), .bool ((rd_T25 l0 x5_1).f2)], .agg #[.int .i64 ((rd_T25 l1 x5_1).f0), .int .i64 ((rd_T25 l1 x5_1).f1), .bool ((rd_T25 l1 x5_1).f2)]] (by rfl) rfl rfl (by (try simp only [List.map_toArray, List.map_cons, List.map_nil]); first | done | rfl | (simp only [List.length_drop, List.length_take]; rfl)) ?_
                with_reducible refine (laws_eqPoint.calls ((rd_T25 l0 x5_1).f0) ((rd_T25 l0 x5_1).f1) ((rd_T25 l0 x5_1).f2) ((rd_T25 l1 x5_1).f0) ((rd_T25 l1 x5_1).f1) ((rd_T25 l1 x5_1).f2) false _ A7.out).mono ?_
                rintro e w12 ⟨rfl, hb⟩
                refine ⟨_, rfl, ?_⟩
                have n0_ := Aside0.mk (below_step (by repeat (first | (with_reducible first | exact HB.out | apply below_alloc | apply pw_below_drewN | apply below_drew1) | exact HB.out)) hb)
                clear HB
                have HB := n0_
                clear n0_
                (try clear hb)
                (try clear hb2)
                (try clear hk)
                (try clear hi)
                refine hK.out _ _ ⟨((HB.out.cell (World.block_lt_of_cell? w _ hw774_0)).trans hw774_0), ((HB.out.cell (World.block_lt_of_cell? w _ hw774_1)).trans hw774_1), ((HB.out.cell (World.block_lt_of_cell? w _ hw774_2)).trans hw774_2), ((HB.out.cell (World.block_lt_of_cell? w _ hw775_0)).trans hw775_0), ((HB.out.cell (World.block_lt_of_cell? w _ hw775_1)).trans hw775_1), ((HB.out.cell (World.block_lt_of_cell? w _ hw775_2)).trans hw775_2)⟩ (fun hHeld => ?_)
                clear hK K
                refine norm_ (a' := ?_) ?_ ?_
                rotate_left
                · show Act.put _ (some 25) _ = _
                  simp only [Act.put, List.setIfInBounds_toArray, List.set_cons_zero, List.set_cons_succ, i64_w, i32_w]
                  rfl
                refine pure_ (i := 9) (N := some 26) (v := ?_) (a' := ?_) #[true, true, true, true, true, true, true, true, true, true] rfl rfl (any_of HT_.out (by kernel_rfl)) (fun _ _ _ h => h) (Or.inl ⟨by rfl, ?_⟩) ?_ ?_
                rotate_left
                · intro w'
                  go_simp
                  with_reducible rfl
                rotate_left
                · simp only [Act.put, List.setIfInBounds_toArray, List.set_cons_zero, List.set_cons_succ, i64_w, i32_w]
                  rfl
                refine done_ (done_of HT_.out (by kernel_rfl)) ?_
                try go_wp2
                go_ret
                exact ⟨by first | rfl | (simp [errW_none, errW_some] <;> rfl) | (simp [*, errW_none, errW_some] <;> rfl), by repeat (first | (with_reducible first | exact HB.out | apply below_alloc | apply pw_below_drewN | apply below_drew1) | exact HB.out)⟩
            · rw [if_neg c6] at H
              exact absurd H (by simp)
          · rw [if_neg c5] at H
            exact absurd H (by simp)
        · rw [if_neg c4] at H
          have c4b0 : decide (x5_1 < (l0.length : Int)) = false := decide_eq_false c4
          clear c4
          obtain rfl := Option.some.inj H
          go_wp2
          go_ret
          exact ⟨by first | rfl | (simp [errW_none, errW_some] <;> rfl) | (simp [*, errW_none, errW_some] <;> rfl), by repeat (first | (with_reducible first | exact HB.out | apply below_alloc | apply pw_below_drewN | apply below_drew1) | exact HB.out)⟩
  · rw [if_neg c3] at H
    have c3b0 : ((l0.length : Int) == (l1.length : Int)) = false := beq_eq_false_iff_ne.mpr c3
    have c3b1 : ((l0.length : Int) != (l1.length : Int)) = true := bne_iff_ne.mpr c3
    have c3b2 : (l0.length == l1.length) = false := by first | simpa using c3 | (simp at c3 ⊢; omega)
    obtain rfl := Option.some.inj H
    go_enter Try.func38, Try.ntmps38
    go_wp2
    go_ret
    exact ⟨by first | rfl | (simp [errW_none, errW_some] <;> rfl) | (simp [*, errW_none, errW_some] <;> rfl), by repeat (first | (with_reducible first | exact HB.out | apply below_alloc | apply pw_below_drewN | apply below_drew1) | exact HB.out)⟩

end Go.Proofs.Ytmbjefdkjdemhaa.Pf
end

section
namespace Go.Proofs.Ytmbjefdkjdemhaa.Pf
open Go.RowKit Go.Proofs.YtmbjefdkjdemhaaW.PrintWords Go.Proofs.YtmbjefdkjdemhaaW.PrintLast Go.Proofs.YtmbjefdkjdemhaaW.PrintMore
attribute [local go_sem] max2_int min2_int max_two min_two max_three min_three max_four min_four   -- for this text's walks alone
set_option linter.unusedVariables false
set_option linter.unusedSimpArgs false

/-! ### laws_FnExactSumPoints: function 8 -/
def laws_FnExactSumPoints.f (k : Nat) (l0 : List (S37)) : Option (Bool) := (laws_szPointS.f l0 1048576).bind fun t777 => (if t777 < 0 then (some true) else ((laws_toPointS.f k l0).bind fun t778 => ((spec_SumPoints.f k t778).bind fun bt781 => ((laws_toPointS.f k l0).bind fun t785 => ((impl_SumPoints.f k t785).bind fun bt788 => ((laws_eqPoint.f bt788.1 bt788.2.1 bt788.2.2 bt781.1 bt781.2.1 bt781.2.2).bind fun t792 => (if t792 = true then ((laws_toPointS.f k l0).bind fun t793 => ((laws_eqPointS.f k t785 t793).bind fun t796 => (if t796 = true then (some true) else (some false)))) else (some false))))))))
theorem laws_FnExactSumPoints.mono : ∀ a0 k, LeO (laws_FnExactSumPoints.f k a0) (laws_FnExactSumPoints.f (k + 1) a0) := by
  intro a0 k
  unfold laws_FnExactSumPoints.f
  repeat' first
      | (with_reducible exact impl_SumPoints.mono _ _)
      | (with_reducible exact laws_eqPointS.mono _ _ _)
      | (with_reducible exact laws_toPointS.mono _ _)
      | (with_reducible exact spec_SumPoints.mono _ _)
      | (with_reducible exact LeO.refl _)
      | (with_reducible exact LeO.none _)
      | (with_reducible refine LeO.ite ?_ ?_)
      | (with_reducible refine LeO.bind ?_ (fun _ => ?_))
      | exact impl_SumPoints.mono _ _
      | exact laws_eqPointS.mono _ _ _
      | exact laws_toPointS.mono _ _
      | exact spec_SumPoints.mono _ _
      | exact LeO.none _
      | refine LeO.ite ?_ ?_
      | refine LeO.bind ?_ (fun _ => ?_)
set_option maxHeartbeats 8000000 in
set_option maxRecDepth 100000 in
theorem laws_FnExactSumPoints.calls (k : Nat) (A0 : Option Addr) (c0 : Nat) (l0 : List (S37)) (r : Bool) (w : World) (hr0 : Kd.C k37 w A0 l0.length l0) (hc0 : l0.length ≤ c0) (htrue : Aside0 (r = true)) (h : laws_FnExactSumPoints.f k l0 = some r) :
    Calls Try.prog 8 #[.slice A0 l0.length c0] w fun e w' => e = .returned (.bool r) ∧ Below w.heap.size w w' := by
  have hu25 := Try.underlying25
  have HR0 := Aside0.mk hr0
  have HC0 := Aside0.mk hc0
  clear hr0 hc0
  have HB := Aside0.mk (Below.refl w.heap.size w)
  have H : ((laws_szPointS.f l0 1048576).bind fun t777 => (if t777 < 0 then (some true) else ((laws_toPointS.f k l0).bind fun t778 => ((spec_SumPoints.f k t778).bind fun bt781 => ((laws_toPointS.f k l0).bind fun t785 => ((impl_SumPoints.f k t785).bind fun bt788 => ((laws_eqPoint.f bt788.1 bt788.2.1 bt788.2.2 bt781.1 bt781.2.1 bt781.2.2).bind fun t792 => (if t792 = true then ((laws_toPointS.f k l0).bind fun t793 => ((laws_eqPointS.f k t785 t793).bind fun t796 => (if t796 = true then (some true) else (some false)))) else (some false))))))))) = some r := h
  clear h
  replace H := Option.bind_eq_some_iff.mp H
  obtain ⟨t777, A20, H⟩ := H
  replace H : (if t777 < 0 then (some true) else ((laws_toPointS.f k l0).bind fun t778 => ((spec_SumPoints.f k t778).bind fun bt781 => ((laws_toPointS.f k l0).bind fun t785 => ((impl_SumPoints.f k t785).bind fun bt788 => ((laws_eqPoint.f bt788.1 bt788.2.1 bt788.2.2 bt781.1 bt781.2.1 bt781.2.2).bind fun t792 => (if t792 = true then ((laws_toPointS.f k l0).bind fun t793 => ((laws_eqPointS.f k t785 t793).bind fun t796 => (if t796 = true then (some true) else (some false)))) else (some false)))))))) = some r := H
  have A2 := Aside0.mk A20
  clear A20
  by_cases c3 : t777 < 0
  · rw [if_pos c3] at H
    have c3b0 : decide (t777 < 0) = true := decide_eq_true c3
    clear c3
    obtain rfl := Option.some.inj H
    go_enter Try.func8, Try.ntmps8
    go_wp2_with (first | ((with_reducible refine gate_callee (f := 34) rfl ?_); refine goesL_ (some 9) rfl rfl Try.func34 (by kernel_rfl) rfl #[.slice A0 l0.length c0, .int .i64 1048576] rfl (by (try simp only [List.map_toArray, List.map_cons, List.map_nil]); first | done | rfl | (simp only [List.length_drop, List.length_take]; rfl)) ?_; (with_reducible refine (laws_szPointS.calls _ _ l0 1048576 t777 _ ?side1 ?side2 A2.out).mono ?_); (case side1 => repeat (first | exact HR0.out | (with_reducible refine Kd.C_alloc ?_ _) | (with_reducible refine Kd.C_drewN ?_ _) | (with_reducible refine Kd.C_drew ?_))); (case side2 => exact HC0.out); rintro e w' ⟨rfl, ⟨nd, rfl⟩⟩; refine ⟨_, rfl, ?_⟩))
    go_ret
    exact ⟨by first | rfl | (simp [errW_none, errW_some] <;> rfl) | (simp [*, errW_none, errW_some] <;> rfl), by repeat (first | (with_reducible first | exact HB.out | apply below_alloc | apply pw_below_drewN | apply below_drew1) | exact HB.out)⟩
  · rw [if_neg c3] at H
    have c3b0 : decide (t777 < 0) = false := decide_eq_false c3
    clear c3
    replace H := Option.bind_eq_some_iff.mp H
    obtain ⟨t778, A40, H⟩ := H
    replace H : ((spec_SumPoints.f k t778).bind fun bt781 => ((laws_toPointS.f k l0).bind fun t785 => ((impl_SumPoints.f k t785).bind fun bt788 => ((laws_eqPoint.f bt788.1 bt788.2.1 bt788.2.2 bt781.1 bt781.2.1 bt781.2.2).bind fun t792 => (if t792 = true then ((laws_toPointS.f k l0).bind fun t793 => ((laws_eqPointS.f k t785 t793).bind fun t796 => (if t796 = true then (some true) else (some false)))) else (some false)))))) = some r := H
    have A4 := Aside0.mk A40
    clear A40
    replace H := Option.bind_eq_some_iff.mp H
    obtain ⟨⟨t781, t782, t783⟩, A50, H⟩ := H
    replace H : ((laws_toPointS.f k l0).bind fun t785 => ((impl_SumPoints.f k t785).bind fun bt788 => ((laws_eqPoint.f bt788.1 bt788.2.1 bt788.2.2 t781 t782 t783).bind fun t792 => (if t792 = true then ((laws_toPointS.f k l0).bind fun t793 => ((laws_eqPointS.f k t785 t793).bind fun t796 => (if t796 = true then (some true) else (some false)))) else (some false))))) = some r := H
    have A5 := Aside0.mk A50
    clear A50
    replace H := Option.bind_eq_some_iff.mp H
    obtain ⟨t785, A60, H⟩ := H
    replace H : ((impl_SumPoints.f k t785).bind fun bt788 => ((laws_eqPoint.f bt788.1 bt788.2.1 bt788.2.2 t781 t782 t783).bind fun t792 => (if t792 = true then ((laws_toPointS.f k l0).bind fun t793 => ((laws_eqPointS.f k t785 t793).bind fun t796 => (if t796 = true then (some true) else (some false)))) else (some false)))) = some r := H
    have A6 := Aside0.mk A60
    clear A60
    have et785_ : t778 = t785 := Option.some.inj (A4.out.symm.trans A6.out)
    subst et785_
    replace H := Option.bind_eq_some_iff.mp H
    obtain ⟨⟨t788, t789, t790⟩, A70, H⟩ := H
    replace H : ((laws_eqPoint.f t788 t789 t790 t781 t782 t783).bind fun t792 => (if t792 = true then ((laws_toPointS.f k l0).bind fun t793 => ((laws_eqPointS.f k t778 t793).bind fun t796 => (if t796 = true then (some true) else (some false)))) else (some false))) = some r := H
    have A7 := Aside0.mk A70
    clear A70
    replace H := Option.bind_eq_some_iff.mp H
    obtain ⟨t792, A80, H⟩ := H
    replace H : (if t792 = true then ((laws_toPointS.f k l0).bind fun t793 => ((laws_eqPointS.f k t778 t793).bind fun t796 => (if t796 = true then (some true) else (some false)))) else (some false)) = some r := H
    have A8 := Aside0.mk A80
    clear A80
    by_cases c9 : t792 = true
    · subst c9
      have H1 : ((laws_toPointS.f k l0).bind fun t793 => ((laws_eqPointS.f k t778 t793).bind fun t796 => (if t796 = true then (some true) else (some false)))) = some r := by rw [if_pos rfl] at H; exact H
      clear H
      have H := H1
      clear H1
      replace H := Option.bind_eq_some_iff.mp H
      obtain ⟨t793, A100, H⟩ := H
      replace H : ((laws_eqPointS.f k t778 t793).bind fun t796 => (if t796 = true then (some true) else (some false))) = some r := H
      have A10 := Aside0.mk A100
      clear A100
      have et793_ : t778 = t793 := Option.some.inj (A4.out.symm.trans A10.out)
      subst et793_
      replace H := Option.bind_eq_some_iff.mp H
      obtain ⟨t796, A110, H⟩ := H
      replace H : (if t796 = true then (some true) else (some false)) = some r := H
      have A11 := Aside0.mk A110
      clear A110
      by_cases c12 : t796 = true
      · subst c12
        have H1 : (some true) = some r := by rw [if_pos rfl] at H; exact H
        clear H
        have H := H1
        clear H1
        obtain rfl := Option.some.inj H
        go_enter Try.func8, Try.ntmps8
        go_wp2_with (first | ((with_reducible refine gate_callee (f := 34) rfl ?_); refine goesL_ (some 9) rfl rfl Try.func34 (by kernel_rfl) rfl #[.slice A0 l0.length c0, .int .i64 1048576] rfl (by (try simp only [List.map_toArray, List.map_cons, List.map_nil]); first | done | rfl | (simp only [List.length_drop, List.length_take]; rfl)) ?_; (with_reducible refine (laws_szPointS.calls _ _ l0 1048576 t777 _ ?side1 ?side2 A2.out).mono ?_); (case side1 => repeat (first | exact HR0.out | (with_reducible refine Kd.C_alloc ?_ _) | (with_reducible refine Kd.C_drewN ?_ _) | (with_reducible refine Kd.C_drew ?_))); (case side2 => exact HC0.out); rintro e w' ⟨rfl, ⟨nd, rfl⟩⟩; refine ⟨_, rfl, ?_⟩) | ((with_reducible refine gate_callee (f := 36) rfl ?_); refine goesL_ (some 13) rfl rfl Try.func36 (by kernel_rfl) rfl #[.slice A0 l0.length c0] rfl (by (try simp only [List.map_toArray, List.map_cons, List.map_nil]); first | done | rfl | (simp only [List.length_drop, List.length_take]; rfl)) ?_; (with_reducible refine (laws_toPointS.calls k _ _ l0 t778 _ ?side1 ?side2 A4.out).mono ?_); (case side1 => repeat (first | exact HR0.out | (with_reducible refine Kd.C_alloc ?_ _) | (with_reducible refine Kd.C_drewN ?_ _) | (with_reducible refine Kd.C_drew ?_))); (case side2 => exact HC0.out); rintro e w13 ⟨v779, rfl, ho0, hb⟩; refine ⟨_, rfl, ?_⟩; have n0_ := Aside0.mk (Kd.R_lower ho0 (below_size (by repeat (first | (with_reducible first | exact HB.out | apply below_alloc | apply pw_below_drewN | apply below_drew1) | exact HB.out)))); have n1_ := Aside0.mk (below_step (by repeat (first | (with_reducible first | exact HB.out | apply below_alloc | apply pw_below_drewN | apply below_drew1) | exact HB.out)) hb); clear HB; have HO780 := n0_; have HB := n1_; clear n0_ n1_; (try clear hb); (try clear hb2); (try clear hk); (try clear hi); (try clear ho0); obtain ⟨Ao14, co14, eo14⟩ := Kd.R_slice HO780.out; subst eo14) | ((with_reducible refine gate_callee (f := 35) rfl ?_); refine goesL_ (some 14) rfl rfl Try.func35 (by kernel_rfl) rfl #[.slice Ao14 t778.length co14] rfl (by (try simp only [List.map_toArray, List.map_cons, List.map_nil]); first | done | rfl | (simp only [List.length_drop, List.length_take]; rfl)) ?_; (with_reducible refine (spec_SumPoints.calls k _ _ t778 t781 t782 t783 _ ?side1 ?side2 A5.out).mono ?_); (case side1 => repeat (first | exact (Kd.R_reads' HO780.out).2.2 | (with_reducible refine Kd.C_alloc ?_ _) | (with_reducible refine Kd.C_drewN ?_ _) | (with_reducible refine Kd.C_drew ?_))); (case side2 => exact (Kd.R_reads' HO780.out).2.1); rintro e w15 ⟨rfl, hb⟩; refine ⟨_, rfl, ?_⟩; have n0_ := Aside0.mk (Kd.R_below (by (with_reducible repeat (first | apply Kd.R_alloc | apply Kd.R_drewN | apply Kd.R_drew)); exact HO780.out) hb); have n1_ := Aside0.mk (below_step (by repeat (first | (with_reducible first | exact HB.out | apply below_alloc | apply pw_below_drewN | apply below_drew1) | exact HB.out)) hb); clear HO780; clear HB; have HO780 := n0_; have HB := n1_; clear n0_ n1_; (try clear hb); (try clear hb2); (try clear hk); (try clear hi)) | ((with_reducible refine gate_dst (N := 4) rfl ?_); refine box_event ?hg (N := 4) ?hd (cs := #[.int .i64 0, .int .i64 0, .bool false]) (t := 25) ?hr ?_; (case hd => rfl); (case hg => rfl); (case hr => first | (go_simp; done) | (go_simp; rfl)); intro gb784 hg w16 hbox hb; have n0_ := Aside0.mk (Kd.R_below (Kd.R_elderB (by (with_reducible repeat (first | apply Kd.R_alloc | apply Kd.R_drewN | apply Kd.R_drew)); exact HO780.out) gb784 (Nat.le_of_eq hg.symm)) hb); have n1_ := Aside0.mk (below_step (by repeat (first | (with_reducible first | exact HB.out | apply below_alloc | apply pw_below_drewN | apply below_drew1) | exact HB.out)) hb); have n2_ := Aside0.mk (hbox); have n3_ := Aside0.mk ((by rw [hg]; exact (below_size (by repeat (first | (with_reducible first | exact HB.out | apply below_alloc | apply pw_below_drewN | apply below_drew1) | exact HB.out))) : w.heap.size ≤ gb784)); have n4_ := Aside0.mk ((by rw [hg]; exact (below_size (by repeat (first | (with_reducible first | exact HB.out | apply below_alloc | apply pw_below_drewN | apply below_drew1) | exact HB.out))) : w.heap.size ≤ gb784)); clear HO780; clear HB; have HO780 := n0_; have HB := n1_; have BK784 := n2_; have GW784 := n3_; have GE784 := n4_; clear n0_ n1_ n2_ n3_ n4_; clear hb hbox hg; have hcz17_0 : w16.cell? ⟨gb784, 0, none⟩ = some (.int .i64 0) := (blk_cell BK784.out 0).trans rfl; have hcz17_1 : w16.cell? ⟨gb784, 1, none⟩ = some (.int .i64 0) := (blk_cell BK784.out 1).trans rfl; have hcz17_2 : w16.cell? ⟨gb784, 2, none⟩ = some (.bool false) := (blk_cell BK784.out 2).trans rfl; have hfz17_0 := blk_frozen BK784.out 0; have hfz17_1 := blk_frozen BK784.out 1; have hfz17_2 := blk_frozen BK784.out 2) | ((with_reducible refine gate_callee (f := 36) rfl ?_); refine goesL_ (some 16) rfl rfl Try.func36 (by kernel_rfl) rfl #[.slice A0 l0.length c0] rfl (by (try simp only [List.map_toArray, List.map_cons, List.map_nil]); first | done | rfl | (simp only [List.length_drop, List.length_take]; rfl)) ?_; (with_reducible refine (laws_toPointS.calls k _ _ l0 t778 _ ?side1 ?side2 A6.out).mono ?_); (case side1 => exact Kd.C_below HR0.out (by repeat (first | (with_reducible first | exact HB.out | apply below_alloc | apply pw_below_drewN | apply below_drew1 | refine below_set ?_ GE784.out) | exact HB.out))); (case side2 => exact HC0.out); rintro e w18 ⟨v786, rfl, ho0, hb⟩; refine ⟨_, rfl, ?_⟩; have n0_ := Aside0.mk (Kd.R_elder' (by (with_reducible repeat (first | apply Kd.R_alloc | apply Kd.R_drewN | apply Kd.R_drew)); exact (Kd.R_mono (Kd.R_far (p := ⟨gb784, 2, none⟩) (Kd.R_far (p := ⟨gb784, 1, none⟩) (Kd.R_far (p := ⟨gb784, 0, none⟩) (Kd.R_mono HO780.out (fun k_ hk => (⟨hk, hk.2⟩ : _ ∧ k_ ≠ gb784))) (fun _ hk => hk.2) (.int .i64 t781)) (fun _ hk => hk.2) (.int .i64 t782)) (fun _ hk => hk.2) (.bool t783)) (fun _ h_ => h_.1))) (Kd.R_base ho0) hb); have n1_ := Aside0.mk (Kd.R_lower (Kd.R_newB (Kd.R_new' ho0 (Kd.R_lt (by (with_reducible repeat (first | apply Kd.R_alloc | apply Kd.R_drewN | apply Kd.R_drew)); exact (Kd.R_mono (Kd.R_far (p := ⟨gb784, 2, none⟩) (Kd.R_far (p := ⟨gb784, 1, none⟩) (Kd.R_far (p := ⟨gb784, 0, none⟩) (Kd.R_mono HO780.out (fun k_ hk => (⟨hk, hk.2⟩ : _ ∧ k_ ≠ gb784))) (fun _ hk => hk.2) (.int .i64 t781)) (fun _ hk => hk.2) (.int .i64 t782)) (fun _ hk => hk.2) (.bool t783)) (fun _ h_ => h_.1))))) (g := gb784) (o := .cells #[.int .i64 t781, .int .i64 t782, .bool t783] 25 (0, 0)) (by (with_reducible repeat (first | refine blk_drewN ?_ _ | refine blk_drew ?_ | refine blk_alloc ?_ _)); refine blk_put (cs := #[.int .i64 t781, .int .i64 t782, .bool false]) ?_ 2 _ rfl; (with_reducible repeat (first | refine blk_drewN ?_ _ | refine blk_drew ?_ | refine blk_alloc ?_ _)); refine blk_put (cs := #[.int .i64 t781, .int .i64 0, .bool false]) ?_ 1 _ rfl; (with_reducible repeat (first | refine blk_drewN ?_ _ | refine blk_drew ?_ | refine blk_alloc ?_ _)); refine blk_put (cs := #[.int .i64 0, .int .i64 0, .bool false]) ?_ 0 _ rfl; (with_reducible repeat (first | refine blk_drewN ?_ _ | refine blk_drew ?_ | refine blk_alloc ?_ _)); exact BK784.out)) (below_size (by repeat (first | (with_reducible first | exact HB.out | apply below_alloc | apply pw_below_drewN | apply below_drew1 | refine below_set ?_ GE784.out) | exact HB.out)))); have n2_ := Aside0.mk (blk_below (g := gb784) (o := .cells #[.int .i64 t781, .int .i64 t782, .bool t783] 25 (0, 0)) (by (with_reducible repeat (first | refine blk_drewN ?_ _ | refine blk_drew ?_ | refine blk_alloc ?_ _)); refine blk_put (cs := #[.int .i64 t781, .int .i64 t782, .bool false]) ?_ 2 _ rfl; (with_reducible repeat (first | refine blk_drewN ?_ _ | refine blk_drew ?_ | refine blk_alloc ?_ _)); refine blk_put (cs := #[.int .i64 t781, .int .i64 0, .bool false]) ?_ 1 _ rfl; (with_reducible repeat (first | refine blk_drewN ?_ _ | refine blk_drew ?_ | refine blk_alloc ?_ _)); refine blk_put (cs := #[.int .i64 0, .int .i64 0, .bool false]) ?_ 0 _ rfl; (with_reducible repeat (first | refine blk_drewN ?_ _ | refine blk_drew ?_ | refine blk_alloc ?_ _)); exact BK784.out) hb); have n3_ := Aside0.mk (below_step (by repeat (first | (with_reducible first | exact HB.out | apply below_alloc | apply pw_below_drewN | apply below_drew1 | refine below_set ?_ GE784.out) | exact HB.out)) hb); clear HO780; clear BK784; clear HB; have HO780 := n0_; have HO787 := n1_; have BK784 := n2_; have HB := n3_; clear n0_ n1_ n2_ n3_; (try clear hb); (try clear hb2); (try clear hk); (try clear hi); (try clear ho0); obtain ⟨Ao19, co19, eo19⟩ := Kd.R_slice HO787.out; subst eo19) | ((with_reducible refine gate_callee (f := 37) rfl ?_); refine goesL_ (some 18) rfl rfl Try.func37 (by kernel_rfl) rfl #[.slice Ao19 t778.length co19] rfl (by (try simp only [List.map_toArray, List.map_cons, List.map_nil]); first | done | rfl | (simp only [List.length_drop, List.length_take]; rfl)) ?_; (with_reducible refine (impl_SumPoints.calls k _ _ t778 t788 t789 t790 _ ?side1 ?side2 A7.out).mono ?_); (case side1 => repeat (first | exact (Kd.R_reads' HO787.out).2.2 | (with_reducible refine Kd.C_alloc ?_ _) | (with_reducible refine Kd.C_drewN ?_ _) | (with_reducible refine Kd.C_drew ?_))); (case side2 => exact (Kd.R_reads' HO787.out).2.1); rintro e w20 ⟨rfl, hb⟩; refine ⟨_, rfl, ?_⟩; have n0_ := Aside0.mk (Kd.R_below (by (with_reducible repeat (first | apply Kd.R_alloc | apply Kd.R_drewN | apply Kd.R_drew)); exact HO780.out) hb); have n1_ := Aside0.mk (Kd.R_below (by (with_reducible repeat (first | apply Kd.R_alloc | apply Kd.R_drewN | apply Kd.R_drew)); exact HO787.out) hb); have n2_ := Aside0.mk (blk_below (g := gb784) (o := .cells #[.int .i64 t781, .int .i64 t782, .bool t783] 25 (0, 0)) (by (with_reducible repeat (first | refine blk_drewN ?_ _ | refine blk_drew ?_ | refine blk_alloc ?_ _)); exact BK784.out) hb); have n3_ := Aside0.mk (below_step (by repeat (first | (with_reducible first | exact HB.out | apply below_alloc | apply pw_below_drewN | apply below_drew1 | refine below_set ?_ GE784.out) | exact HB.out)) hb); clear HO780; clear HO787; clear BK784; clear HB; have HO780 := n0_; have HO787 := n1_; have BK784 := n2_; have HB := n3_; clear n0_ n1_ n2_ n3_; (try clear hb); (try clear hb2); (try clear hk); (try clear hi)) | ((with_reducible refine gate_dst (N := 6) rfl ?_); refine box_event ?hg (N := 6) ?hd (cs := #[.int .i64 0, .int .i64 0, .bool false]) (t := 25) ?hr ?_; (case hd => rfl); (case hg => rfl); (case hr => first | (go_simp; done) | (go_simp; rfl)); intro gb791 hg w21 hbox hb; have n0_ := Aside0.mk (Kd.R_below (Kd.R_elderB (by (with_reducible repeat (first | apply Kd.R_alloc | apply Kd.R_drewN | apply Kd.R_drew)); exact HO780.out) gb791 (Nat.le_of_eq hg.symm)) hb); have n1_ := Aside0.mk (Kd.R_below (Kd.R_elderB (by (with_reducible repeat (first | apply Kd.R_alloc | apply Kd.R_drewN | apply Kd.R_drew)); exact HO787.out) gb791 (Nat.le_of_eq hg.symm)) hb); have n2_ := Aside0.mk (blk_below (g := gb784) (o := .cells #[.int .i64 t781, .int .i64 t782, .bool t783] 25 (0, 0)) (by (with_reducible repeat (first | refine blk_drewN ?_ _ | refine blk_drew ?_ | refine blk_alloc ?_ _)); exact BK784.out) hb); have n3_ := Aside0.mk (below_step (by repeat (first | (with_reducible first | exact HB.out | apply below_alloc | apply pw_below_drewN | apply below_drew1 | refine below_set ?_ GE784.out) | exact HB.out)) hb); have n4_ := Aside0.mk (hbox); have n5_ := Aside0.mk ((by rw [hg]; exact (below_size (by repeat (first | (with_reducible first | exact HB.out | apply below_alloc | apply pw_below_drewN | apply below_drew1 | refine below_set ?_ GE784.out) | exact HB.out))) : w.heap.size ≤ gb791)); have n6_ := Aside0.mk ((by rw [hg]; exact (below_size (by repeat (first | (with_reducible first | exact HB.out | apply below_alloc | apply pw_below_drewN | apply below_drew1 | refine below_set ?_ GE784.out) | exact HB.out))) : w.heap.size ≤ gb791)); have n7_ := Aside0.mk ((by rw [hg]; exact Nat.ne_of_lt (blk_lt (g := gb784) (o := .cells #[.int .i64 t781, .int .i64 t782, .bool t783] 25 (0, 0)) (by (with_reducible repeat (first | refine blk_drewN ?_ _ | refine blk_drew ?_ | refine blk_alloc ?_ _)); exact BK784.out)) : gb784 ≠ gb791)); have n8_ := Aside0.mk ((by rw [hg]; exact Nat.ne_of_gt (blk_lt (g := gb784) (o := .cells #[.int .i64 t781, .int .i64 t782, .bool t783] 25 (0, 0)) (by (with_reducible repeat (first | refine blk_drewN ?_ _ | refine blk_drew ?_ | refine blk_alloc ?_ _)); exact BK784.out)) : gb791 ≠ gb784)); clear HO780; clear HO787; clear BK784; clear HB; have HO780 := n0_; have HO787 := n1_; have BK784 := n2_; have HB := n3_; have BK791 := n4_; have GW791 := n5_; have GE791 := n6_; have NB784_791 := n7_; have NB791_784 := n8_; clear n0_ n1_ n2_ n3_ n4_ n5_ n6_ n7_ n8_; clear hb hbox hg; have hnb22 := NB791_784.out; have hnc22 := NB784_791.out; have hcz23_0 : w21.cell? ⟨gb791, 0, none⟩ = some (.int .i64 0) := (blk_cell BK791.out 0).trans rfl; have hcz23_1 : w21.cell? ⟨gb791, 1, none⟩ = some (.int .i64 0) := (blk_cell BK791.out 1).trans rfl; have hcz23_2 : w21.cell? ⟨gb791, 2, none⟩ = some (.bool false) := (blk_cell BK791.out 2).trans rfl; have hfz23_0 := blk_frozen BK791.out 0; have hfz23_1 := blk_frozen BK791.out 1; have hfz23_2 := blk_frozen BK791.out 2; have hcz24_0 : w21.cell? ⟨gb784, 0, none⟩ = some (.int .i64 t781) := (blk_cell BK784.out 0).trans rfl; have hcz24_1 : w21.cell? ⟨gb784, 1, none⟩ = some (.int .i64 t782) := (blk_cell BK784.out 1).trans rfl; have hcz24_2 : w21.cell? ⟨gb784, 2, none⟩ = some (.bool t783) := (blk_cell BK784.out 2).trans rfl; have hfz24_0 := blk_frozen BK784.out 0; have hfz24_1 := blk_frozen BK784.out 1; have hfz24_2 := blk_frozen BK784.out 2) | ((with_reducible refine gate_callee (f := 28) rfl ?_); refine goesL_ (some 21) rfl rfl Try.func28 (by kernel_rfl) rfl #[.agg #[.int .i64 t788, .int .i64 t789, .bool t790], .agg #[.int .i64 t781, .int .i64 t782, .bool t783]] rfl (by (try simp only [List.map_toArray, List.map_cons, List.map_nil]); first | done | rfl | (simp only [List.length_drop, List.length_take]; rfl)) ?_; (with_reducible refine (laws_eqPoint.calls t788 t789 t790 t781 t782 t783 true _ A8.out).mono ?_); rintro e w25 ⟨rfl, hb⟩; refine ⟨_, rfl, ?_⟩; have n0_ := Aside0.mk (Kd.R_below (by (with_reducible repeat (first | apply Kd.R_alloc | apply Kd.R_drewN | apply Kd.R_drew)); exact (Kd.R_mono (Kd.R_far (p := ⟨gb791, 2, none⟩) (Kd.R_far (p := ⟨gb791, 1, none⟩) (Kd.R_far (p := ⟨gb791, 0, none⟩) (Kd.R_mono HO780.out (fun k_ hk => (⟨hk, hk.2⟩ : _ ∧ k_ ≠ gb791))) (fun _ hk => hk.2) (.int .i64 t788)) (fun _ hk => hk.2) (.int .i64 t789)) (fun _ hk => hk.2) (.bool t790)) (fun _ h_ => h_.1))) hb); have n1_ := Aside0.mk (Kd.R_below (by (with_reducible repeat (first | apply Kd.R_alloc | apply Kd.R_drewN | apply Kd.R_drew)); exact (Kd.R_mono (Kd.R_far (p := ⟨gb791, 2, none⟩) (Kd.R_far (p := ⟨gb791, 1, none⟩) (Kd.R_far (p := ⟨gb791, 0, none⟩) (Kd.R_mono HO787.out (fun k_ hk => (⟨hk, hk.2⟩ : _ ∧ k_ ≠ gb791))) (fun _ hk => hk.2) (.int .i64 t788)) (fun _ hk => hk.2) (.int .i64 t789)) (fun _ hk => hk.2) (.bool t790)) (fun _ h_ => h_.1))) hb); have n2_ := Aside0.mk (blk_below (g := gb784) (o := .cells #[.int .i64 t781, .int .i64 t782, .bool t783] 25 (0, 0)) (by (with_reducible repeat (first | refine blk_drewN ?_ _ | refine blk_drew ?_ | refine blk_alloc ?_ _)); refine blk_far ?_ NB784_791.out _; (with_reducible repeat (first | refine blk_drewN ?_ _ | refine blk_drew ?_ | refine blk_alloc ?_ _)); refine blk_far ?_ NB784_791.out _; (with_reducible repeat (first | refine blk_drewN ?_ _ | refine blk_drew ?_ | refine blk_alloc ?_ _)); refine blk_far ?_ NB784_791.out _; (with_reducible repeat (first | refine blk_drewN ?_ _ | refine blk_drew ?_ | refine blk_alloc ?_ _)); exact BK784.out) hb); have n3_ := Aside0.mk (blk_below (g := gb791) (o := .cells #[.int .i64 t788, .int .i64 t789, .bool t790] 25 (0, 0)) (by (with_reducible repeat (first | refine blk_drewN ?_ _ | refine blk_drew ?_ | refine blk_alloc ?_ _)); refine blk_put (cs := #[.int .i64 t788, .int .i64 t789, .bool false]) ?_ 2 _ rfl; (with_reducible repeat (first | refine blk_drewN ?_ _ | refine blk_drew ?_ | refine blk_alloc ?_ _)); refine blk_put (cs := #[.int .i64 t788, .int .i64 0, .bool false]) ?_ 1 _ rfl; (with_reducible repeat (first | refine blk_drewN ?_ _ | refine blk_drew ?_ | refine blk_alloc ?_ _)); refine blk_put (cs := #[.int .i64 0, .int .i64 0, .bool false]) ?_ 0 _ rfl; (with_reducible repeat (first | refine blk_drewN ?_ _ | refine blk_drew ?_ | refine blk_alloc ?_ _)); exact BK791.out) hb); have n4_ := Aside0.mk (below_step (by repeat (first | (with_reducible first | exact HB.out | apply below_alloc | apply pw_below_drewN | apply below_drew1 | refine below_set ?_ GE784.out | refine below_set ?_ GE791.out) | exact HB.out)) hb); clear HO780; clear HO787; clear BK784; clear BK791; clear HB; have HO780 := n0_; have HO787 := n1_; have BK784 := n2_; have BK791 := n3_; have HB := n4_; clear n0_ n1_ n2_ n3_ n4_; (try clear hb); (try clear hb2); (try clear hk); (try clear hi)) | ((with_reducible refine gate_callee (f := 36) rfl ?_); refine goesL_ (some 25) rfl rfl Try.func36 (by kernel_rfl) rfl #[.slice A0 l0.length c0] rfl (by (try simp only [List.map_toArray, List.map_cons, List.map_nil]); first | done | rfl | (simp only [List.length_drop, List.length_take]; rfl)) ?_; (with_reducible refine (laws_toPointS.calls k _ _ l0 t778 _ ?side1 ?side2 A10.out).mono ?_); (case side1 => repeat (first | exact (Kd.C_below HR0.out HB.out) | (with_reducible refine Kd.C_alloc ?_ _) | (with_reducible refine Kd.C_drewN ?_ _) | (with_reducible refine Kd.C_drew ?_))); (case side2 => exact HC0.out); rintro e w26 ⟨v794, rfl, ho0, hb⟩; refine ⟨_, rfl, ?_⟩; have n0_ := Aside0.mk (Kd.R_elder' (by (with_reducible repeat (first | apply Kd.R_alloc | apply Kd.R_drewN | apply Kd.R_drew)); exact HO780.out) (Kd.R_base ho0) hb); have n1_ := Aside0.mk (Kd.R_elder' (by (with_reducible repeat (first | apply Kd.R_alloc | apply Kd.R_drewN | apply Kd.R_drew)); exact HO787.out) (Kd.R_base ho0) hb); have n2_ := Aside0.mk (Kd.R_lower (Kd.R_newB (Kd.R_newB (Kd.R_new' (Kd.R_new' ho0 (Kd.R_lt (by (with_reducible repeat (first | apply Kd.R_alloc | apply Kd.R_drewN | apply Kd.R_drew)); exact HO780.out))) (Kd.R_lt (by (with_reducible repeat (first | apply Kd.R_alloc | apply Kd.R_drewN | apply Kd.R_drew)); exact HO787.out))) (g := gb784) (o := .cells #[.int .i64 t781, .int .i64 t782, .bool t783] 25 (0, 0)) (by (with_reducible repeat (first | refine blk_drewN ?_ _ | refine blk_drew ?_ | refine blk_alloc ?_ _)); exact BK784.out)) (g := gb791) (o := .cells #[.int .i64 t788, .int .i64 t789, .bool t790] 25 (0, 0)) (by (with_reducible repeat (first | refine blk_drewN ?_ _ | refine blk_drew ?_ | refine blk_alloc ?_ _)); exact BK791.out)) (below_size (by repeat (first | (with_reducible first | exact HB.out | apply below_alloc | apply pw_below_drewN | apply below_drew1 | refine below_set ?_ GE784.out | refine below_set ?_ GE791.out) | exact HB.out)))); have n3_ := Aside0.mk (blk_below (g := gb784) (o := .cells #[.int .i64 t781, .int .i64 t782, .bool t783] 25 (0, 0)) (by (with_reducible repeat (first | refine blk_drewN ?_ _ | refine blk_drew ?_ | refine blk_alloc ?_ _)); exact BK784.out) hb); have n4_ := Aside0.mk (blk_below (g := gb791) (o := .cells #[.int .i64 t788, .int .i64 t789, .bool t790] 25 (0, 0)) (by (with_reducible repeat (first | refine blk_drewN ?_ _ | refine blk_drew ?_ | refine blk_alloc ?_ _)); exact BK791.out) hb); have n5_ := Aside0.mk (below_step (by repeat (first | (with_reducible first | exact HB.out | apply below_alloc | apply pw_below_drewN | apply below_drew1 | refine below_set ?_ GE784.out | refine below_set ?_ GE791.out) | exact HB.out)) hb); clear HO780; clear HO787; clear BK784; clear BK791; clear HB; have HO780 := n0_; have HO787 := n1_; have HO795 := n2_; have BK784 := n3_; have BK791 := n4_; have HB := n5_; clear n0_ n1_ n2_ n3_ n4_ n5_; (try clear hb); (try clear hb2); (try clear hk); (try clear hi); (try clear ho0); obtain ⟨Ao27, co27, eo27⟩ := Kd.R_slice HO795.out; subst eo27) | ((with_reducible refine gate_callee (f := 38) rfl ?_); refine goesL_ (some 26) rfl rfl Try.func38 (by kernel_rfl) rfl #[.slice Ao19 t778.length co19, .slice Ao27 t778.length co27] rfl (by (try simp only [List.map_toArray, List.map_cons, List.map_nil]); first | done | rfl | (simp only [List.length_drop, List.length_take]; rfl)) ?_; (with_reducible refine (laws_eqPointS.calls k _ _ t778 _ _ t778 true _ ?side1 ?side2 ?side3 ?side4 A11.out).mono ?_); (case side1 => repeat (first | exact (Kd.R_reads' HO787.out).2.2 | (with_reducible refine Kd.C_alloc ?_ _) | (with_reducible refine Kd.C_drewN ?_ _) | (with_reducible refine Kd.C_drew ?_))); (case side2 => exact (Kd.R_reads' HO787.out).2.1); (case side3 => repeat (first | exact (Kd.R_reads' HO795.out).2.2 | (with_reducible refine Kd.C_alloc ?_ _) | (with_reducible refine Kd.C_drewN ?_ _) | (with_reducible refine Kd.C_drew ?_))); (case side4 => exact (Kd.R_reads' HO795.out).2.1); rintro e w28 ⟨rfl, hb⟩; refine ⟨_, rfl, ?_⟩; have n0_ := Aside0.mk (Kd.R_below (by (with_reducible repeat (first | apply Kd.R_alloc | apply Kd.R_drewN | apply Kd.R_drew)); exact HO780.out) hb); have n1_ := Aside0.mk (Kd.R_below (by (with_reducible repeat (first | apply Kd.R_alloc | apply Kd.R_drewN | apply Kd.R_drew)); exact HO787.out) hb); have n2_ := Aside0.mk (Kd.R_below (by (with_reducible repeat (first | apply Kd.R_alloc | apply Kd.R_drewN | apply Kd.R_drew)); exact HO795.out) hb); have n3_ := Aside0.mk (blk_below (g := gb784) (o := .cells #[.int .i64 t781, .int .i64 t782, .bool t783] 25 (0, 0)) (by (with_reducible repeat (first | refine blk_drewN ?_ _ | refine blk_drew ?_ | refine blk_alloc ?_ _)); exact BK784.out) hb); have n4_ := Aside0.mk (blk_below (g := gb791) (o := .cells #[.int .i64 t788, .int .i64 t789, .bool t790] 25 (0, 0)) (by (with_reducible repeat (first | refine blk_drewN ?_ _ | refine blk_drew ?_ | refine blk_alloc ?_ _)); exact BK791.out) hb); have n5_ := Aside0.mk (below_step (by repeat (first | (with_reducible first | exact HB.out | apply below_alloc | apply pw_below_drewN | apply below_drew1 | refine below_set ?_ GE784.out | refine below_set ?_ GE791.out) | exact HB.out)) hb); clear HO780; clear HO787; clear HO795; clear BK784; clear BK791; clear HB; have HO780 := n0_; have HO787 := n1_; have HO795 := n2_; have BK784 := n3_; have BK791 := n4_; have HB := n5_; clear n0_ n1_ n2_ n3_ n4_ n5_; (try clear hb); (try clear hb2); (try clear hk); (try clear hi)))
        go_ret
        exact ⟨by first | rfl | (simp [errW_none, errW_some] <;> rfl) | (simp [*, errW_none, errW_some] <;> rfl), by repeat (first | (with_reducible first | exact HB.out | apply below_alloc | apply pw_below_drewN | apply below_drew1 | refine below_set ?_ GE784.out | refine below_set ?_ GE791.out) | exact HB.out)⟩
      · replace c12 := Bool.eq_false_iff.mpr c12
        subst c12
        have H1 : (some false) = some r := by rw [if_neg (show ¬ (false = true) by decide)] at H; exact H
        clear H
        have H := H1
        clear H1
        exact absurd (Option.some.inj H) (by rw [htrue.out]; exact Bool.false_ne_true)
    · replace c9 := Bool.eq_false_iff.mpr c9
      subst c9
      have H1 : (some false) = some r := by rw [if_neg (show ¬ (false = true) by decide)] at H; exact H
      clear H
      have H := H1
      clear H1
      exact absurd (Option.some.inj H) (by rw [htrue.out]; exact Bool.false_ne_true)

/-- THE ONE PURE STATEMENT of laws_FnExactSumPoints. -/
def laws_FnExactSumPoints.Pure : Prop := ∀ (l0 : List (S37)), (l0.length ≤ 9223372036854775807 ∧ ∀ y1 ∈ l0, ((Lit.int .i64 y1.f0).wf = true ∧ (Lit.int .i64 y1.f1).wf = true ∧ True)) → ∃ k, laws_FnExactSumPoints.f k l0 = some true

end Go.Proofs.Ytmbjefdkjdemhaa.Pf
end

section
/- What is proved here: the points of the curve y*y = x*x*x + x over the numbers modulo 12107 make a commutative group. No conditions but that points lie on the curve. -/
namespace Go.Proofs.Ytmbjefdkjdemhaa.Crv
set_option linter.unusedVariables false
abbrev F := Fin 12107

/-! the inverse -/
def pwl : Nat → F → Nat → F → F
  | 0, _, _, out => out
  | k + 1, a, n, out => if n = 0 then out else pwl k (a * a) (n / 2) (if n % 2 = 1 then out * a else out)
def inv (a : F) : F := pwl 14 a 12105 1
def npwl : Nat → Nat → Nat → Nat → Nat
  | 0, _, _, out => out
  | k + 1, a, n, out => npwl k (a * a % 12107) (n / 2) (cond (Nat.beq (n % 2) 1) (out * a % 12107) out)
theorem npwl_zero : ∀ (k a out : Nat), npwl k a 0 out = out
  | 0, _, _ => rfl
  | k + 1, a, out => by rw [npwl]; exact npwl_zero k _ _
theorem pwl_val : ∀ (k : Nat) (a : F) (n : Nat) (out : F), (pwl k a n out).val = npwl k a.val n out.val
  | 0, _, _, _ => rfl
  | k + 1, a, n, out => by
    rw [pwl, npwl]
    by_cases h : n = 0
    · subst h
      rw [if_pos rfl]
      have : npwl k (a.val * a.val % 12107) (0 / 2) (cond (Nat.beq (0 % 2) 1) (out.val * a.val % 12107) out.val) = out.val := npwl_zero _ _ _
      rw [this]
    · rw [if_neg h, pwl_val k]
      by_cases h2 : n % 2 = 1
      · rw [if_pos h2, h2]; rfl
      · rw [if_neg h2, show n % 2 = 0 by omega]; rfl
def all2 (f : Nat → Bool) : Nat → Nat → Bool
  | 0, i => f i
  | k + 1, i => cond (all2 f k i) (all2 f k (i + 2 ^ k)) false
theorem all2_ok (f : Nat → Bool) : ∀ (k i : Nat), all2 f k i = true → ∀ j, i ≤ j → j < i + 2 ^ k → f j = true
  | 0, i, h, j, h1, h2 => by
    rw [all2] at h
    have : j = i := by simp at h2; omega
    rw [this]; exact h
  | k + 1, i, h, j, h1, h2 => by
    rw [all2] at h
    cases e : all2 f k i with
    | false => rw [e] at h; cases h
    | true =>
      rw [e] at h
      rw [Nat.pow_succ] at h2
      by_cases c : j < i + 2 ^ k
      · exact all2_ok f k i e j h1 c
      · exact all2_ok f k (i + 2 ^ k) h j (by omega) (by omega)
def invchk (n : Nat) : Bool := cond (Nat.ble 12107 n) true (cond (Nat.beq n 0) (Nat.beq (npwl 14 0 12105 1) 0) (Nat.beq (n * npwl 14 n 12105 1 % 12107) 1))
theorem invchk_all : all2 invchk 14 0 = true := by decide +kernel
theorem mul_inv (a : F) (h : a ≠ 0) : a * inv a = 1 := by
  have h1 := all2_ok invchk 14 0 invchk_all a.val (by omega) (by have := a.isLt; omega)
  unfold invchk at h1
  have h2 : ¬ a.val = 0 := fun e => h (Fin.ext e)
  have h3 := a.isLt
  rw [show Nat.ble 12107 a.val = false by rw [← Bool.not_eq_true, Nat.ble_eq]; omega, show Nat.beq a.val 0 = false by rw [← Bool.not_eq_true, Nat.beq_eq]; exact h2] at h1
  have h4 := Nat.eq_of_beq_eq_true h1
  apply Fin.ext
  show a.val * (inv a).val % 12107 = 1
  rw [inv, pwl_val]; exact h4
theorem inv_zero : inv 0 = 0 := by
  apply Fin.ext; rw [inv, pwl_val]; decide +kernel
theorem mul_zero_cases (a b : F) (h : a * b = 0) : a = 0 ∨ b = 0 := by
  by_cases c : a = 0
  · exact Or.inl c
  · right
    have h1 := mul_inv a c
    generalize inv a = i at h1
    grobner
theorem cancel (a b c : F) (ha : a ≠ 0) (h : a * b = a * c) : b = c := by
  have h1 := mul_inv a ha
  generalize inv a = i at h1
  grobner
theorem two_ne : (2 : F) ≠ 0 := by decide
theorem dbl_zero (a : F) (h : a + a = 0) : a = 0 := by
  rcases mul_zero_cases 2 a (by grobner) with h1 | h1
  · exact absurd h1 two_ne
  · exact h1

/-! lines -/
def Ln (a a' b b' l : F) : Prop := a' - b' = l*(a-b) ∧ l*(a'+b') = a*a+a*b+b*b+1
def On (a a' : F) : Prop := a'*a' = a*a*a + a
theorem On.neg {a a' : F} (h : On a a') : On a (-a') := by unfold On at *; grobner
/-- the points are each other's negatives -/
def Up (a a' b b' : F) : Prop := a = b ∧ a' + b' = 0
theorem Ln.symm {a a' b b' l : F} (h : Ln a a' b b' l) : Ln b b' a a' l := by
  obtain ⟨h1, h2⟩ := h; constructor <;> grobner
theorem Ln.flip {a a' b b' l : F} (h : Ln a a' b b' l) : Ln a (-a') b (-b') (-l) := by
  obtain ⟨h1, h2⟩ := h; constructor <;> grobner
theorem same_x {a a' b' : F} (ha : On a a') (hb : On a b') : a' = b' ∨ a' + b' = 0 := by
  unfold On at *
  rcases mul_zero_cases (a' - b') (a' + b') (by grobner) with h | h
  · left; grobner
  · exact Or.inr h
/-- no point is flat -/
theorem not_flat {a : F} (ha : On a 0) (h : 3 * (a * a) + 1 = 0) : False := by
  unfold On at ha
  have h1 : a * (a * a + 1) = 0 := by grobner
  rcases mul_zero_cases _ _ h1 with h2 | h2
  · subst h2; exact absurd h (by decide)
  · have h3 : (2 : F) = 0 := by grobner
    exact two_ne h3
theorem Ln.unique {a a' b b' l m : F} (h : Ln a a' b b' l) (g : Ln a a' b b' m) (ha : On a a') (hb : On b b') (hu : ¬ Up a a' b b') : l = m := by
  obtain ⟨h1, h2⟩ := h
  obtain ⟨g1, g2⟩ := g
  by_cases c : a - b = 0
  · have e : a = b := by grobner
    subst e
    have hn : a' + b' ≠ 0 := fun e => hu ⟨rfl, e⟩
    exact cancel (a' + b') l m hn (by grobner)
  · exact cancel (a - b) l m c (by grobner)
theorem third_on {a a' b b' l s s' : F} (ha : On a a') (hl : Ln a a' b b' l) (hs : s = l*l - a - b) (hs' : s' = l*(a-s) - a') : On s s' := by
  unfold On Ln at *
  obtain ⟨h1, h2⟩ := hl
  subst hs hs'
  grobner
theorem third_ln {a a' b b' l s s' : F} (hl : Ln a a' b b' l) (hs : s = l*l - a - b) (hs' : s' = l*(a-s) - a') : Ln a a' s (-s') l := by
  unfold Ln at *
  obtain ⟨h1, h2⟩ := hl
  subst hs hs'
  constructor <;> grobner
theorem third_ln' {a a' b b' l s s' : F} (hl : Ln a a' b b' l) (hs : s = l*l - a - b) (hs' : s' = l*(a-s) - a') : Ln b b' s (-s') l := by
  unfold Ln at *
  obtain ⟨h1, h2⟩ := hl
  subst hs hs'
  constructor <;> grobner
theorem third_y {a a' b b' l s s' : F} (hl : Ln a a' b b' l) (hs' : s' = l*(a-s) - a') : s' = l*(b-s) - b' := by
  obtain ⟨h1, h2⟩ := hl
  clear h2
  grobner
/-- the two products of lines have one quotient: its sum of slopes -/
theorem key {a a' b b' c c' l1 l2 l3 s s' : F} (hb : On b b') (h1 : Ln a a' b b' l1) (hs : s = l1*l1 - a - b) (hs' : s' = l1*(a-s) - a')
    (h2 : Ln s s' c c' l2) (h3 : Ln b b' c c' l3) (hu : ¬ Up b b' c c') (hc : On c c') : (l1 + l2) * (l1 - l3) = a - c := by
  have t := third_ln' h1 hs hs'
  have e : b + c + s + l1*l2 = (l1+l2)*l3 := by
    obtain ⟨t1, t2⟩ := t
    obtain ⟨u1, u2⟩ := h2
    obtain ⟨v1, v2⟩ := h3
    clear h1 hs hs'
    by_cases d : b - c = 0
    · have e : b = c := by grobner
      subst e
      rcases same_x hb hc with e | e
      · subst e
        have n : b' + b' ≠ 0 := fun e => hu ⟨rfl, e⟩
        refine cancel (b' + b') _ _ n ?_
        unfold On at *
        grobner
      · exact absurd ⟨rfl, e⟩ hu
    · refine cancel (b - c) _ _ d ?_
      grobner
  subst hs
  grobner
theorem assoc_x {a a' b b' c c' l1 l2 l3 l4 s s' t t' : F} (ha : On a a') (hb : On b b') (hc : On c c')
    (h1 : Ln a a' b b' l1) (hs : s = l1*l1 - a - b) (hs' : s' = l1*(a-s) - a')
    (h2 : Ln s s' c c' l2) (h3 : Ln b b' c c' l3) (ht : t = l3*l3 - b - c) (ht' : t' = l3*(b-t) - b')
    (h4 : Ln a a' t t' l4) (hab : ¬ Up a a' b b') (hbc : ¬ Up b b' c c') (hac : a ≠ c) : l1 + l2 = l3 + l4 ∧ (l1 + l2) * (l1 - l3) = a - c := by
  have k1 := key hb h1 hs hs' h2 h3 hbc hc
  have hu' : ¬ Up b b' a a' := fun ⟨e1, e2⟩ => hab ⟨e1.symm, by grobner⟩
  have k2 := key (a := c) (a' := c') (c := a) (c' := a') (l1 := l3) (l2 := l4) (l3 := l1) (s := t) (s' := t') hb h3.symm (by rw [ht]; grobner) (third_y h3 ht') h4.symm h1.symm hu' ha
  refine ⟨?_, k1⟩
  have n : l1 - l3 ≠ 0 := by
    intro e
    rw [e] at k1
    apply hac
    grobner
  exact cancel (l1 - l3) _ _ n (by grobner)

/-! points -/
inductive Pt where
  | O : Pt
  | P (x y : F) : Pt

open Pt
def Ok : Pt → Prop
  | O => True
  | P x y => On x y
def neg : Pt → Pt
  | O => O
  | P x y => P x (-y)
def slope (x y x' y' : F) : F := if x = x' then (3 * (x * x) + 1) * inv (2 * y) else (y' - y) * inv (x' - x)
instance (a a' b b' : F) : Decidable (Up a a' b b') := by unfold Up; infer_instance
def add : Pt → Pt → Pt
  | O, q => q
  | P x y, O => P x y
  | P x y, P x' y' => if Up x y x' y' then O else P (slope x y x' y' * slope x y x' y' - x - x') (slope x y x' y' * (x - (slope x y x' y' * slope x y x' y' - x - x')) - y)
theorem slope_ln {a a' b b' : F} (ha : On a a') (hb : On b b') (hu : ¬ Up a a' b b') : Ln a a' b b' (slope a a' b b') := by
  unfold slope
  by_cases c : a = b
  · subst c
    rw [if_pos rfl]
    rcases same_x ha hb with e | e
    · subst e
      have n : 2 * a' ≠ 0 := fun e => hu ⟨rfl, by grobner⟩
      have i := mul_inv _ n
      generalize inv (2 * a') = j at *
      constructor <;> grobner
    · exact absurd ⟨rfl, e⟩ hu
  · rw [if_neg c]
    have n : b - a ≠ 0 := fun e => c (by grobner)
    have i := mul_inv _ n
    generalize inv (b - a) = j at *
    unfold On at *
    clear hu
    constructor
    · grobner
    · refine cancel (b - a) _ _ n ?_
      grobner
theorem add_P {a a' b b' l s s' : F} (ha : On a a') (hb : On b b') (hu : ¬ Up a a' b b') (hl : Ln a a' b b' l) (hs : s = l*l - a - b) (hs' : s' = l*(a-s) - a') : add (P a a') (P b b') = P s s' := by
  rw [add, if_neg hu, ← Ln.unique hl (slope_ln ha hb hu) ha hb hu, ← hs, ← hs']
/-- what a sum is made of -/
theorem add_cases (a a' b b' : F) (ha : On a a') (hb : On b b') (hu : ¬ Up a a' b b') : ∃ l s s', Ln a a' b b' l ∧ s = l*l - a - b ∧ s' = l*(a-s) - a' ∧ add (P a a') (P b b') = P s s' ∧ On s s' := by
  have h := slope_ln ha hb hu
  exact ⟨_, _, _, h, rfl, rfl, add_P ha hb hu h rfl rfl, third_on ha h rfl rfl⟩
theorem Ok_neg {A : Pt} (h : Ok A) : Ok (neg A) := by
  cases A with
  | O => exact h
  | P x y => exact On.neg h
theorem neg_neg (A : Pt) : neg (neg A) = A := by
  cases A with
  | O => rfl
  | P x y => simp only [neg]; congr 1; grobner
theorem add_zero (A : Pt) : add A O = A := by cases A <;> rfl
theorem zero_add (A : Pt) : add O A = A := by cases A <;> rfl
theorem add_up {a a' b b' : F} (h : Up a a' b b') : add (P a a') (P b b') = O := by rw [add, if_pos h]
theorem Up.symm {a a' b b' : F} (h : Up a a' b b') : Up b b' a a' := ⟨h.1.symm, by have := h.2; grobner⟩
theorem add_comm (A B : Pt) (hA : Ok A) (hB : Ok B) : add A B = add B A := by
  cases A with
  | O => rw [add_zero, zero_add]
  | P a a' =>
    cases B with
    | O => rw [add_zero, zero_add]
    | P b b' =>
      by_cases hu : Up a a' b b'
      · rw [add_up hu, add_up hu.symm]
      · obtain ⟨l, s, s', hl, hs, hs', e, _⟩ := add_cases a a' b b' hA hB hu
        rw [e]
        exact (add_P hB hA (fun h => hu h.symm) hl.symm (by rw [hs]; grobner) (third_y hl hs')).symm
theorem Ok_add {A B : Pt} (hA : Ok A) (hB : Ok B) : Ok (add A B) := by
  cases A with
  | O => rw [zero_add]; exact hB
  | P a a' =>
    cases B with
    | O => rw [add_zero]; exact hA
    | P b b' =>
      by_cases hu : Up a a' b b'
      · rw [add_up hu]; trivial
      · obtain ⟨l, s, s', hl, hs, hs', e, h⟩ := add_cases a a' b b' hA hB hu
        rw [e]; exact h
theorem add_neg (A : Pt) : add A (neg A) = O := by
  cases A with
  | O => rfl
  | P a a' => exact add_up ⟨rfl, by grobner⟩
theorem neg_of_add {A B : Pt} (h : add A B = O) : B = neg A := by
  cases A with
  | O => rw [zero_add] at h; exact h
  | P a a' =>
    cases B with
    | O => rw [add_zero] at h; cases h
    | P b b' =>
      by_cases hu : Up a a' b b'
      · rw [neg, ← hu.1]; congr 1; have := hu.2; grobner
      · rw [add, if_neg hu] at h; cases h
theorem neg_add (A B : Pt) (hA : Ok A) (hB : Ok B) : neg (add A B) = add (neg A) (neg B) := by
  cases A with
  | O => rw [zero_add]; exact (zero_add _).symm
  | P a a' =>
    cases B with
    | O => rw [add_zero]; exact (add_zero _).symm
    | P b b' =>
      by_cases hu : Up a a' b b'
      · rw [add_up hu]; symm; exact add_up ⟨hu.1, by have := hu.2; grobner⟩
      · obtain ⟨l, s, s', hl, hs, hs', e, h⟩ := add_cases a a' b b' hA hB hu
        rw [e]
        exact (add_P (On.neg hA) (On.neg hB) (fun h => hu ⟨h.1, by have := h.2; grobner⟩) hl.flip (by rw [hs]; grobner) (by rw [hs']; grobner)).symm
/-- a point back -/
theorem back (A C : Pt) (hA : Ok A) (hC : Ok C) : add (neg A) (add A C) = C := by
  cases A with
  | O => rfl
  | P a a' =>
    cases C with
    | O => rw [add_zero, add_comm _ _ (Ok_neg hA) hA, add_neg]
    | P c c' =>
      by_cases hu : Up a a' c c'
      · rw [add_up hu, add_zero, neg]
        rw [← hu.1]; congr 1; have := hu.2; grobner
      · obtain ⟨l, s, s', hl, hs, hs', e, h⟩ := add_cases a a' c c' hA hC hu
        rw [e]
        have t := third_ln hl hs hs'
        have hv : ¬ Up a (-a') s s' := by
          rintro ⟨e1, e2⟩
          obtain ⟨t1, t2⟩ := t
          subst e1
          have e3 : s' = a' := by grobner
          subst e3
          have e4 : s' = 0 := dbl_zero _ (by grobner)
          subst e4
          exact not_flat hA (by grobner)
        have g := t.flip
        rw [show -(-s') = s' by grobner] at g
        exact add_P (On.neg hA) h hv g (by rw [hs]; grobner) (by have := third_y hl hs'; have e1 := hl.1; rw [hs'] at *; grobner)
theorem back' (A C : Pt) (hA : Ok A) (hC : Ok C) : add A (add (neg A) C) = C := by
  have h := back (neg A) C (Ok_neg hA) hC
  rw [neg_neg] at h
  exact h
theorem back2 (A C : Pt) (hA : Ok A) (hC : Ok C) : add (add C A) (neg A) = C := by
  rw [add_comm C A hC hA, add_comm _ _ (Ok_add hA hC) (Ok_neg hA)]
  exact back A C hA hC
theorem assoc (A B C : Pt) (hA : Ok A) (hB : Ok B) (hC : Ok C) : add (add A B) C = add A (add B C) := by
  cases A with
  | O => rw [zero_add, zero_add]
  | P a a' =>
  cases B with
  | O => rw [add_zero, zero_add]
  | P b b' =>
  cases C with
  | O => rw [add_zero, add_zero]
  | P c c' =>
  by_cases hab : Up a a' b b'
  · have e : P a a' = neg (P b b') := neg_of_add (add_up hab.symm)
    rw [e, back _ _ hB hC, add_comm _ _ (Ok_neg hB) hB, add_neg, zero_add]
  by_cases hbc : Up b b' c c'
  · have e : P c c' = neg (P b b') := neg_of_add (add_up hbc)
    rw [e, back2 _ _ hB hA, add_neg, add_zero]
  by_cases hac : a = c
  · subst hac
    rcases same_x hA hC with e | e
    · subst e
      rw [add_comm _ _ (Ok_add hA hB) hA, add_comm (P b b') _ hB hA]
    · have e : P a c' = neg (P a a') := neg_of_add (add_up ⟨rfl, e⟩)
      rw [e, add_comm (P a a') _ hA hB, back2 _ _ hA hB, add_comm (P b b') _ hB (Ok_neg hA), back' _ _ hA hB]
  obtain ⟨l1, s, s', h1, hs, hs', es, os⟩ := add_cases a a' b b' hA hB hab
  obtain ⟨l3, t, t', h3, ht, ht', et, ot⟩ := add_cases b b' c c' hB hC hbc
  by_cases hsc : Up s s' c c'
  · have e : P c c' = neg (add (P a a') (P b b')) := by rw [es]; exact neg_of_add (add_up hsc)
    have e2 : add (P b b') (P c c') = neg (P a a') := by
      rw [e, neg_add _ _ hA hB, add_comm _ _ (Ok_neg hA) (Ok_neg hB)]
      exact back' _ _ hB (Ok_neg hA)
    rw [e2, add_neg, e, add_neg]
  by_cases hta : Up a a' t t'
  · have e : P a a' = neg (add (P b b') (P c c')) := by rw [et]; exact neg_of_add (add_up hta.symm)
    have e2 : add (P a a') (P b b') = neg (P c c') := by
      rw [e, neg_add _ _ hB hC, add_comm _ _ (Ok_add (Ok_neg hB) (Ok_neg hC)) hB]
      exact back' _ _ hB (Ok_neg hC)
    rw [e2, et, add_up hta, add_comm _ _ (Ok_neg hC) hC, add_neg]
  rw [es, et]
  obtain ⟨l2, u, u', h2, hu, hu', eu, ou⟩ := add_cases s s' c c' os hC hsc
  obtain ⟨l4, v, v', h4, hv, hv', ev, ov⟩ := add_cases a a' t t' hA ot hta
  rw [eu, ev]
  obtain ⟨m1, m2⟩ := assoc_x hA hB hC h1 hs hs' h2 h3 ht ht' h4 hab hbc hac
  have e1 : u = v := by
    clear h1 h2 h3 h4 hs' ht' hu' hv' hA hB hC os ot ou ov
    grobner
  subst e1
  have hu2 := third_y h2 hu'
  obtain ⟨p1, p2⟩ := h1
  obtain ⟨q1, q2⟩ := h3
  have e3 : (l1+l2)*(l1+l3-(l1+l2)) + u - b = 0 := by
    rw [hu, hs]
    clear hv ht hs' ht' hu2 hv' p1 p2 q1 q2 h2 h4 hA hB hC os ot ou ov hu'
    grobner
  have e4 : u' - v' = (l1 - l3) * ((l1+l2)*(l1+l3-(l1+l2)) + u - b) := by
    rw [hu2, hv']
    clear hu hv ht hs' ht' hs e3 p2 q2 h2 h4 hA hB hC os ot ou ov hu' hu2 hv'
    have e5 : l4 = l1 + l2 - l3 := by grobner
    have e6 : c' = a' - l1*(a-b) - l3*(b-c) := by grobner
    rw [e5, e6]
    clear e5 e6 p1 q1 m1
    grobner
  have e2 : u' = v' := by
    rw [e3] at e4
    clear hu hv ht hs' ht' hs e3 p1 p2 q1 q2 h2 h4 hA hB hC os ot ou ov hu' hu2 hv'
    grobner
  rw [e2]
end Go.Proofs.Ytmbjefdkjdemhaa.Crv
end

section
/- What is proved here: what the field's functions answer, of the program and of the reference alike: sums, products and inverses modulo 12107. No conditions. -/
set_option linter.unusedVariables false
set_option linter.unusedSimpArgs false
namespace Go.Proofs.Ytmbjefdkjdemhaa.Link
open Go.RowKit Go.Proofs.Ytmbjefdkjdemhaa.Pf Go.Proofs.YtmbjefdkjdemhaaW.PrintWords Go.Proofs.Ytmbjefdkjdemhaa.Crv
set_option maxRecDepth 4000

theorem wrap_in {i : Int} (h0 : -9223372036854775808 ≤ i) (h : i ≤ 9223372036854775807) : wrap64 i = i := by
  unfold wrap64; omega
/-- an element's number, a number's element -/
def I (x : F) : Int := (x.val : Int)
def R (n : Int) : F := Fin.ofNat 12107 (n % 12107).toNat
theorem I_lt (x : F) : I x < 12107 := by have := x.isLt; unfold I; omega
theorem I_nn (x : F) : 0 ≤ I x := by unfold I; omega
theorem I_R (n : Int) : I (R n) = n % 12107 := by
  unfold I R
  show (((n % 12107).toNat % 12107 : Nat) : Int) = _
  omega
theorem R_I (x : F) : R (I x) = x := by
  apply Fin.ext
  show ((x.val : Int) % 12107).toNat % 12107 = x.val
  have := x.isLt
  omega
theorem I_inj {x y : F} (h : I x = I y) : x = y := by rw [← R_I x, h, R_I]
theorem R_mod (n : Int) : R (n % 12107) = R n := by
  apply I_inj; rw [I_R, I_R]; omega
theorem R_small {n : Int} (h0 : 0 ≤ n) (h : n < 12107) : I (R n) = n := by rw [I_R]; omega
theorem I_add (x y : F) : I (x + y) = (((x.val + y.val) % 12107 : Nat) : Int) := rfl
theorem I_mul (x y : F) : I (x * y) = (((x.val * y.val) % 12107 : Nat) : Int) := rfl
theorem I_sub (x y : F) : I (x - y) = (((12107 - y.val + x.val) % 12107 : Nat) : Int) := rfl
theorem R_add (a b : Int) : R (a + b) = R a + R b := by
  apply I_inj
  rw [I_R, I_add]
  have h1 := I_R a
  have h2 := I_R b
  unfold I at h1 h2
  omega
theorem R_mul (a b : Int) : R (a * b) = R a * R b := by
  apply I_inj
  rw [I_R, I_mul]
  have h1 := I_R a
  have h2 := I_R b
  unfold I at h1 h2
  rw [Int.mul_emod, ← h1, ← h2, ← Int.natCast_mul]
  omega
theorem R_sub (a b : Int) : R (a - b) = R a - R b := by
  apply I_inj
  rw [I_R, I_sub]
  have h1 := I_R a
  have h2 := I_R b
  have h3 := (R b).isLt
  unfold I at h1 h2
  omega
theorem R_zero : R 0 = 0 := by decide
theorem R_one : R 1 = 1 := by decide
theorem R_two : R 2 = 2 := by decide
theorem R_three : R 3 = 3 := by decide
theorem I_zero : I 0 = 0 := by decide
theorem I_one : I 1 = 1 := by decide
theorem tmod_two (n : Int) (m : Int) (hm : 0 < m) : Int.tmod n m = n % m ∨ (Int.tmod n m = n % m - m ∧ n % m ≠ 0) := by
  rw [Int.tmod_eq_emod]
  split
  · left; omega
  · rename_i h
    right
    refine ⟨by omega, fun e => h (Or.inr (Int.dvd_of_emod_eq_zero e))⟩
theorem mul_bound (a b : F) : 0 ≤ I a * I b ∧ I a * I b ≤ 146555236 := by
  have h1 := I_nn a
  have h2 := I_nn b
  have h3 := I_lt a
  have h4 := I_lt b
  refine ⟨Int.mul_nonneg h1 h2, ?_⟩
  have := Int.mul_le_mul (show I a ≤ 12106 by omega) (show I b ≤ 12106 by omega) h2 (by decide)
  omega

theorem impl_FpOf_eq (n : Int) : impl_FpOf.f n = some (I (R n)) := by
  unfold impl_FpOf.f impl_remainder.f
  rw [if_neg (by decide)]
  rw [I_R]
  rcases tmod_two n 12107 (by decide) with h | ⟨h, h2⟩
  · rw [h, if_neg (by omega)]; rfl
  · rw [h, if_pos (by omega), wrap_in (by omega) (by omega)]
    simp
theorem impl_FpAdd_eq (a b : Int) : impl_FpAdd.f a b = some (I (R a + R b)) := by
  have h1 := I_lt (R a)
  have h2 := I_lt (R b)
  have h3 := I_nn (R a)
  have h4 := I_nn (R b)
  simp only [impl_FpAdd.f, impl_FpOf_eq, Option.bind_some]
  rw [wrap_in (by omega) (by omega), R_add, R_I, R_I]
theorem impl_FpSub_eq (a b : Int) : impl_FpSub.f a b = some (I (R a - R b)) := by
  have h1 := I_lt (R a)
  have h2 := I_lt (R b)
  have h3 := I_nn (R a)
  have h4 := I_nn (R b)
  simp only [impl_FpSub.f, impl_FpOf_eq, Option.bind_some]
  rw [wrap_in (by omega) (by omega), R_sub, R_I, R_I]
theorem impl_FpMul_eq (a b : Int) : impl_FpMul.f a b = some (I (R a * R b)) := by
  have h := mul_bound (R a) (R b)
  simp only [impl_FpMul.f, impl_FpOf_eq, Option.bind_some]
  rw [wrap_in (by omega) (by omega), R_mul, R_I, R_I]

theorem spec_FpOf_eq (n : Int) : spec_FpOf.f n = some (I (R n)) := by
  unfold spec_FpOf.f
  rw [I_R]
  rcases tmod_two n 12107 (by decide) with h | ⟨h, h2⟩
  · rw [h, if_neg (by omega)]
  · rw [h, if_pos (by omega), wrap_in (by omega) (by omega)]
    simp
theorem spec_FpAdd_eq (a b : Int) : spec_FpAdd.f a b = some (I (R a + R b)) := by
  have h1 := I_lt (R a)
  have h2 := I_lt (R b)
  have h3 := I_nn (R a)
  have h4 := I_nn (R b)
  simp only [spec_FpAdd.f, spec_FpOf_eq, Option.bind_some]
  rw [wrap_in (by omega) (by omega), R_add, R_I, R_I]
theorem spec_FpSub_eq (a b : Int) : spec_FpSub.f a b = some (I (R a - R b)) := by
  have h1 := I_lt (R a)
  have h2 := I_lt (R b)
  have h3 := I_nn (R a)
  have h4 := I_nn (R b)
  simp only [spec_FpSub.f, spec_FpOf_eq, Option.bind_some]
  rw [wrap_in (by omega) (by omega), R_sub, R_I, R_I]
theorem spec_FpMul_eq (a b : Int) : spec_FpMul.f a b = some (I (R a * R b)) := by
  have h := mul_bound (R a) (R b)
  simp only [spec_FpMul.f, spec_FpOf_eq, Option.bind_some]
  rw [wrap_in (by omega) (by omega), R_mul, R_I, R_I]

theorem halve (n : Nat) (h : n < 4611686018427387904) : wrap64 (Int.tdiv (n : Int) 2) = ((n / 2 : Nat) : Int) := by
  rw [Int.tdiv_eq_ediv_of_nonneg (by omega), wrap_in (by omega) (by omega)]; omega
theorem odd (n : Nat) : Int.tmod (n : Int) 2 = 1 ↔ n % 2 = 1 := by
  rw [Int.tmod_eq_emod_of_nonneg (by omega)]; omega
theorem pwl_stop : ∀ (f : Nat) (a out : F), pwl f a 0 out = out
  | 0, _, _ => rfl
  | f + 1, a, out => by rw [pwl, if_pos rfl]
theorem tmod_mul (a b : F) : Int.tmod (wrap64 (I a * I b)) 12107 = I (a * b) := by
  have h := mul_bound a b
  rw [wrap_in (by omega) (by omega), Int.tmod_eq_emod_of_nonneg h.1, ← I_R, R_mul, R_I, R_I]
theorem impl_power_l0 : ∀ (f k : Nat) (a : F) (n : Nat) (out : F), n < 2 ^ f → f ≤ 60 → f < k → impl_powerMod.l0 k (I a) (n : Int) 12107 (I out) = some (I (pwl f a n out))
  | 0, k, a, n, out, h, _, hk => by
    obtain rfl : n = 0 := by simp at h; exact h
    obtain ⟨k, rfl⟩ : ∃ m, k = m + 1 := ⟨k - 1, by omega⟩
    simp only [impl_powerMod.l0]
    rw [if_neg (by omega), pwl]
  | f + 1, k, a, n, out, h, hf, hk => by
    obtain ⟨k, rfl⟩ : ∃ m, k = m + 1 := ⟨k - 1, by omega⟩
    have hb : 2 ^ (f + 1) ≤ 2 ^ 60 := Nat.pow_le_pow_right (by decide) hf
    simp only [impl_powerMod.l0]
    rw [pwl]
    by_cases c : n = 0
    · subst c; rw [if_neg (by omega), if_pos rfl]
    rw [if_pos (by omega), if_neg c, halve n (by omega)]
    rw [Nat.pow_succ] at h
    by_cases d : n % 2 = 1
    · rw [if_pos ((odd n).mpr d), if_pos d, if_neg (by decide), tmod_mul, tmod_mul, impl_power_l0 f k _ _ _ (by omega) (by omega) (by omega)]
    · rw [if_neg (fun e => d ((odd n).mp e)), if_neg d, if_neg (by decide), tmod_mul, impl_power_l0 f k _ _ _ (by omega) (by omega) (by omega)]
theorem impl_power_eq (k : Nat) (a : Int) (n f : Nat) (h : n < 2 ^ f) (hf : f ≤ 60) (hk : f < k) : impl_powerMod.f k a (n : Int) 12107 = some (I (pwl f (R a) n 1)) := by
  have e := impl_FpOf_eq a
  unfold impl_FpOf.f at e
  have e2 : impl_remainder.f a 12107 = some (I (R a)) := by
    cases h : impl_remainder.f a 12107 with
    | none => rw [h] at e; cases e
    | some v => rw [h] at e; exact e
  simp only [impl_powerMod.f, e2, Option.bind_some]
  have := impl_power_l0 f k (R a) n 1 h hf hk
  rw [I_one] at this
  exact this
theorem spec_power_l0 : ∀ (f k : Nat) (a : F) (n : Nat) (out : F), n < 2 ^ f → f ≤ 60 → f < k → spec_FpPow.l0 k (n : Int) (I out) (I a) = some (I (pwl f a n out))
  | 0, k, a, n, out, h, _, hk => by
    obtain rfl : n = 0 := by simp at h; exact h
    obtain ⟨k, rfl⟩ : ∃ m, k = m + 1 := ⟨k - 1, by omega⟩
    simp only [spec_FpPow.l0]
    rw [if_neg (by omega), pwl]
  | f + 1, k, a, n, out, h, hf, hk => by
    obtain ⟨k, rfl⟩ : ∃ m, k = m + 1 := ⟨k - 1, by omega⟩
    have hb : 2 ^ (f + 1) ≤ 2 ^ 60 := Nat.pow_le_pow_right (by decide) hf
    simp only [spec_FpPow.l0, spec_FpMul_eq, Option.bind_some, R_I]
    rw [pwl]
    by_cases c : n = 0
    · subst c; rw [if_neg (by omega), if_pos rfl]
    rw [if_pos (by omega), if_neg c, halve n (by omega)]
    rw [Nat.pow_succ] at h
    by_cases d : n % 2 = 1
    · rw [if_pos ((odd n).mpr d), if_pos d, spec_power_l0 f k _ _ _ (by omega) (by omega) (by omega)]
    · rw [if_neg (fun e => d ((odd n).mp e)), if_neg d, spec_power_l0 f k _ _ _ (by omega) (by omega) (by omega)]
theorem spec_power_eq (k : Nat) (a : Int) (n f : Nat) (h : n < 2 ^ f) (hf : f ≤ 60) (hk : f < k) : spec_FpPow.f k a (n : Int) = some (I (pwl f (R a) n 1)) := by
  simp only [spec_FpPow.f, spec_FpOf_eq, Option.bind_some]
  rw [if_neg (by omega)]
  have := spec_power_l0 f k (R a) n 1 h hf hk
  rw [I_one] at this
  exact this
theorem impl_FpInv_eq (k : Nat) (a : Int) (hk : 15 ≤ k) : impl_FpInv.f k a = some (I (inv (R a))) := by
  have h := impl_power_eq k a 12105 14 (by decide) (by decide) (by omega)
  have e : ((12105 : Nat) : Int) = 12105 := rfl
  rw [e] at h
  simp only [impl_FpInv.f, h, Option.bind_some, inv]
theorem spec_FpInv_eq (k : Nat) (a : Int) (hk : 15 ≤ k) : spec_FpInv.f k a = some (I (inv (R a))) := by
  have h := spec_power_eq k a 12105 14 (by decide) (by decide) (by omega)
  have e : ((12105 : Nat) : Int) = 12105 := rfl
  rw [e] at h
  simp only [spec_FpInv.f, h, Option.bind_some, inv]

end Go.Proofs.Ytmbjefdkjdemhaa.Link
end

section
/- What is proved here: what the functions over points of the curve answer, of the program and of the reference alike: the sum of the curve. No conditions but that points lie on the curve. -/
set_option linter.unusedVariables false
set_option linter.unusedSimpArgs false
namespace Go.Proofs.Ytmbjefdkjdemhaa.Link
open Go.RowKit Go.Proofs.Ytmbjefdkjdemhaa.Pf Go.Proofs.YtmbjefdkjdemhaaW.PrintWords Go.Proofs.Ytmbjefdkjdemhaa.Crv
open Go.Proofs.Ytmbjefdkjdemhaa.Crv.Pt
set_option maxRecDepth 4000


def tr : Pt → Int × Int × Bool
  | O => (0, 0, true)
  | P x y => (I x, I y, false)
/-- the point that three parts tell -/
def dec (x y : Int) (z : Bool) : Option Pt :=
  if z = true then (if x = 0 ∧ y = 0 then some O else none)
  else if (0 ≤ x ∧ x < 12107) ∧ (0 ≤ y ∧ y < 12107) ∧ R y * R y = R x * R x * R x + R x then some (P (R x) (R y)) else none
theorem dec_ok {x y : Int} {z : Bool} {A : Pt} (h : dec x y z = some A) : Ok A ∧ x = (tr A).1 ∧ y = (tr A).2.1 ∧ z = (tr A).2.2 := by
  unfold dec at h
  by_cases c : z = true
  · rw [if_pos c] at h
    by_cases d : x = 0 ∧ y = 0
    · rw [if_pos d] at h
      obtain rfl := Option.some.inj h
      exact ⟨trivial, d.1, d.2, c⟩
    · rw [if_neg d] at h; cases h
  · rw [if_neg c] at h
    by_cases d : (0 ≤ x ∧ x < 12107) ∧ (0 ≤ y ∧ y < 12107) ∧ R y * R y = R x * R x * R x + R x
    · rw [if_pos d] at h
      obtain rfl := Option.some.inj h
      obtain ⟨⟨d1, d2⟩, ⟨d3, d4⟩, d5⟩ := d
      exact ⟨d5, (R_small d1 d2).symm, (R_small d3 d4).symm, Bool.eq_false_iff.mpr c⟩
    · rw [if_neg d] at h; cases h
theorem dec_tr (A : Pt) (hA : Ok A) : dec (tr A).1 (tr A).2.1 (tr A).2.2 = some A := by
  cases A with
  | O => rfl
  | P x y =>
    unfold dec tr
    have hA' : y * y = x * x * x + x := hA
    dsimp only
    rw [if_neg (by decide), if_pos ⟨⟨I_nn x, I_lt x⟩, ⟨I_nn y, I_lt y⟩, by rw [R_I, R_I]; exact hA'⟩, R_I, R_I]
theorem tr_inj {A B : Pt} (hA : Ok A) (hB : Ok B) (h : tr A = tr B) : A = B := by
  have h1 := dec_tr A hA
  rw [h, dec_tr B hB] at h1
  exact (Option.some.inj h1).symm
theorem Ieq_iff (x y : F) : I x = I y ↔ x = y := ⟨I_inj, fun h => by rw [h]⟩
theorem I_eq_zero (x : F) : I x = 0 ↔ x = 0 := by rw [← I_zero]; exact Ieq_iff x 0
theorem addc (a b c d : F) : (I (a * b * c + d) == I (a * b * c + d)) = true := by simp

theorem impl_curve_eq (x : Int) : impl_curveAt.f x = some (I (R x * R x * R x + R x)) := by
  simp only [impl_curveAt.f, impl_FpMul_eq, impl_FpAdd_eq, Option.bind_some, R_I]
theorem impl_FpOk_eq (x : Int) : impl_FpOk.f x = some (decide (0 ≤ x ∧ x < 12107)) := by
  unfold impl_FpOk.f
  by_cases h : x ≥ 0
  · rw [if_pos h]; congr 1; simp only [decide_eq_decide]; omega
  · rw [if_neg h, decide_eq_false (by omega)]
theorem impl_PointOk_eq (x y : Int) (z : Bool) : impl_PointOk.f x y z = some (dec x y z).isSome := by
  unfold impl_PointOk.f dec
  simp only [impl_FpOk_eq, impl_curve_eq, impl_FpMul_eq, Option.bind_some]
  by_cases c : z = true
  · rw [if_pos c, if_pos c]
    by_cases d : x = 0
    · rw [if_pos d]
      by_cases e : y = 0
      · rw [if_pos ⟨d, e⟩, e]; rfl
      · rw [if_neg (fun h => e h.2), beq_false_of_ne e]; rfl
    · rw [if_neg d, if_neg (fun h => d h.1)]; rfl
  · rw [if_neg c, if_neg c]
    by_cases d : 0 ≤ x ∧ x < 12107
    · rw [decide_eq_true d, if_pos rfl]
      by_cases e : 0 ≤ y ∧ y < 12107
      · rw [decide_eq_true e, if_pos rfl]
        by_cases f : R y * R y = R x * R x * R x + R x
        · rw [if_pos ⟨d, e, f⟩, f]; simp
        · rw [if_neg (fun h => f h.2.2), beq_false_of_ne (fun h => f (I_inj h))]; rfl
      · rw [decide_eq_false e, if_neg (by decide), if_neg (fun h => e h.2.1)]; rfl
    · rw [decide_eq_false d, if_neg (by decide), if_neg (fun h => d h.1)]; rfl

theorem spec_curve_eq (x : Int) : spec_l07Right.f x = some (I (R x * R x * R x + R x)) := by
  simp only [spec_l07Right.f, spec_FpMul_eq, spec_FpAdd_eq, Option.bind_some, R_I]
theorem spec_FpOk_eq (x : Int) : spec_FpOk.f x = some (decide (0 ≤ x ∧ x < 12107)) := by
  simp only [spec_FpOk.f, spec_l01In.f]
  by_cases h : x ≥ 0
  · rw [if_pos h]; simp only [Option.bind_some]; congr 1; simp only [decide_eq_decide]; omega
  · rw [if_neg h, decide_eq_false (by omega)]; rfl
theorem spec_PointOk_eq (x y : Int) (z : Bool) : spec_PointOk.f x y z = some (dec x y z).isSome := by
  unfold spec_PointOk.f dec
  simp only [spec_FpOk_eq, spec_curve_eq, spec_FpMul_eq, Option.bind_some]
  by_cases c : z = true
  · rw [if_pos c, if_pos c]
    by_cases d : x = 0
    · rw [if_pos d]
      by_cases e : y = 0
      · rw [if_pos ⟨d, e⟩, e]; rfl
      · rw [if_neg (fun h => e h.2), beq_false_of_ne e]; rfl
    · rw [if_neg d, if_neg (fun h => d h.1)]; rfl
  · rw [if_neg c, if_neg c]
    by_cases d : 0 ≤ x ∧ x < 12107
    · rw [decide_eq_true d, if_pos rfl]
      by_cases e : 0 ≤ y ∧ y < 12107
      · rw [decide_eq_true e, if_pos rfl]
        by_cases f : R y * R y = R x * R x * R x + R x
        · rw [if_pos ⟨d, e, f⟩, f]; simp
        · rw [if_neg (fun h => f h.2.2), beq_false_of_ne (fun h => f (I_inj h))]; rfl
      · rw [decide_eq_false e, if_neg (by decide), if_neg (fun h => e h.2.1)]; rfl
    · rw [decide_eq_false d, if_neg (by decide), if_neg (fun h => d h.1)]; rfl

theorem impl_slope_eq (k : Nat) (hk : 20 ≤ k) (a a' b b' : F) (ha : On a a') (hb : On b b') :
    impl_slopeOf.f k (I a) (I a') false (I b) (I b') false = some (if Up a a' b b' then (0, false) else (I (slope a a' b b'), true)) := by
  obtain ⟨k, rfl⟩ : ∃ m, k = m + 1 := ⟨k - 1, by omega⟩
  unfold impl_slopeOf.f
  by_cases c : a = b
  · subst c
    rw [if_pos rfl]
    have e0 : impl_slopeOf.j0 (k + 1) true (I a) (I a') false = some (0, false) := by simp only [impl_slopeOf.j0, if_true]
    by_cases d : a' = b'
    · subst d
      rw [if_pos rfl]
      by_cases e : a' = 0
      · subst e
        rw [show (I 0 == 0) = true from rfl, e0, if_pos ⟨rfl, by decide⟩]
      · have u : ¬ Up a a' a a' := fun h => e (dbl_zero _ h.2)
        rw [if_neg u, beq_false_of_ne (fun h => e ((I_eq_zero a').mp h))]
        simp only [impl_slopeOf.j0, impl_FpMul_eq, impl_FpAdd_eq, impl_FpInv_eq k _ (by omega), Option.bind_some, R_I, R_three, R_two, R_one, slope, if_true]
        rw [if_neg (by decide)]
    · rw [if_neg (fun h => d (I_inj h)), e0]
      rcases same_x ha hb with e | e
      · exact absurd e d
      · rw [if_pos ⟨rfl, e⟩]
  · have u : ¬ Up a a' b b' := fun h => c h.1
    rw [if_neg (fun h => c (I_inj h)), if_neg u]
    simp only [impl_FpSub_eq, impl_FpMul_eq, impl_FpInv_eq (k + 1) _ (by omega), Option.bind_some, R_I, slope, if_neg c]
theorem spec_slope_eq (k : Nat) (hk : 20 ≤ k) (a a' b b' : F) (ha : On a a') (hb : On b b') :
    spec_l07Slope.f k (I a) (I a') false (I b) (I b') false = some (if Up a a' b b' then (0, false) else (I (slope a a' b b'), true)) := by
  unfold spec_l07Slope.f
  by_cases c : a = b
  · subst c
    rw [if_pos rfl, spec_FpAdd_eq, Option.bind_some, R_I, R_I]
    by_cases e : a' + b' = 0
    · rw [e, I_zero, if_pos rfl, if_pos ⟨rfl, e⟩]
    · rw [if_neg (fun h => e ((I_eq_zero _).mp h)), if_neg (fun h => e h.2)]
      simp only [spec_FpMul_eq, spec_FpAdd_eq, spec_FpInv_eq k _ (show 15 ≤ k by omega), Option.bind_some, R_I, R_three, R_two, R_one]
      rw [slope, if_pos rfl]
  · have u : ¬ Up a a' b b' := fun h => c h.1
    rw [if_neg (fun h => c (I_inj h)), if_neg u]
    simp only [spec_FpSub_eq, spec_FpMul_eq, spec_FpInv_eq k _ (by omega), Option.bind_some, R_I, slope, if_neg c]

theorem impl_add_eq (k : Nat) (hk : 20 ≤ k) (A B : Pt) (hA : Ok A) (hB : Ok B) :
    impl_add.f k (tr A).1 (tr A).2.1 (tr A).2.2 (tr B).1 (tr B).2.1 (tr B).2.2 = some (tr (add A B)) := by
  unfold impl_add.f
  cases A with
  | O => rw [zero_add, if_pos (show (tr O).2.2 = true from rfl)]
  | P a a' =>
    rw [if_neg (by simp [tr])]
    cases B with
    | O => rw [add_zero, if_pos (show (tr O).2.2 = true from rfl)]
    | P b b' =>
      rw [if_neg (by simp [tr])]
      simp only [tr, impl_slope_eq k hk a a' b b' hA hB, Option.bind_some]
      by_cases u : Up a a' b b'
      · rw [add_up u]
        simp only [if_pos u, Option.bind_some, Bool.false_eq_true, if_false]
      · rw [add, if_neg u]
        simp only [if_neg u, if_true, impl_FpSub_eq, impl_FpMul_eq, Option.bind_some, R_I]

theorem spec_add_eq (k : Nat) (hk : 20 ≤ k) (A B : Pt) (hA : Ok A) (hB : Ok B) :
    spec_l07Add.f k (tr A).1 (tr A).2.1 (tr A).2.2 (tr B).1 (tr B).2.1 (tr B).2.2 = some (tr (add A B)) := by
  unfold spec_l07Add.f
  cases A with
  | O => rw [zero_add, if_pos (show (tr O).2.2 = true from rfl)]
  | P a a' =>
    rw [if_neg (by simp [tr])]
    cases B with
    | O => rw [add_zero, if_pos (show (tr O).2.2 = true from rfl)]
    | P b b' =>
      rw [if_neg (by simp [tr])]
      simp only [tr, spec_slope_eq k hk a a' b b' hA hB, Option.bind_some]
      by_cases u : Up a a' b b'
      · rw [add_up u]
        simp only [if_pos u, spec_l07Zero.f, Option.bind_some, Bool.false_eq_true, if_false]
      · rw [add, if_neg u]
        simp only [if_neg u, if_true, spec_FpSub_eq, spec_FpMul_eq, Option.bind_some, R_I]

end Go.Proofs.Ytmbjefdkjdemhaa.Link
end

section
/- What is proved here: what PointAdd answers, of the program and of the reference alike. No conditions. -/
set_option linter.unusedVariables false
set_option linter.unusedSimpArgs false
namespace Go.Proofs.Ytmbjefdkjdemhaa.Link
open Go.RowKit Go.Proofs.Ytmbjefdkjdemhaa.Pf Go.Proofs.YtmbjefdkjdemhaaW.PrintWords Go.Proofs.Ytmbjefdkjdemhaa.Crv
open Go.Proofs.Ytmbjefdkjdemhaa.Crv.Pt
set_option maxRecDepth 4000


def addO : Option Pt → Option Pt → Pt
  | some A, some B => add A B
  | _, _ => O
theorem Ok_addO (x y : Int) (z : Bool) (u v : Int) (w : Bool) : Ok (addO (dec x y z) (dec u v w)) := by
  cases h : dec x y z with
  | none => trivial
  | some A =>
    cases g : dec u v w with
    | none => trivial
    | some B => exact Ok_add (dec_ok h).1 (dec_ok g).1

theorem impl_PointAdd_eq (k : Nat) (hk : 22 ≤ k) (x y : Int) (z : Bool) (u v : Int) (w : Bool) : impl_PointAdd.f k x y z u v w = some (tr (addO (dec x y z) (dec u v w))) := by
  unfold impl_PointAdd.f
  simp only [impl_PointOk_eq, Option.bind_some]
  cases h : dec x y z with
  | none => rfl
  | some A =>
    rw [Option.isSome_some, if_pos rfl]
    cases g : dec u v w with
    | none => rfl
    | some B =>
      obtain ⟨hA, rfl, rfl, rfl⟩ := dec_ok h
      obtain ⟨hB, rfl, rfl, rfl⟩ := dec_ok g
      rw [Option.isSome_some, if_pos rfl, impl_add_eq k (by omega) A B hA hB]
      rfl

theorem spec_PointAdd_eq (k : Nat) (hk : 22 ≤ k) (x y : Int) (z : Bool) (u v : Int) (w : Bool) : spec_PointAdd.f k x y z u v w = some (tr (addO (dec x y z) (dec u v w))) := by
  obtain ⟨k, rfl⟩ : ∃ m, k = m + 1 := ⟨k - 1, by omega⟩
  unfold spec_PointAdd.f
  simp only [spec_PointOk_eq, Option.bind_some]
  cases h : dec x y z with
  | none => rfl
  | some A =>
    rw [Option.isSome_some, if_pos rfl]
    cases g : dec u v w with
    | none => rfl
    | some B =>
      obtain ⟨hA, rfl, rfl, rfl⟩ := dec_ok h
      obtain ⟨hB, rfl, rfl, rfl⟩ := dec_ok g
      simp only [spec_PointAdd.j0, Option.isSome_some, Bool.not_true, Bool.false_eq_true, if_false]
      rw [spec_add_eq k (by omega) A B hA hB]
      rfl

end Go.Proofs.Ytmbjefdkjdemhaa.Link
end

section
/- What is proved here: what the laws' own helpers over lists of points answer (a copy is the list, equal lists are equal). No conditions but that a list fits into memory. -/
set_option linter.unusedVariables false
set_option linter.unusedSimpArgs false
namespace Go.Proofs.Ytmbjefdkjdemhaa.Pts
open Go.RowKit Go.Proofs.Ytmbjefdkjdemhaa.Pf Go.Proofs.YtmbjefdkjdemhaaW.PrintWords Go.Proofs.Ytmbjefdkjdemhaa.Link
theorem eqPoint_same (x y : Int) (z : Bool) : laws_eqPoint.f x y z x y z = some true := by simp [laws_eqPoint.f]
def conv (p : S37) : S25 := ⟨p.f0, p.f1, p.f2⟩
theorem rdA (xs : List S37) (n : Nat) (h : n < xs.length) : rd_T37 xs (n : Int) = xs[n] := by
  unfold rd_T37
  rw [Int.toNat_natCast, List.getD_eq_getElem?_getD, List.getElem?_eq_getElem h, Option.getD_some]
theorem rdB (xs : List S25) (n : Nat) (h : n < xs.length) : rd_T25 xs (n : Int) = xs[n] := by
  unfold rd_T25
  rw [Int.toNat_natCast, List.getD_eq_getElem?_getD, List.getElem?_eq_getElem h, Option.getD_some]
theorem toPointS_l0 (xs : List S37) (hl : xs.length ≤ 1048576) : ∀ (d i k : Nat), i + d = xs.length → d < k →
    laws_toPointS.l0 k xs ((xs.take i).map conv ++ List.replicate d z25) (i : Int) = some (xs.map conv)
  | 0, i, k, hi, hk => by
    obtain ⟨k, rfl⟩ : ∃ m, k = m + 1 := ⟨k - 1, by omega⟩
    simp only [laws_toPointS.l0]
    rw [if_neg (by omega), List.take_of_length_le (by omega)]; simp
  | d + 1, i, k, hi, hk => by
    obtain ⟨k, rfl⟩ : ∃ m, k = m + 1 := ⟨k - 1, by omega⟩
    have h1 : i < xs.length := by omega
    simp only [laws_toPointS.l0, laws_toPoint.f, Option.bind_some]
    rw [if_pos (by omega), if_pos (by omega), if_pos (by simp; omega), Int.toNat_natCast, wrap_in (by omega) (by omega), rdA xs i h1]
    have hs : ((xs.take i).map conv ++ List.replicate (d + 1) z25).set i (⟨xs[i].f0, xs[i].f1, xs[i].f2⟩ : S25) = (xs.take (i + 1)).map conv ++ List.replicate d z25 := by
      rw [List.set_append_right _ _ (by simp; omega)]
      rw [List.take_succ_eq_append_getElem h1, List.length_map, List.length_take, Nat.min_eq_left (by omega), Nat.sub_self, List.replicate_succ, List.set_cons_zero, List.map_append, List.append_assoc]
      rfl
    rw [hs, show (i : Int) + 1 = ((i + 1 : Nat) : Int) by omega]
    exact toPointS_l0 xs hl d (i + 1) k (by omega) (by omega)
theorem toPointS_f (xs : List S37) (hl : xs.length ≤ 1048576) (k : Nat) (hk : xs.length < k) : laws_toPointS.f k xs = some (xs.map conv) := by
  unfold laws_toPointS.f
  rw [if_pos (by omega), if_pos (by omega), Int.toNat_natCast]
  have h := toPointS_l0 xs hl xs.length 0 k (by omega) hk
  simpa using h
theorem eqPointS_l0 (xs : List S25) (hl : xs.length ≤ 1048576) : ∀ (d i k : Nat), i + d = xs.length → d < k → laws_eqPointS.l0 k xs xs (i : Int) = some true
  | 0, i, k, hi, hk => by
    obtain ⟨k, rfl⟩ : ∃ m, k = m + 1 := ⟨k - 1, by omega⟩
    simp only [laws_eqPointS.l0]
    rw [if_neg (by omega)]
  | d + 1, i, k, hi, hk => by
    obtain ⟨k, rfl⟩ : ∃ m, k = m + 1 := ⟨k - 1, by omega⟩
    simp only [laws_eqPointS.l0, eqPoint_same, Option.bind_some]
    rw [if_pos (by omega), if_pos (by omega), if_pos (by omega), if_pos trivial, wrap_in (by omega) (by omega), show (i : Int) + 1 = ((i + 1 : Nat) : Int) by omega]
    exact eqPointS_l0 xs hl d (i + 1) k (by omega) (by omega)
theorem eqPointS_same (xs : List S25) (hl : xs.length ≤ 1048576) (k : Nat) (hk : xs.length < k) : laws_eqPointS.f k xs xs = some true := by
  unfold laws_eqPointS.f
  rw [if_pos rfl]
  exact eqPointS_l0 xs hl xs.length 0 k (by omega) hk
theorem sz_ge (n : Nat) (m : Int) (h0 : 0 ≤ m) (h1 : m ≤ 1048576) (hn : (n : Int) ≤ 9223372036854775807) (h : ¬ wrap64 (m - (n : Int)) < 0) : (n : Int) ≤ m := by
  rw [wrap_in (by omega) (by omega)] at h; omega
theorem szPointS_f (xs : List S37) (m : Int) (h0 : 0 ≤ m) (h1 : m ≤ 1048576) (hn : xs.length ≤ 9223372036854775807) :
    laws_szPointS.f xs m = some (-1) ∨ ((xs.length : Int) ≤ m ∧ laws_szPointS.f xs m = some (m - (xs.length : Int))) := by
  unfold laws_szPointS.f
  by_cases h : wrap64 (m - (xs.length : Int)) < 0
  · left; rw [if_pos h]
  · right
    have := sz_ge xs.length m h0 h1 (by omega) h
    rw [if_neg h, wrap_in (by omega) (by omega)]
    exact ⟨this, rfl⟩
end Go.Proofs.Ytmbjefdkjdemhaa.Pts
end

section
/- What is proved here: the program's SumPoints and the reference's answer the same for every list, and the list stays as it was. No conditions. -/
set_option linter.unusedVariables false
set_option linter.unusedSimpArgs false
namespace Go.Proofs.Ytmbjefdkjdemhaa.Pure
open Go.RowKit Go.Proofs.Ytmbjefdkjdemhaa.Pf Go.Proofs.YtmbjefdkjdemhaaW.PrintWords Go.Proofs.Ytmbjefdkjdemhaa.Crv Go.Proofs.Ytmbjefdkjdemhaa.Link
set_option maxRecDepth 4000

open Go.Proofs.Ytmbjefdkjdemhaa.Pts
def sumL : List S25 → Int × Int × Bool → Int × Int × Bool
  | [], a => a
  | p :: ps, a => sumL ps (tr (addO (dec a.1 a.2.1 a.2.2) (dec p.f0 p.f1 p.f2)))
theorem impl_Sum_l0 (xs : List S25) (hl : xs.length ≤ 1048576) : ∀ (d i k : Nat) (a : Int × Int × Bool), i + d = xs.length → d + 30 ≤ k →
    impl_SumPoints.l0 k xs (xs.length : Int) (i : Int) a.1 a.2.1 a.2.2 = some (sumL (xs.drop i) a)
  | 0, i, k, a, hi, hk => by
    obtain ⟨k, rfl⟩ : ∃ m, k = m + 1 := ⟨k - 1, by omega⟩
    simp only [impl_SumPoints.l0]
    rw [if_neg (by omega), List.drop_of_length_le (by omega)]; rfl
  | d + 1, i, k, a, hi, hk => by
    obtain ⟨k, rfl⟩ : ∃ m, k = m + 1 := ⟨k - 1, by omega⟩
    have h1 : i < xs.length := by omega
    simp only [impl_SumPoints.l0, impl_PointAdd_eq k (by omega), Option.bind_some]
    rw [if_pos (by omega), if_pos (by omega), if_pos (by omega), wrap_in (by omega) (by omega), rdB xs i h1, show (i : Int) + 1 = ((i + 1 : Nat) : Int) by omega, impl_Sum_l0 xs hl d (i + 1) k _ (by omega) (by omega), List.drop_eq_getElem_cons h1, sumL]
theorem spec_Sum_l0 (xs : List S25) (hl : xs.length ≤ 1048576) : ∀ (d i k : Nat) (a : Int × Int × Bool), i + d = xs.length → d + 30 ≤ k →
    spec_SumPoints.l0 k xs (i : Int) a.1 a.2.1 a.2.2 = some (sumL (xs.drop i) a)
  | 0, i, k, a, hi, hk => by
    obtain ⟨k, rfl⟩ : ∃ m, k = m + 1 := ⟨k - 1, by omega⟩
    simp only [spec_SumPoints.l0]
    rw [if_neg (by omega), List.drop_of_length_le (by omega)]; rfl
  | d + 1, i, k, a, hi, hk => by
    obtain ⟨k, rfl⟩ : ∃ m, k = m + 1 := ⟨k - 1, by omega⟩
    have h1 : i < xs.length := by omega
    simp only [spec_SumPoints.l0, spec_PointAdd_eq k (by omega), Option.bind_some]
    rw [if_pos (by omega), if_pos (by omega), wrap_in (by omega) (by omega), rdB xs i h1, show (i : Int) + 1 = ((i + 1 : Nat) : Int) by omega, spec_Sum_l0 xs hl d (i + 1) k _ (by omega) (by omega), List.drop_eq_getElem_cons h1, sumL]
theorem FnExactSumPoints : laws_FnExactSumPoints.Pure := by
  rintro xs ⟨hl, _⟩
  rcases szPointS_f xs 1048576 (by decide) (by decide) hl with h | ⟨h1, h⟩
  · exact ⟨0, by simp only [laws_FnExactSumPoints.f, h, Option.bind_some]; rfl⟩
  have h2 : (xs.map conv).length ≤ 1048576 := by rw [List.length_map]; omega
  refine ⟨xs.length + 64, ?_⟩
  have t := toPointS_f xs (by omega) (xs.length + 64) (by omega)
  have e := eqPointS_same (xs.map conv) h2 (xs.length + 64) (by rw [List.length_map]; omega)
  have a := impl_Sum_l0 (xs.map conv) h2 (xs.map conv).length 0 (xs.length + 64) (0, 0, true) (by omega) (by rw [List.length_map]; omega)
  have b := spec_Sum_l0 (xs.map conv) h2 (xs.map conv).length 0 (xs.length + 64) (0, 0, true) (by omega) (by rw [List.length_map]; omega)
  have a2 : impl_SumPoints.f (xs.length + 64) (xs.map conv) = some (sumL (xs.map conv) (0, 0, true)) := a
  have b2 : spec_SumPoints.f (xs.length + 64) (xs.map conv) = some (sumL (xs.map conv) (0, 0, true)) := b
  simp only [laws_FnExactSumPoints.f, h, t, Option.bind_some, a2, b2, eqPoint_same, e, if_true]
  rw [if_neg (by omega)]
end Go.Proofs.Ytmbjefdkjdemhaa.Pure
end

section
/- What is proved here: a value of a Go type that reads as data opens into the print's own kinds (Kd), for whole numbers, bools, strings, slices and structs. No conditions. -/
set_option linter.unusedVariables false
set_option linter.unusedSimpArgs false
namespace Go.Proofs.Ytmbjefdkjdemhaa.Open
open Go.RowKit Go.Proofs.YtmbjefdkjdemhaaW.PrintWords Go.ChangeShapes Go.WideShapes

def Opens (P : Program) (t : TypeId) {α : Type} (d : Kd α) (g : α → Prop) : Prop :=
  ∀ {H : Type} (enc : TypeId × Value → H) (w : World) (base : Nat) (spare : Nat → Bool) (held : Bool) (fuel : Nat) (cs : List Value) (x : DataW H × List MemPlace),
    DataW.trod enc P w base spare held fuel t cs = some x → ∃ a, d.K w a cs ∧ g a

theorem list_of {α : Type} {p : Nat → α → Prop} : ∀ n, (∀ i, i < n → ∃ y, p i y) → ∃ ys : List α, ys.length = n ∧ ∀ i y, ys[i]? = some y → p i y
  | 0, _ => ⟨[], rfl, fun i y h => by simp at h⟩
  | n + 1, h => by
    obtain ⟨ys, hl, hy⟩ := list_of n (fun i hi => h i (by omega))
    obtain ⟨y, hy'⟩ := h n (by omega)
    refine ⟨ys ++ [y], by simp [hl], fun i z hz => ?_⟩
    rcases Nat.lt_or_ge i n with hi | hi
    · rw [List.getElem?_append_left (by omega)] at hz
      exact hy i z hz
    · have h1 := (List.getElem?_eq_some_iff.1 hz).1
      rw [List.length_append, List.length_singleton] at h1
      have h2 : i = n := by omega
      subst h2
      rw [List.getElem?_append_right (by omega), hl, Nat.sub_self] at hz
      simp at hz
      subst hz
      exact hy'

section
variable {P : Program} {t : TypeId}
theorem opens_int {k : IntKind} (h : P.underlying t = some (.int k)) : Opens P t (Kd.int k) (fun n => (Lit.int k n).wf = true) := by
  intro H enc w base spare held fuel cs x hx
  obtain ⟨n, rfl, _, hw⟩ := DataW.trod_int h hx
  exact ⟨n, rfl, hw⟩
theorem opens_bool (h : P.underlying t = some .bool) : Opens P t Kd.bool (fun _ => True) := by
  intro H enc w base spare held fuel cs x hx
  obtain ⟨b, hb⟩ : ∃ b, cs = [.bool b] := by
    cases fuel with
    | zero => simp [DataW.trod] at hx
    | succ n =>
      unfold DataW.trod at hx
      rw [h] at hx
      split at hx <;> simp_all
  exact ⟨b, hb, trivial⟩
theorem opens_string (h : P.underlying t = some .string) : Opens P t Kd.string (fun s => s.size ≤ maxLen) := by
  intro H enc w base spare held fuel cs x hx
  obtain ⟨n, rfl, _, hw⟩ := DataW.trod_string h hx
  exact ⟨n, rfl, hw⟩
theorem opens_slice {e : TypeId} {α : Type} {d : Kd α} {g : α → Prop} (ht : P.underlying t = some (.slice e)) (hc : P.cellsOf e = d.sz) (he : Opens P e d g) :
    Opens P t (Kd.slice e d) (fun xs => xs.length ≤ 9223372036854775807 ∧ ∀ x ∈ xs, g x) := by
  intro H enc w base spare held fuel cs x h
  rcases Go.Deep.open_slice ht h with ⟨rfl, _⟩ | ⟨a, len, cap, m, n, D, Pl, rfl, hb, hl, hm, hmm, _, hx⟩
  · exact ⟨[], ⟨none, 0, rfl, Nat.le_refl _, Kd.C_nil d w⟩, by simp, fun x hx => by cases hx⟩
  · have hlm : len ≤ m := by rw [hmm]; split <;> omega
    obtain ⟨ys, hy1, hy2⟩ := list_of (p := fun i y => ∃ c, w.cells? base (a.add (i * P.cellsOf e)) (P.cellsOf e) = some c ∧ d.K w y c ∧ g y) len (fun i hi => by
      obtain ⟨c, h1, h2⟩ := hx i (by omega)
      obtain ⟨y, h3, h4⟩ := he _ _ _ _ _ _ _ _ h2
      exact ⟨y, c, h1, h3, h4⟩)
    unfold maxLen at hm
    refine ⟨ys, ⟨some a, cap, by rw [hy1], by omega, rfl, by omega, fun _ => ⟨a, rfl, fun j p hp => ?_⟩⟩, by omega, fun y hy => ?_⟩
    · obtain ⟨c, h1, h2, h3⟩ := hy2 j p hp
      obtain ⟨_, hlen, hcell⟩ := World.cells?_some h1
      refine ⟨c, by rw [hlen, hc], h2, fun i u hu => ?_⟩
      have hi := (List.getElem?_eq_some_iff.1 hu).1
      have := hcell i (by omega)
      rw [Go.Deep.add_add, hc] at this
      rw [this, hu]
    · obtain ⟨i, hi⟩ := List.mem_iff_getElem?.1 hy
      obtain ⟨c, h1, h2, h3⟩ := hy2 i y hi
      exact h3
theorem opens_iso {α β : Type} {d : Kd α} {g : α → Prop} (f : β → α) (mk : α → β) (hf : ∀ a, f (mk a) = a) (h : Opens P t d g) : Opens P t (Kd.iso d f) (fun x => g (f x)) := by
  intro H enc w base spare held fuel cs x hx
  obtain ⟨a, h1, h2⟩ := h enc w base spare held fuel cs x hx
  exact ⟨mk a, by show d.K w (f (mk a)) cs; rw [hf]; exact h1, by show g (f (mk a)); rw [hf]; exact h2⟩
theorem struct_field {fs : Array Field} {H : Type} {enc : TypeId × Value → H} {w : World} {base : Nat} {spare : Nat → Bool} {held : Bool} {n : Nat} {cs : List Value} {xs : List (DataW H × List MemPlace)} (hl : xs.length = fs.size)
    (hf : ∀ (i : Nat) (f : Field), fs[i]? = some f → DataW.trod enc P w base spare held n f.type ((cs.drop f.offset).take (P.cellsOf f.type)) = xs[i]?) {i : Nat} {f : Field} (hi : fs[i]? = some f) {α : Type} {d : Kd α} {g : α → Prop} (ho : Opens P f.type d g) :
    ∃ a, d.K w a ((cs.drop f.offset).take (P.cellsOf f.type)) ∧ g a := by
  have h1 := hf i f hi
  have h2 : i < xs.length := by rw [hl]; exact (Array.getElem?_eq_some_iff.1 hi).1
  rw [List.getElem?_eq_getElem h2] at h1
  exact ho _ _ _ _ _ _ _ _ h1
theorem opens_struct1 {f0 : Field} {α : Type} {d0 : Kd α} {g0 : α → Prop} (ht : P.underlying t = some (.struct #[f0])) (h0 : Opens P f0.type d0 g0)
    (s0 : P.cellsOf f0.type = d0.sz) (o0 : f0.offset = 0) (st : P.cellsOf t = d0.sz) : Opens P t d0 g0 := by
  intro H enc w base spare held fuel cs x hx
  obtain ⟨xs, n, _, _, hlen, hl, hf⟩ := DataW.trod_struct ht hx
  obtain ⟨a, ha, hg⟩ := struct_field hl hf (i := 0) (f := f0) rfl h0
  rw [o0, s0, List.drop_zero, List.take_of_length_le (by omega)] at ha
  exact ⟨a, ha, hg⟩
theorem opens_struct2 {f0 f1 : Field} {α β : Type} {d0 : Kd α} {d1 : Kd β} {g0 : α → Prop} {g1 : β → Prop} (ht : P.underlying t = some (.struct #[f0, f1])) (h0 : Opens P f0.type d0 g0) (h1 : Opens P f1.type d1 g1)
    (s0 : P.cellsOf f0.type = d0.sz) (s1 : P.cellsOf f1.type = d1.sz) (o0 : f0.offset = 0) (o1 : f1.offset = d0.sz) (st : P.cellsOf t = d0.sz + d1.sz) : Opens P t (Kd.pair d0 d1) (fun x => g0 x.1 ∧ g1 x.2) := by
  intro H enc w base spare held fuel cs x hx
  obtain ⟨xs, n, _, _, hlen, hl, hf⟩ := DataW.trod_struct ht hx
  obtain ⟨a, ha, ga⟩ := struct_field hl hf (i := 0) (f := f0) rfl h0
  obtain ⟨b, hb, gb⟩ := struct_field hl hf (i := 1) (f := f1) rfl h1
  rw [o0, s0, List.drop_zero] at ha
  rw [o1, s1, List.take_of_length_le (by rw [List.length_drop]; omega)] at hb
  exact ⟨(a, b), ⟨_, _, (List.take_append_drop d0.sz cs).symm, ha, hb⟩, ga, gb⟩
theorem opens_struct3 {f0 f1 f2 : Field} {α β γ : Type} {d0 : Kd α} {d1 : Kd β} {d2 : Kd γ} {g0 : α → Prop} {g1 : β → Prop} {g2 : γ → Prop} (ht : P.underlying t = some (.struct #[f0, f1, f2])) (h0 : Opens P f0.type d0 g0) (h1 : Opens P f1.type d1 g1) (h2 : Opens P f2.type d2 g2)
    (s0 : P.cellsOf f0.type = d0.sz) (s1 : P.cellsOf f1.type = d1.sz) (s2 : P.cellsOf f2.type = d2.sz) (o0 : f0.offset = 0) (o1 : f1.offset = d0.sz) (o2 : f2.offset = d0.sz + d1.sz) (st : P.cellsOf t = d0.sz + d1.sz + d2.sz) :
    Opens P t (Kd.pair d0 (Kd.pair d1 d2)) (fun x => g0 x.1 ∧ g1 x.2.1 ∧ g2 x.2.2) := by
  intro H enc w base spare held fuel cs x hx
  obtain ⟨xs, n, _, _, hlen, hl, hf⟩ := DataW.trod_struct ht hx
  obtain ⟨a, ha, ga⟩ := struct_field hl hf (i := 0) (f := f0) rfl h0
  obtain ⟨b, hb, gb⟩ := struct_field hl hf (i := 1) (f := f1) rfl h1
  obtain ⟨c, hc, gc⟩ := struct_field hl hf (i := 2) (f := f2) rfl h2
  rw [o0, s0, List.drop_zero] at ha
  rw [o1, s1] at hb
  rw [o2, s2, List.take_of_length_le (by rw [List.length_drop]; omega)] at hc
  refine ⟨(a, b, c), ⟨_, _, (List.take_append_drop d0.sz cs).symm, ha, _, _, (List.take_append_drop d1.sz _).symm, hb, ?_⟩, ga, gb, gc⟩
  rw [List.drop_drop]
  exact hc
theorem opens_struct4 {f0 f1 f2 f3 : Field} {α β γ δ : Type} {d0 : Kd α} {d1 : Kd β} {d2 : Kd γ} {d3 : Kd δ} {g0 : α → Prop} {g1 : β → Prop} {g2 : γ → Prop} {g3 : δ → Prop} (ht : P.underlying t = some (.struct #[f0, f1, f2, f3]))
    (h0 : Opens P f0.type d0 g0) (h1 : Opens P f1.type d1 g1) (h2 : Opens P f2.type d2 g2) (h3 : Opens P f3.type d3 g3)
    (s0 : P.cellsOf f0.type = d0.sz) (s1 : P.cellsOf f1.type = d1.sz) (s2 : P.cellsOf f2.type = d2.sz) (s3 : P.cellsOf f3.type = d3.sz) (o0 : f0.offset = 0) (o1 : f1.offset = d0.sz) (o2 : f2.offset = d0.sz + d1.sz) (o3 : f3.offset = d0.sz + d1.sz + d2.sz)
    (st : P.cellsOf t = d0.sz + d1.sz + d2.sz + d3.sz) :
    Opens P t (Kd.pair d0 (Kd.pair d1 (Kd.pair d2 d3))) (fun x => g0 x.1 ∧ g1 x.2.1 ∧ g2 x.2.2.1 ∧ g3 x.2.2.2) := by
  intro H enc w base spare held fuel cs x hx
  obtain ⟨xs, n, _, _, hlen, hl, hf⟩ := DataW.trod_struct ht hx
  obtain ⟨a, ha, ga⟩ := struct_field hl hf (i := 0) (f := f0) rfl h0
  obtain ⟨b, hb, gb⟩ := struct_field hl hf (i := 1) (f := f1) rfl h1
  obtain ⟨c, hc, gc⟩ := struct_field hl hf (i := 2) (f := f2) rfl h2
  obtain ⟨d, hd, gd⟩ := struct_field hl hf (i := 3) (f := f3) rfl h3
  rw [o0, s0, List.drop_zero] at ha
  rw [o1, s1] at hb
  rw [o2, s2] at hc
  rw [o3, s3, List.take_of_length_le (by rw [List.length_drop]; omega)] at hd
  refine ⟨(a, b, c, d), ⟨_, _, (List.take_append_drop d0.sz cs).symm, ha, _, _, (List.take_append_drop d1.sz _).symm, hb, _, _, (List.take_append_drop d2.sz _).symm, ?_, ?_⟩, ga, gb, gc, gd⟩
  · rw [List.drop_drop]
    exact hc
  · rw [List.drop_drop, List.drop_drop, ← Nat.add_assoc]
    exact hd
end
end Go.Proofs.Ytmbjefdkjdemhaa.Open
end

section
namespace Go.Proofs.Ytmbjefdkjdemhaa.fnExactSumPoints
open Go.ChangeShapes Go.WideShapes Go.ChangeAt Go.RowKit Go.Proofs.YtmbjefdkjdemhaaW.PrintWords Go.Proofs.Ytmbjefdkjdemhaa.Open Go.Proofs.Ytmbjefdkjdemhaa.Pf
open Go.ChangeMaps (open_string shut_string)
set_option linter.unusedVariables false
set_option linter.unusedSimpArgs false
theorem own : ownKnob Try.prog.godebug = none := by kernel_rfl
theorem laidOut : laidOutB Try.prog = true := by kernel_rfl
set_option maxRecDepth 100000 in
theorem lifted (os : Os) (started : os.Started) (H : Type) (enc : TypeId × Value → H) :
    ReturnsInHanded {} Try.checked os 8 .any (Rows.fnExactSumPointsSpec.pre6 enc Try.prog Try.f8 Rows.fnExactSumPointsRow.domain false) (Rows.fnExactSumPointsSpec.post enc Try.prog Try.f8 false true false false) := by
  refine returnsInHanded_of_change_sized (C := Try.checked) own started (by kernel_rfl) Try.func8
    (ChangeSpec.witness6 (enc := enc) (C := Try.checked) false ⟨#[], #[.slice none 0 0], []⟩ 8 (by kernel_rfl) (by kernel_rfl) (by kernel_rfl) (by kernel_rfl)) ?_
  intro W base args ds gs before hval0 hW hcnd hsz0 _
  have hsz : (DataW.weightsEach Try.prog (Try.f8.params.toList ++ Rows.fnExactSumPointsSpec.plain.varTypes Try.prog) (ds ++ gs)).all (· ≤ reachBytes) = true := hsz0
  have hval : ∀ (j : Nat) t v, Try.f8.params[j]? = some t → args[j]? = some v → Value.okWide Try.prog W .any base t v := hval0
  have hW' := hW
  obtain ⟨p, q, hA0, hV, rfl, hfz, hnd⟩ := hW
  have hA : DataW.TrodAll enc Try.prog W 0 (fun _ => true) true Try.f8.params.toList args.toList ds p := hA0
  rw [Try.params8] at hA hval hsz
  obtain ⟨v0, vs0, d0, ds0, p0, q0, hargs, rfl, rfl, h0, r0⟩ := trodAll_cons hA
  obtain ⟨rfl, rfl, rfl⟩ := trodAll_nil r0
  obtain rfl : args = #[v0] := by cases args; simp_all
  obtain ⟨rfl, rfl⟩ := trodVars_none hV
  obtain ⟨a0, len0, cap0, rfl⟩ := okWide_slice Try.underlying48 (hval 0 48 v0 rfl rfl)
  have k0 := h0
  have lt0 : ∀ x ∈ p0, x.block < W.heap.size := by obtain ⟨m, hm⟩ := k0; exact DataW.trod_lt m _ _ _ hm
  obtain ⟨l0, ⟨A0, c0, e0, hc0, hr0⟩, g0⟩ := (show ∃ a, (Kd.slice 37 k37).K W a [.slice a0 len0 cap0] ∧ _ from h0.elim fun fuel hf => (opens_slice Try.underlying48 (by kernel_rfl) (opens_iso (fun x : S37 => (x.f0, x.f1, x.f2)) (fun p => ⟨p.1, p.2.1, p.2.2⟩) (fun _ => rfl) (opens_struct3 Try.underlying37 (opens_int Try.underlying3) (opens_int Try.underlying3) (opens_bool Try.underlying4) (by kernel_rfl) (by kernel_rfl) (by kernel_rfl) (by kernel_rfl) (by kernel_rfl) (by kernel_rfl) (by kernel_rfl)))) enc W 0 (fun _ => true) true fuel [.slice a0 len0 cap0] _ hf)
  obtain ⟨rfl, rfl, rfl⟩ : a0 = A0 ∧ len0 = l0.length ∧ cap0 = c0 := by simpa using e0
  clear hA0 hval0 hsz0 hsz
  obtain ⟨k, h⟩ := Pure.FnExactSumPoints l0 g0
  refine (laws_FnExactSumPoints.calls k _ _ l0 true W hr0 hc0 ⟨rfl⟩ h).mono fun e W' ⟨he, bel0⟩ => ?_
  have bel : Below W.heap.size W W' := bel0
  subst he
  exact ⟨_, rfl, _, _, _, [], _, [], hW', trodAll_mk1 (shut_bool Try.underlying4 _), (trodAll_cons_mk (Below.trod laidOut (by kernel_rfl) (of_decide_eq_true (by kernel_rfl)) k0 bel lt0) trodAll_mk0), rfl, bel.frame _, fun h => by cases h⟩
theorem over : Rows.fnExactSumPointsRow.holds Try.pinned (OpenSpec.ofChange Rows.fnExactSumPointsSpec) :=
  OpenClaim.holds_of_wide 8 Try.f8 rfl rfl rfl rfl rfl rfl rfl ⟨rfl, rfl, rfl, rfl, rfl⟩ rfl rfl rfl rfl rfl (by kernel_rfl) Try.func8 (by kernel_rfl)
    (of_decide_eq_true (by kernel_rfl)) (by unfold Func.isWrapper; first | (rw [if_pos (by decide +kernel)]; kernel_rfl) | (rw [if_neg (by decide +kernel)]; exact ⟨rfl, rfl⟩))
    (fun os started H enc _ => lifted os started H enc)
theorem proved : Rows.FnExactSumPointsSaid := over
#print axioms proved
end Go.Proofs.Ytmbjefdkjdemhaa.fnExactSumPoints
namespace Go.Proofs.Ytmbjefdkjdemhaa
/-- The row, under a short name, for the claim. -/
theorem fnExactSumPoints_holds : Rows.FnExactSumPointsSaid := fnExactSumPoints.proved
end Go.Proofs.Ytmbjefdkjdemhaa
end
