/- What is proved here: part 4 of 4 of the proof of the given statement FnPolys: the contracts of the Go functions that it reaches, the plain facts on lists and numbers, and (in the last part) the statement itself. No conditions beyond the given ones. -/
import Derived.Test.YtcnejiflpioaiaaMFnPolysa
import Derived.Test.YtcnejiflpioaiaaMFnPolysb
import Derived.Test.YtcnejiflpioaiaaMFnPolysc
import Derived.Test.YtcnejiflpioaiaaRows
import Derived.WalkKit
import Derived.ProofKit
import Derived.OpenShut
import Derived.ShutString
import Derived.ChangeOld
import Derived.Below
import Derived.SizedLaws
import Derived.Test.YtcnejiflpioaiaaMFnPolyswSized

section
namespace Go.Proofs.Ytcnejiflpioaiaa.Pf
open Go.RowKit Go.Proofs.YtcnejiflpioaiaaW.PrintWords Go.Proofs.YtcnejiflpioaiaaW.PrintLast Go.Proofs.YtcnejiflpioaiaaW.PrintMore
attribute [local go_sem] max2_int min2_int max_two min_two max_three min_three max_four min_four   -- for this text's walks alone
set_option linter.unusedVariables false
set_option linter.unusedSimpArgs false

/-! ### spec_PolyThrough: function 51 -/
mutual
def spec_PolyThrough.l0 : Nat → List Int → List Int → Int → Option (List Int)
  | 0, _, _, _ => none
  | k + 1, x0, x3, x4 => if x4 < (x0.length : Int) then (spec_PolyThrough.l1 k x0 x3 x4 (([1] : List Int)) 1 0) else (some x3)
def spec_PolyThrough.l1 : Nat → List Int → List Int → Int → List Int → Int → Int → Option (List Int)
  | 0, _, _, _, _, _, _ => none
  | k + 1, x0, x3, x4, x5, x6, x7 => if x7 < (x0.length : Int) then (if x7 = x4 then (spec_PolyThrough.l1 k x0 x3 x4 x5 x6 (wrap64 (x7 + 1))) else ((spec_PolyMul.f k x5 (([wrap64 (-(wrap64 (x7 + 1))), 1] : List Int))).bind fun t954 => ((spec_ScMul.f x6 (wrap64 (x4 - x7))).bind fun t957 => (spec_PolyThrough.l1 k x0 x3 x4 t954 t957 (wrap64 (x7 + 1)))))) else (if 0 ≤ x4 then (if x4 < (x0.length : Int) then ((spec_ScInv.f k x6).bind fun t959 => ((spec_ScMul.f (rd x0 x4) t959).bind fun t960 => ((spec_l14Scale.f k x5 t960).bind fun t961 => ((spec_PolyAdd.f k x3 t961).bind fun t964 => (spec_PolyThrough.l0 k x0 t964 (wrap64 (x4 + 1))))))) else (none)) else (none))
end
def spec_PolyThrough.f (k : Nat) (l0 : List Int) : Option (List Int) := if (l0.length : Int) > 16 then (some (([] : List Int))) else (spec_PolyThrough.l0 k l0 (([] : List Int)) 0)
theorem spec_PolyThrough.mono_l : ∀ k, (∀ y0 y1 y2, LeO (spec_PolyThrough.l0 k y0 y1 y2) (spec_PolyThrough.l0 (k + 1) y0 y1 y2)) ∧ (∀ y0 y1 y2 y3 y4 y5, LeO (spec_PolyThrough.l1 k y0 y1 y2 y3 y4 y5) (spec_PolyThrough.l1 (k + 1) y0 y1 y2 y3 y4 y5))
  | 0 => ⟨fun _ _ _ r h => by simp [spec_PolyThrough.l0] at h, fun _ _ _ _ _ _ r h => by simp [spec_PolyThrough.l1] at h⟩
  | k + 1 => by
    obtain ⟨ih0, ih1⟩ := spec_PolyThrough.mono_l k
    refine ⟨?_, ?_⟩
    · intro y0 y1 y2
      unfold spec_PolyThrough.l0
      repeat' first
      | (with_reducible exact ih0 _ _ _)
      | (with_reducible exact ih1 _ _ _ _ _ _)
      | (with_reducible exact spec_PolyAdd.mono _ _ _)
      | (with_reducible exact spec_PolyMul.mono _ _ _)
      | (with_reducible exact spec_ScInv.mono _ _)
      | (with_reducible exact spec_l14Scale.mono _ _ _)
      | (with_reducible exact LeO.refl _)
      | (with_reducible exact LeO.none _)
      | (with_reducible refine LeO.ite ?_ ?_)
      | (with_reducible refine LeO.bind ?_ (fun _ => ?_))
      | exact ih0 _ _ _
      | exact ih1 _ _ _ _ _ _
      | exact spec_PolyAdd.mono _ _ _
      | exact spec_PolyMul.mono _ _ _
      | exact spec_ScInv.mono _ _
      | exact spec_l14Scale.mono _ _ _
      | exact LeO.none _
      | refine LeO.ite ?_ ?_
      | refine LeO.bind ?_ (fun _ => ?_)
    · intro y0 y1 y2 y3 y4 y5
      unfold spec_PolyThrough.l1
      repeat' first
      | (with_reducible exact ih0 _ _ _)
      | (with_reducible exact ih1 _ _ _ _ _ _)
      | (with_reducible exact spec_PolyAdd.mono _ _ _)
      | (with_reducible exact spec_PolyMul.mono _ _ _)
      | (with_reducible exact spec_ScInv.mono _ _)
      | (with_reducible exact spec_l14Scale.mono _ _ _)
      | (with_reducible exact LeO.refl _)
      | (with_reducible exact LeO.none _)
      | (with_reducible refine LeO.ite ?_ ?_)
      | (with_reducible refine LeO.bind ?_ (fun _ => ?_))
      | exact ih0 _ _ _
      | exact ih1 _ _ _ _ _ _
      | exact spec_PolyAdd.mono _ _ _
      | exact spec_PolyMul.mono _ _ _
      | exact spec_ScInv.mono _ _
      | exact spec_l14Scale.mono _ _ _
      | exact LeO.none _
      | refine LeO.ite ?_ ?_
      | refine LeO.bind ?_ (fun _ => ?_)
theorem spec_PolyThrough.mono : ∀ a0 k, LeO (spec_PolyThrough.f k a0) (spec_PolyThrough.f (k + 1) a0) := by
  intro a0 k
  obtain ⟨ih0, ih1⟩ := spec_PolyThrough.mono_l k
  unfold spec_PolyThrough.f
  repeat' first
      | (with_reducible exact ih0 _ _ _)
      | (with_reducible exact ih1 _ _ _ _ _ _)
      | (with_reducible exact spec_PolyAdd.mono _ _ _)
      | (with_reducible exact spec_PolyMul.mono _ _ _)
      | (with_reducible exact spec_ScInv.mono _ _)
      | (with_reducible exact spec_l14Scale.mono _ _ _)
      | (with_reducible exact LeO.refl _)
      | (with_reducible exact LeO.none _)
      | (with_reducible refine LeO.ite ?_ ?_)
      | (with_reducible refine LeO.bind ?_ (fun _ => ?_))
      | exact ih0 _ _ _
      | exact ih1 _ _ _ _ _ _
      | exact spec_PolyAdd.mono _ _ _
      | exact spec_PolyMul.mono _ _ _
      | exact spec_ScInv.mono _ _
      | exact spec_l14Scale.mono _ _ _
      | exact LeO.none _
      | refine LeO.ite ?_ ?_
      | refine LeO.bind ?_ (fun _ => ?_)
def spec_PolyThrough.T15 : Bool × List (List Nat × List Nat) := (true, [([], []), ([], []), ([], []), ([], []), ([2, 3], [2, 3]), ([4], [4]), ([], []), ([6], [6]), ([5, 7, 7], [5, 7]), ([1, 8, 8], [1, 8]), ([0, 9, 9], [0, 9]), ([10, 10, 0, 1, 2, 3, 4, 5, 6, 7, 8, 9, 10], [0, 10])])
def spec_PolyThrough.B15 : List Nat := [0, 0, 0, 0, 12, 28, 0, 64, 252, 510, 1023, 2047]
theorem spec_PolyThrough.tab15 : rtab .any (opsOf Try.f51 15) = spec_PolyThrough.T15 := by kernel_rfl
theorem spec_PolyThrough.bits15 : waitsOk spec_PolyThrough.T15.2 spec_PolyThrough.B15 = true := by kernel_rfl
set_option maxHeartbeats 8000000 in
set_option maxRecDepth 100000 in
theorem spec_PolyThrough.calls (k : Nat) (A0 : Option Addr) (c0 : Nat) (l0 : List Int) (r : List Int) (w : World) (hr0 : Kd.C (Kd.int .i64) w A0 l0.length l0) (hc0 : l0.length ≤ c0) (h : spec_PolyThrough.f k l0 = some r) :
    Calls Try.prog 51 #[.slice A0 l0.length c0] w fun e w' => ∃ v0_ : Value, e = .returned (v0_) ∧ Kd.R (Kd.int .i64) 3 w' w.heap.size (fun _ => True) v0_ r ∧ Below w.heap.size w w' := by
  have HR0 := Aside0.mk hr0
  have HC0 := Aside0.mk hc0
  clear hr0 hc0
  have HB := Aside0.mk (Below.refl w.heap.size w)
  have H : (if (l0.length : Int) > 16 then (some (([] : List Int))) else (spec_PolyThrough.l0 k l0 (([] : List Int)) 0)) = some r := h
  clear h
  by_cases c2 : (l0.length : Int) > 16
  · rw [if_pos c2] at H
    have c2b0 : decide (16 < (l0.length : Int)) = true := decide_eq_true c2
    have c2b1 : decide (16 < l0.length) = true := decide_eq_true (by omega)
    clear c2
    obtain ⟨y942, hy942⟩ : ∃ y_ : List Int, y_ = (([] : List Int)) := ⟨_, rfl⟩
    replace H : (some y942) = some r := by first | (rw [hy942]; with_reducible exact H) | (have H2_ := (Option.bind_some _ _).symm.trans H; rw [hy942]; with_reducible exact H2_) | (have H2_ := (Option.bind_some _ _).symm.trans H; with_reducible exact H2_) | with_reducible exact H | (rw [hy942]; exact H) | exact H
    have Ny942 := Aside0.mk hy942
    clear hy942
    obtain rfl := Option.some.inj H
    go_enter Try.func51, Try.ntmps51
    go_wp2_with (first | ((with_reducible refine gate_dst (N := 11) rfl ?_); refine Kd.R_lit (Kd.int .i64) _ 3 ?hg (N := 11) ?hd (xs := ([] : List Int)) (inner := []) (ok := fun _ => True) (okp := fun _ => True) ?hr ?hp (fun _ hk => hk) trivial (Below.refl _ _) (Nat.le_refl _) (by simp) ?_; (case hd => rfl); (case hg => rfl); (case hr => first | (go_simp; done) | (go_simp; rfl)); (case hp => exact (Reps.none _ _)); intro v943 w3 ho4 hb hg_ hnew_; clear hg_ hnew_; (first | rw [← Ny942.out] at ho4 | (simp only [Int.reduceToNat] at ho4; rw [← Ny942.out] at ho4)); have n0_ := Aside0.mk (Kd.R_lower ho4 (below_size (by repeat (first | (with_reducible first | exact HB.out | apply below_alloc | apply pw_below_drewN | apply below_drew1) | exact HB.out)))); have n1_ := Aside0.mk (below_step (by repeat (first | (with_reducible first | exact HB.out | apply below_alloc | apply pw_below_drewN | apply below_drew1) | exact HB.out)) hb); clear HB; have HO944 := n0_; have HB := n1_; clear n0_ n1_; clear hb ho4))
    go_ret
    exact ⟨_, by first | rfl | (simp [errW_none, errW_some] <;> rfl) | (simp [*, errW_none, errW_some] <;> rfl), by (with_reducible repeat (first | apply Kd.R_alloc | apply Kd.R_drewN | apply Kd.R_drew)); exact HO944.out, by repeat (first | (with_reducible first | exact HB.out | apply below_alloc | apply pw_below_drewN | apply below_drew1) | exact HB.out)⟩
  · rw [if_neg c2] at H
    have c2b0 : decide (16 < (l0.length : Int)) = false := decide_eq_false c2
    have c2b1 : decide (16 < l0.length) = false := decide_eq_false (by omega)
    clear c2
    obtain ⟨y945, hy945⟩ : ∃ y_ : List Int, y_ = (([] : List Int)) := ⟨_, rfl⟩
    replace H : (spec_PolyThrough.l0 k l0 y945 0) = some r := by first | (rw [hy945]; with_reducible exact H) | (have H2_ := (Option.bind_some _ _).symm.trans H; rw [hy945]; with_reducible exact H2_) | (have H2_ := (Option.bind_some _ _).symm.trans H; with_reducible exact H2_) | with_reducible exact H | (rw [hy945]; exact H) | exact H
    have Ny945 := Aside0.mk hy945
    clear hy945
    have H' := Aside0.mk H
    clear H
    go_enter Try.func51, Try.ntmps51
    go_wp2_with (first | ((with_reducible refine gate_dst (N := 12) rfl ?_); refine Kd.R_lit (Kd.int .i64) _ 3 ?hg (N := 12) ?hd (xs := ([] : List Int)) (inner := []) (ok := fun _ => True) (okp := fun _ => True) ?hr ?hp (fun _ hk => hk) trivial (Below.refl _ _) (Nat.le_refl _) (by simp) ?_; (case hd => rfl); (case hg => rfl); (case hr => first | (go_simp; done) | (go_simp; rfl)); (case hp => exact (Reps.none _ _)); intro v946 w5 ho6 hb hg_ hnew_; clear hg_ hnew_; (first | rw [← Ny945.out] at ho6 | (simp only [Int.reduceToNat] at ho6; rw [← Ny945.out] at ho6)); have n0_ := Aside0.mk (Kd.R_lower ho6 (below_size (by repeat (first | (with_reducible first | exact HB.out | apply below_alloc | apply pw_below_drewN | apply below_drew1) | exact HB.out)))); have n1_ := Aside0.mk (below_step (by repeat (first | (with_reducible first | exact HB.out | apply below_alloc | apply pw_below_drewN | apply below_drew1) | exact HB.out)) hb); clear HB; have HO947 := n0_; have HB := n1_; clear n0_ n1_; clear hb ho6))
    go_loopg [3, 4] k (fun kq v3 v4 w' => ∃ (x3_1 : List Int) (x4_1 : Int), v4 = .int .i64 x4_1 ∧ Aside0 (spec_PolyThrough.l0 kq l0 x3_1 x4_1 = some r) ∧ Aside0 (kq ≤ k) ∧ Aside0 (Kd.R (Kd.int .i64) 3 w' w.heap.size (fun _ => True) v3 x3_1) ∧ Aside0 (Below w.heap.size w w'))
    case atStart => exact ⟨(y945), (0), (by first | rfl | (simp; done) | (simp [*]; done)), H', ⟨Nat.le_refl _⟩, ⟨by (with_reducible repeat (first | apply Kd.R_alloc | apply Kd.R_drewN | apply Kd.R_drew)); exact HO947.out⟩, ⟨by repeat (first | (with_reducible first | exact HB.out | apply below_alloc | apply pw_below_drewN | apply below_drew1) | exact HB.out)⟩⟩
    case round =>
      clear H'
      try clear c2
      try clear c2b0
      try clear c2b1
      try clear p2
      try clear c5
      obtain ⟨x3_1, x4_1, rfl, HA, HK1, HO_3, HB⟩ := hrel
      cases gk with
      | zero => exact absurd HA.out (by simp [spec_PolyThrough.l0])
      | succ k1 =>
        have H := HA.out
        clear HA
        simp only [spec_PolyThrough.l0] at H
        by_cases c7 : x4_1 < (l0.length : Int)
        · rw [if_pos c7] at H
          have c7b0 : decide (x4_1 < (l0.length : Int)) = true := decide_eq_true c7
          clear c7
          obtain ⟨y948, hy948⟩ : ∃ y_ : List Int, y_ = (([1] : List Int)) := ⟨_, rfl⟩
          replace H : (spec_PolyThrough.l1 k1 l0 x3_1 x4_1 y948 1 0) = some r := by first | (rw [hy948]; with_reducible exact H) | (have H2_ := (Option.bind_some _ _).symm.trans H; rw [hy948]; with_reducible exact H2_) | (have H2_ := (Option.bind_some _ _).symm.trans H; with_reducible exact H2_) | with_reducible exact H | (rw [hy948]; exact H) | exact H
          have Ny948 := Aside0.mk hy948
          clear hy948
          have H' := Aside0.mk H
          clear H
          go_wp2_with (first | ((with_reducible refine gate_dst (N := 19) rfl ?_); refine Kd.R_lit (Kd.int .i64) _ 3 ?hg (N := 19) ?hd (xs := ([1] : List Int)) (inner := [.int .i64 1]) (ok := fun _ => True) (okp := fun _ => True) ?hr ?hp (fun _ hk => hk) trivial (Below.refl _ _) (Nat.le_refl _) (by simp) ?_; (case hd => rfl); (case hg => rfl); (case hr => first | (go_simp; done) | (go_simp; rfl)); (case hp => exact (Reps.one (show Kd.M (Kd.int .i64) _ _ _ 1 [.int .i64 1] from rfl) (Reps.none _ _))); intro v949 w8 ho9 hb hg_ hnew_; clear hg_ hnew_; (first | rw [← Ny948.out] at ho9 | (simp only [Int.reduceToNat] at ho9; rw [← Ny948.out] at ho9)); have n0_ := Aside0.mk (Kd.R_elder' (by (with_reducible repeat (first | apply Kd.R_alloc | apply Kd.R_drewN | apply Kd.R_drew)); exact HO_3.out) (Kd.R_base ho9) hb); have n1_ := Aside0.mk (Kd.R_lower (Kd.R_new' ho9 (Kd.R_lt (by (with_reducible repeat (first | apply Kd.R_alloc | apply Kd.R_drewN | apply Kd.R_drew)); exact HO_3.out))) (below_size (by repeat (first | (with_reducible first | exact HB.out | apply below_alloc | apply pw_below_drewN | apply below_drew1) | exact HB.out)))); have n2_ := Aside0.mk (below_step (by repeat (first | (with_reducible first | exact HB.out | apply below_alloc | apply pw_below_drewN | apply below_drew1) | exact HB.out)) hb); clear HO_3; clear HB; have HO_3 := n0_; have HO950 := n1_; have HB := n2_; clear n0_ n1_ n2_; clear hb ho9))
          go_loopg [5, 6, 7] k1 (fun kq v5 v6 v7 w' => ∃ (x5_2 : List Int) (x6_2 : Int) (x7_2 : Int), v6 = .int .i64 x6_2 ∧ v7 = .int .i64 x7_2 ∧ Aside0 (spec_PolyThrough.l1 kq l0 x3_1 x4_1 x5_2 x6_2 x7_2 = some r) ∧ Aside0 (kq ≤ k1) ∧ Aside0 (Kd.R (Kd.int .i64) 3 w' w.heap.size (fun k_ => some k_ ≠ (v5 : Value).ownBlock) u3 x3_1) ∧ Aside0 (Kd.R (Kd.int .i64) 3 w' w.heap.size (fun k_ => some k_ ≠ (u3 : Value).ownBlock) v5 x5_2) ∧ Aside0 (Below w.heap.size w w'))
          case atStart => exact ⟨(y948), (1), (0), (by first | rfl | (simp; done) | (simp [*]; done)), (by first | rfl | (simp; done) | (simp [*]; done)), H', ⟨Nat.le_refl _⟩, ⟨by (with_reducible repeat (first | apply Kd.R_alloc | apply Kd.R_drewN | apply Kd.R_drew)); exact Kd.R_mono HO_3.out (fun _ hk => hk.2)⟩, ⟨by (with_reducible repeat (first | apply Kd.R_alloc | apply Kd.R_drewN | apply Kd.R_drew)); exact Kd.R_mono HO950.out (fun _ hk => hk.2)⟩, ⟨by repeat (first | (with_reducible first | exact HB.out | apply below_alloc | apply pw_below_drewN | apply below_drew1) | exact HB.out)⟩⟩
          case round =>
            clear H'
            try clear c2
            try clear c2b0
            try clear c2b1
            try clear p2
            try clear c5
            try clear c7
            try clear c7b0
            try clear p2
            obtain ⟨x5_2, x6_2, x7_2, rfl, rfl, HA, HK2, HO_3, HO_5, HB⟩ := hrel
            cases gk with
            | zero => exact absurd HA.out (by simp [spec_PolyThrough.l1])
            | succ k2 =>
              have H := HA.out
              clear HA
              simp only [spec_PolyThrough.l1] at H
              by_cases c10 : x7_2 < (l0.length : Int)
              · rw [if_pos c10] at H
                have c10b0 : decide (x7_2 < (l0.length : Int)) = true := decide_eq_true c10
                clear c10
                by_cases c11 : x7_2 = x4_1
                · rw [if_pos c11] at H
                  have c11b0 : (x7_2 == x4_1) = true := beq_iff_eq.mpr c11
                  have c11b1 : (x7_2 != x4_1) = false := bne_eq_false_iff_eq.mpr c11
                  clear c11
                  have H' := Aside0.mk H
                  clear H
                  go_wp2
                  go_roundg k2
                  case measure => have := HK1.out; have := HK2.out; omega
                  case rel => exact ⟨(x5_2), (x6_2), (wrap64 (x7_2 + 1)), (by first | rfl | (simp; done) | (simp [*]; done)), (by first | rfl | (simp; done) | (simp [*]; done)), H', ⟨by have := HK1.out; have := HK2.out; omega⟩, ⟨by (with_reducible repeat (first | apply Kd.R_alloc | apply Kd.R_drewN | apply Kd.R_drew)); exact HO_3.out⟩, ⟨by (with_reducible repeat (first | apply Kd.R_alloc | apply Kd.R_drewN | apply Kd.R_drew)); exact HO_5.out⟩, ⟨by repeat (first | (with_reducible first | exact HB.out | apply below_alloc | apply pw_below_drewN | apply below_drew1) | exact HB.out)⟩⟩
                · rw [if_neg c11] at H
                  have c11b0 : (x7_2 == x4_1) = false := beq_eq_false_iff_ne.mpr c11
                  have c11b1 : (x7_2 != x4_1) = true := bne_iff_ne.mpr c11
                  obtain ⟨y951, hy951⟩ : ∃ y_ : List Int, y_ = (([wrap64 (-(wrap64 (x7_2 + 1))), 1] : List Int)) := ⟨_, rfl⟩
                  replace H : ((spec_PolyMul.f k2 x5_2 y951).bind fun t954 => ((spec_ScMul.f x6_2 (wrap64 (x4_1 - x7_2))).bind fun t957 => (spec_PolyThrough.l1 k2 l0 x3_1 x4_1 t954 t957 (wrap64 (x7_2 + 1))))) = some r := by first | (rw [hy951]; with_reducible exact H) | (have H2_ := (Option.bind_some _ _).symm.trans H; rw [hy951]; with_reducible exact H2_) | (have H2_ := (Option.bind_some _ _).symm.trans H; with_reducible exact H2_) | with_reducible exact H | (rw [hy951]; exact H) | exact H
                  have Ny951 := Aside0.mk hy951
                  clear hy951
                  replace H := Option.bind_eq_some_iff.mp H
                  obtain ⟨t954, A120, H⟩ := H
                  replace H : ((spec_ScMul.f x6_2 (wrap64 (x4_1 - x7_2))).bind fun t957 => (spec_PolyThrough.l1 k2 l0 x3_1 x4_1 t954 t957 (wrap64 (x7_2 + 1)))) = some r := H
                  have A12 := Aside0.mk A120
                  clear A120
                  replace H := Option.bind_eq_some_iff.mp H
                  obtain ⟨t957, A130, H⟩ := H
                  replace H : (spec_PolyThrough.l1 k2 l0 x3_1 x4_1 t954 t957 (wrap64 (x7_2 + 1))) = some r := H
                  have A13 := Aside0.mk A130
                  clear A130
                  have H' := Aside0.mk H
                  clear H
                  go_wp2_with (first | ((with_reducible refine gate_dst (N := 33) rfl ?_); refine Kd.R_lit (Kd.int .i64) _ 3 ?hg (N := 33) ?hd (xs := ([wrap64 (-(wrap64 (x7_2 + 1))), 1] : List Int)) (inner := [.int .i64 (wrap64 (-(wrap64 (x7_2 + 1)))), .int .i64 1]) (ok := fun _ => True) (okp := fun _ => True) ?hr ?hp (fun _ hk => hk) trivial (Below.refl _ _) (Nat.le_refl _) (by simp) ?_; (case hd => rfl); (case hg => rfl); (case hr => first | (go_simp; done) | (go_simp; rfl)); (case hp => exact (Reps.one (show Kd.M (Kd.int .i64) _ _ _ (wrap64 (-(wrap64 (x7_2 + 1)))) [.int .i64 (wrap64 (-(wrap64 (x7_2 + 1))))] from rfl) (Reps.one (show Kd.M (Kd.int .i64) _ _ _ 1 [.int .i64 1] from rfl) (Reps.none _ _)))); intro v952 w14 ho15 hb hg_ hnew_; clear hg_ hnew_; (first | rw [← Ny951.out] at ho15 | (simp only [Int.reduceToNat] at ho15; rw [← Ny951.out] at ho15)); have n0_ := Aside0.mk (Kd.R_elder' (by (with_reducible repeat (first | apply Kd.R_alloc | apply Kd.R_drewN | apply Kd.R_drew)); exact HO_3.out) (Kd.R_base ho15) hb); have n1_ := Aside0.mk (Kd.R_elder' (by (with_reducible repeat (first | apply Kd.R_alloc | apply Kd.R_drewN | apply Kd.R_drew)); exact HO_5.out) (Kd.R_base ho15) hb); have n2_ := Aside0.mk (Kd.R_lower (Kd.R_new' (Kd.R_new' ho15 (Kd.R_lt (by (with_reducible repeat (first | apply Kd.R_alloc | apply Kd.R_drewN | apply Kd.R_drew)); exact HO_3.out))) (Kd.R_lt (by (with_reducible repeat (first | apply Kd.R_alloc | apply Kd.R_drewN | apply Kd.R_drew)); exact HO_5.out))) (below_size (by repeat (first | (with_reducible first | exact HB.out | apply below_alloc | apply pw_below_drewN | apply below_drew1) | exact HB.out)))); have n3_ := Aside0.mk (below_step (by repeat (first | (with_reducible first | exact HB.out | apply below_alloc | apply pw_below_drewN | apply below_drew1) | exact HB.out)) hb); clear HO_3; clear HO_5; clear HB; have HO_3 := n0_; have HO_5 := n1_; have HO953 := n2_; have HB := n3_; clear n0_ n1_ n2_ n3_; clear hb ho15; obtain ⟨Ao16, co16, eo16⟩ := Kd.R_slice HO_5.out; subst eo16; obtain ⟨Ao17, co17, eo17⟩ := Kd.R_slice HO953.out; subst eo17) | ((with_reducible refine gate_callee (f := 33) rfl ?_); refine goesL_ (some 34) rfl rfl Try.func33 (by kernel_rfl) rfl #[.slice Ao16 x5_2.length co16, .slice Ao17 y951.length co17] rfl (by (try simp only [List.map_toArray, List.map_cons, List.map_nil]); first | done | rfl | (simp only [List.length_drop, List.length_take]; rfl)) ?_; (with_reducible refine (spec_PolyMul.calls k2 _ _ x5_2 _ _ y951 t954 _ ?side1 ?side2 ?side3 ?side4 A12.out).mono ?_); (case side1 => repeat (first | exact (Kd.R_reads' HO_5.out).2.2 | (with_reducible refine Kd.C_alloc ?_ _) | (with_reducible refine Kd.C_drewN ?_ _) | (with_reducible refine Kd.C_drew ?_))); (case side2 => exact (Kd.R_reads' HO_5.out).2.1); (case side3 => repeat (first | exact (Kd.R_reads' HO953.out).2.2 | (with_reducible refine Kd.C_alloc ?_ _) | (with_reducible refine Kd.C_drewN ?_ _) | (with_reducible refine Kd.C_drew ?_))); (case side4 => exact (Kd.R_reads' HO953.out).2.1); rintro e w18 ⟨v955, rfl, ho0, hb⟩; refine ⟨_, rfl, ?_⟩; have n0_ := Aside0.mk (Kd.R_elder' (by (with_reducible repeat (first | apply Kd.R_alloc | apply Kd.R_drewN | apply Kd.R_drew)); exact HO_3.out) (Kd.R_base ho0) hb); have n1_ := Aside0.mk (Kd.R_elder' (by (with_reducible repeat (first | apply Kd.R_alloc | apply Kd.R_drewN | apply Kd.R_drew)); exact HO_5.out) (Kd.R_base ho0) hb); have n2_ := Aside0.mk (Kd.R_elder' (by (with_reducible repeat (first | apply Kd.R_alloc | apply Kd.R_drewN | apply Kd.R_drew)); exact HO953.out) (Kd.R_base ho0) hb); have n3_ := Aside0.mk (Kd.R_lower (Kd.R_new' (Kd.R_new' (Kd.R_new' ho0 (Kd.R_lt (by (with_reducible repeat (first | apply Kd.R_alloc | apply Kd.R_drewN | apply Kd.R_drew)); exact HO_3.out))) (Kd.R_lt (by (with_reducible repeat (first | apply Kd.R_alloc | apply Kd.R_drewN | apply Kd.R_drew)); exact HO_5.out))) (Kd.R_lt (by (with_reducible repeat (first | apply Kd.R_alloc | apply Kd.R_drewN | apply Kd.R_drew)); exact HO953.out))) (below_size (by repeat (first | (with_reducible first | exact HB.out | apply below_alloc | apply pw_below_drewN | apply below_drew1) | exact HB.out)))); have n4_ := Aside0.mk (below_step (by repeat (first | (with_reducible first | exact HB.out | apply below_alloc | apply pw_below_drewN | apply below_drew1) | exact HB.out)) hb); clear HO_3; clear HO_5; clear HO953; clear HB; have HO_3 := n0_; have HO_5 := n1_; have HO953 := n2_; have HO956 := n3_; have HB := n4_; clear n0_ n1_ n2_ n3_ n4_; (try clear hb); (try clear hb2); (try clear hk); (try clear hi); (try clear ho0)) | ((with_reducible refine gate_callee (f := 28) rfl ?_); refine goesL_ (some 39) rfl rfl Try.func28 (by kernel_rfl) rfl #[.int .i64 x6_2, .int .i64 (wrap64 (x4_1 - x7_2))] rfl (by (try simp only [List.map_toArray, List.map_cons, List.map_nil]); first | done | rfl | (simp only [List.length_drop, List.length_take]; rfl)) ?_; (with_reducible refine (spec_ScMul.calls x6_2 (wrap64 (x4_1 - x7_2)) t957 _ A13.out).mono ?_); rintro e w' ⟨rfl, ⟨nd, rfl⟩⟩; refine ⟨_, rfl, ?_⟩))
                  go_roundg k2
                  case measure => have := HK1.out; have := HK2.out; omega
                  case rel => exact ⟨(t954), (t957), (wrap64 (x7_2 + 1)), (by first | rfl | (simp; done) | (simp [*]; done)), (by first | rfl | (simp; done) | (simp [*]; done)), H', ⟨by have := HK1.out; have := HK2.out; omega⟩, ⟨by (with_reducible repeat (first | apply Kd.R_alloc | apply Kd.R_drewN | apply Kd.R_drew)); exact Kd.R_mono HO_3.out (fun _ hk => hk.2)⟩, ⟨by (with_reducible repeat (first | apply Kd.R_alloc | apply Kd.R_drewN | apply Kd.R_drew)); exact Kd.R_mono HO956.out (fun _ hk => hk.1.1.2)⟩, ⟨by repeat (first | (with_reducible first | exact HB.out | apply below_alloc | apply pw_below_drewN | apply below_drew1) | exact HB.out)⟩⟩
              · rw [if_neg c10] at H
                have c10b0 : decide (x7_2 < (l0.length : Int)) = false := decide_eq_false c10
                clear c10
                by_cases c19 : 0 ≤ x4_1
                · rw [if_pos c19] at H
                  have c19b0 : decide (0 ≤ x4_1) = true := decide_eq_true c19
                  clear c19
                  by_cases c20 : x4_1 < (l0.length : Int)
                  · rw [if_pos c20] at H
                    have c20b0 : decide (x4_1 < (l0.length : Int)) = true := decide_eq_true c20
                    clear c20
                    replace H := Option.bind_eq_some_iff.mp H
                    obtain ⟨t959, A210, H⟩ := H
                    replace H : ((spec_ScMul.f (rd l0 x4_1) t959).bind fun t960 => ((spec_l14Scale.f k2 x5_2 t960).bind fun t961 => ((spec_PolyAdd.f k2 x3_1 t961).bind fun t964 => (spec_PolyThrough.l0 k2 l0 t964 (wrap64 (x4_1 + 1)))))) = some r := H
                    have A21 := Aside0.mk A210
                    clear A210
                    replace H := Option.bind_eq_some_iff.mp H
                    obtain ⟨t960, A220, H⟩ := H
                    replace H : ((spec_l14Scale.f k2 x5_2 t960).bind fun t961 => ((spec_PolyAdd.f k2 x3_1 t961).bind fun t964 => (spec_PolyThrough.l0 k2 l0 t964 (wrap64 (x4_1 + 1))))) = some r := H
                    have A22 := Aside0.mk A220
                    clear A220
                    replace H := Option.bind_eq_some_iff.mp H
                    obtain ⟨t961, A230, H⟩ := H
                    replace H : ((spec_PolyAdd.f k2 x3_1 t961).bind fun t964 => (spec_PolyThrough.l0 k2 l0 t964 (wrap64 (x4_1 + 1)))) = some r := H
                    have A23 := Aside0.mk A230
                    clear A230
                    replace H := Option.bind_eq_some_iff.mp H
                    obtain ⟨t964, A240, H⟩ := H
                    replace H : (spec_PolyThrough.l0 k2 l0 t964 (wrap64 (x4_1 + 1))) = some r := H
                    have A24 := Aside0.mk A240
                    clear A240
                    have H' := Aside0.mk H
                    clear H
                    try go_wp2
                    have n0_ := Aside0.mk (Kd.R_drew HO_3.out)
                    have n1_ := Aside0.mk (Kd.R_drew HO_5.out)
                    have n2_ := Aside0.mk (below_drew1 HB.out)
                    clear HO_3
                    clear HO_5
                    clear HB
                    have HO_3 := n0_
                    have HO_5 := n1_
                    have HB := n2_
                    clear n0_ n1_ n2_
                    have p958 : 0 ≤ (x4_1 : Int) := of_decide_eq_true (by first | (with_reducible assumption) | assumption)
                    have q958 : x4_1 < (l0.length : Int) := of_decide_eq_true (by first | (with_reducible assumption) | assumption)
                    obtain ⟨ad958, e958, hx958_0⟩ := Kd.at_int HR0.out x4_1 p958 q958
                    have hw958_0 := hx958_0
                    cases e958
                    replace hx958_0 := (HB.out.cell (World.block_lt_of_cell? w _ hx958_0)).trans hx958_0
                    replace p958 := eq_true p958
                    replace q958 := eq_true q958
                    refine start_ (n := 12) (S := fun w' => w'.cell? (ad958.add (x4_1).toNat) = some (.int .i64 (rd l0 x4_1))) (ds := []) #[false, false, false, false, false, false, false, false, false, false, false, false] (by kernel_rfl) rfl rfl (((HB.out.cell (World.block_lt_of_cell? w _ hw958_0)).trans hw958_0)) (fun hHeld => ?_); refine with_tabW spec_PolyThrough.tab15 spec_PolyThrough.bits15 (fun HT_ HW_ => ?_)
                    generalize wr.drew = w25 at HO_3 HO_5 HB hx958_0 hHeld ⊢
                    refine pure_ (i := 0) (N := some 40) (v := ?_) (a' := ?_) #[true, false, false, false, false, false, false, false, false, false, false, false] rfl rfl (any_of HT_.out (by kernel_rfl)) (fun _ _ _ h => h) (Or.inl ⟨by rfl, ?_⟩) ?_ ?_
                    rotate_left
                    · intro w'
                      go_simp
                      with_reducible rfl
                    rotate_left
                    · simp only [Act.put, List.setIfInBounds_toArray, List.set_cons_zero, List.set_cons_succ, i64_w, i32_w]
                      rfl
                    refine pure_ (i := 1) (N := some 41) (v := ?_) (a' := ?_) #[true, true, false, false, false, false, false, false, false, false, false, false] rfl rfl (any_of HT_.out (by kernel_rfl)) (fun _ _ _ h => h) (Or.inl ⟨by rfl, ?_⟩) ?_ ?_
                    rotate_left
                    · intro w'
                      go_simp
                      with_reducible rfl
                    rotate_left
                    · simp only [Act.put, List.setIfInBounds_toArray, List.set_cons_zero, List.set_cons_succ, i64_w, i32_w]
                      rfl
                    refine pure_ (i := 2) (N := some 42) (v := ?_) (a' := ?_) #[true, true, true, false, false, false, false, false, false, false, false, false] rfl rfl (any_of HT_.out (by kernel_rfl)) (fun _ _ _ h => h) (Or.inl ⟨by rfl, ?_⟩) ?_ ?_
                    rotate_left
                    · intro w'
                      go_simp
                      with_reducible rfl
                    rotate_left
                    · simp only [Act.put, List.setIfInBounds_toArray, List.set_cons_zero, List.set_cons_succ, i64_w, i32_w]
                      rfl
                    refine pure_ (i := 3) (N := some 43) (v := ?_) (a' := ?_) #[true, true, true, true, false, false, false, false, false, false, false, false] rfl rfl (any_of HT_.out (by kernel_rfl)) (fun _ _ _ h => h) (Or.inl ⟨by rfl, ?_⟩) ?_ ?_
                    rotate_left
                    · intro w'
                      go_simp
                      with_reducible rfl
                    rotate_left
                    · simp only [Act.put, List.setIfInBounds_toArray, List.set_cons_zero, List.set_cons_succ, i64_w, i32_w]
                      rfl
                    refine pure_ (i := 4) (N := some 44) (v := ?_) (a' := ?_) #[true, true, true, true, true, false, false, false, false, false, false, false] rfl rfl (any_of HT_.out (by kernel_rfl)) (fun _ _ _ h => h) (Or.inl ⟨by rfl, ?_⟩) ?_ ?_
                    rotate_left
                    · intro w'
                      go_simp
                      with_reducible rfl
                    rotate_left
                    · simp only [Act.put, List.setIfInBounds_toArray, List.set_cons_zero, List.set_cons_succ, i64_w, i32_w]
                      rfl
                    refine pure_ (i := 6) (N := some 46) (v := ?_) (a' := ?_) #[true, true, true, true, true, false, true, false, false, false, false, false] rfl rfl (any_of HT_.out (by kernel_rfl)) (fun _ _ _ h => h) (Or.inl ⟨by rfl, ?_⟩) ?_ ?_
                    rotate_left
                    · intro w'
                      go_simp
                      with_reducible rfl
                    rotate_left
                    · simp only [Act.put, List.setIfInBounds_toArray, List.set_cons_zero, List.set_cons_succ, i64_w, i32_w]
                      rfl
                    refine take_ (i := 5) (N := some 45) (v := ?_) (a' := ?_) #[true, true, true, true, true, true, true, false, false, false, false, false] rfl rfl (take_ofW HT_.out HW_.out (by kernel_rfl)) (fun _ _ _ h => h) (Or.inl ⟨by rfl, ?_⟩) hHeld ?_ ?_
                    rotate_left
                    · intro w' s0
                      go_simp
                      with_reducible rfl
                    rotate_left
                    · simp only [Act.put, List.setIfInBounds_toArray, List.set_cons_zero, List.set_cons_succ, i64_w, i32_w]
                      rfl
                    refine one_ (i := 7) (N := some 47) #[true, true, true, true, true, true, true, true, false, false, false, false] rfl rfl (one_of HT_.out (by kernel_rfl)) (by decide) (fun K hK => ?_)
                    refine goes_ Try.func71 (by kernel_rfl) rfl #[.int .i64 x6_2] (by rfl) rfl rfl (by (try simp only [List.map_toArray, List.map_cons, List.map_nil]); first | done | rfl | (simp only [List.length_drop, List.length_take]; rfl)) ?_
                    with_reducible refine (spec_ScInv.calls k2 x6_2 t959 _ A21.out).mono ?_
                    rintro e w' ⟨rfl, ⟨nd, rfl⟩⟩
                    refine ⟨_, rfl, ?_⟩
                    refine hK.out _ _ (((HB.out.cell (World.block_lt_of_cell? w _ hw958_0)).trans hw958_0)) (fun hHeld => ?_)
                    clear hK K
                    refine norm_ (a' := ?_) ?_ ?_
                    rotate_left
                    · show Act.put _ (some 47) _ = _
                      simp only [Act.put, List.setIfInBounds_toArray, List.set_cons_zero, List.set_cons_succ, i64_w, i32_w]
                      rfl
                    refine one_ (i := 8) (N := some 48) #[true, true, true, true, true, true, true, true, true, false, false, false] rfl rfl (one_of HT_.out (by kernel_rfl)) (by decide) (fun K hK => ?_)
                    refine goes_ Try.func28 (by kernel_rfl) rfl #[.int .i64 (rd l0 x4_1), .int .i64 t959] (by rfl) rfl rfl (by (try simp only [List.map_toArray, List.map_cons, List.map_nil]); first | done | rfl | (simp only [List.length_drop, List.length_take]; rfl)) ?_
                    with_reducible refine (spec_ScMul.calls (rd l0 x4_1) t959 t960 _ A22.out).mono ?_
                    rintro e w' ⟨rfl, ⟨nd, rfl⟩⟩
                    refine ⟨_, rfl, ?_⟩
                    obtain ⟨Ao26, co26, eo26⟩ := Kd.R_slice HO_5.out
                    (first | subst eo26 | (injection eo26 with f1_ f2_ f3_; have f4_ := f1_.symm; have f5_ := f3_.symm; clear f1_ f2_ f3_; subst f4_; subst f5_))
                    refine hK.out _ _ (((HB.out.cell (World.block_lt_of_cell? w _ hw958_0)).trans hw958_0)) (fun hHeld => ?_)
                    clear hK K
                    refine norm_ (a' := ?_) ?_ ?_
                    rotate_left
                    · show Act.put _ (some 48) _ = _
                      simp only [Act.put, List.setIfInBounds_toArray, List.set_cons_zero, List.set_cons_succ, i64_w, i32_w]
                      rfl
                    refine one_ (i := 9) (N := some 49) #[true, true, true, true, true, true, true, true, true, true, false, false] rfl rfl (one_of HT_.out (by kernel_rfl)) (by decide) (fun K hK => ?_)
                    refine goes_ Try.func76 (by kernel_rfl) rfl #[.slice Ao26 x5_2.length co26, .int .i64 t960] (by rfl) rfl rfl (by (try simp only [List.map_toArray, List.map_cons, List.map_nil]); first | done | rfl | (simp only [List.length_drop, List.length_take]; rfl)) ?_
                    with_reducible refine (spec_l14Scale.calls k2 _ _ x5_2 t960 t961 _ ?side1 ?side2 A23.out).mono ?_
                    (case side1 => repeat (first | exact (Kd.R_reads' HO_5.out).2.2 | (with_reducible refine Kd.C_alloc ?_ _) | (with_reducible refine Kd.C_drewN ?_ _) | (with_reducible refine Kd.C_drew ?_)))
                    (case side2 => exact (Kd.R_reads' HO_5.out).2.1)
                    rintro e w27 ⟨v962, rfl, ho0, hb⟩
                    refine ⟨_, rfl, ?_⟩
                    have n0_ := Aside0.mk (Kd.R_elder' (by (with_reducible repeat (first | apply Kd.R_alloc | apply Kd.R_drewN | apply Kd.R_drew)); exact HO_3.out) (Kd.R_base ho0) hb)
                    have n1_ := Aside0.mk (Kd.R_elder' (by (with_reducible repeat (first | apply Kd.R_alloc | apply Kd.R_drewN | apply Kd.R_drew)); exact HO_5.out) (Kd.R_base ho0) hb)
                    have n2_ := Aside0.mk (Kd.R_lower (Kd.R_new' (Kd.R_new' ho0 (Kd.R_lt (by (with_reducible repeat (first | apply Kd.R_alloc | apply Kd.R_drewN | apply Kd.R_drew)); exact HO_3.out))) (Kd.R_lt (by (with_reducible repeat (first | apply Kd.R_alloc | apply Kd.R_drewN | apply Kd.R_drew)); exact HO_5.out))) (below_size (by repeat (first | (with_reducible first | exact HB.out | apply below_alloc | apply pw_below_drewN | apply below_drew1) | exact HB.out))))
                    have n3_ := Aside0.mk (below_step (by repeat (first | (with_reducible first | exact HB.out | apply below_alloc | apply pw_below_drewN | apply below_drew1) | exact HB.out)) hb)
                    clear HO_3
                    clear HO_5
                    clear HB
                    have HO_3 := n0_
                    have HO_5 := n1_
                    have HO963 := n2_
                    have HB := n3_
                    clear n0_ n1_ n2_ n3_
                    (try clear hb)
                    (try clear hb2)
                    (try clear hk)
                    (try clear hi)
                    (try clear ho0)
                    obtain ⟨Ao28, co28, eo28⟩ := Kd.R_slice HO_3.out
                    (first | subst eo28 | (injection eo28 with f1_ f2_ f3_; have f4_ := f1_.symm; have f5_ := f3_.symm; clear f1_ f2_ f3_; subst f4_; subst f5_))
                    obtain ⟨Ao29, co29, eo29⟩ := Kd.R_slice HO963.out
                    (first | subst eo29 | (injection eo29 with f1_ f2_ f3_; have f4_ := f1_.symm; have f5_ := f3_.symm; clear f1_ f2_ f3_; subst f4_; subst f5_))
                    refine hK.out _ _ (((HB.out.cell (World.block_lt_of_cell? w _ hw958_0)).trans hw958_0)) (fun hHeld => ?_)
                    clear hK K
                    refine norm_ (a' := ?_) ?_ ?_
                    rotate_left
                    · show Act.put _ (some 49) _ = _
                      simp only [Act.put, List.setIfInBounds_toArray, List.set_cons_zero, List.set_cons_succ, i64_w, i32_w]
                      rfl
                    refine one_ (i := 10) (N := some 50) #[true, true, true, true, true, true, true, true, true, true, true, false] rfl rfl (one_of HT_.out (by kernel_rfl)) (by decide) (fun K hK => ?_)
                    refine goes_ Try.func31 (by kernel_rfl) rfl #[.slice Ao28 x3_1.length co28, .slice Ao29 t961.length co29] (by rfl) rfl rfl (by (try simp only [List.map_toArray, List.map_cons, List.map_nil]); first | done | rfl | (simp only [List.length_drop, List.length_take]; rfl)) ?_
                    with_reducible refine (spec_PolyAdd.calls k2 _ _ x3_1 _ _ t961 t964 _ ?side1 ?side2 ?side3 ?side4 A24.out).mono ?_
                    (case side1 => repeat (first | exact (Kd.R_reads' HO_3.out).2.2 | (with_reducible refine Kd.C_alloc ?_ _) | (with_reducible refine Kd.C_drewN ?_ _) | (with_reducible refine Kd.C_drew ?_)))
                    (case side2 => exact (Kd.R_reads' HO_3.out).2.1)
                    (case side3 => repeat (first | exact (Kd.R_reads' HO963.out).2.2 | (with_reducible refine Kd.C_alloc ?_ _) | (with_reducible refine Kd.C_drewN ?_ _) | (with_reducible refine Kd.C_drew ?_)))
                    (case side4 => exact (Kd.R_reads' HO963.out).2.1)
                    rintro e w30 ⟨v965, rfl, ho0, hb⟩
                    refine ⟨_, rfl, ?_⟩
                    have n0_ := Aside0.mk (Kd.R_elder' (by (with_reducible repeat (first | apply Kd.R_alloc | apply Kd.R_drewN | apply Kd.R_drew)); exact HO_3.out) (Kd.R_base ho0) hb)
                    have n1_ := Aside0.mk (Kd.R_elder' (by (with_reducible repeat (first | apply Kd.R_alloc | apply Kd.R_drewN | apply Kd.R_drew)); exact HO_5.out) (Kd.R_base ho0) hb)
                    have n2_ := Aside0.mk (Kd.R_elder' (by (with_reducible repeat (first | apply Kd.R_alloc | apply Kd.R_drewN | apply Kd.R_drew)); exact HO963.out) (Kd.R_base ho0) hb)
                    have n3_ := Aside0.mk (Kd.R_lower (Kd.R_new' (Kd.R_new' (Kd.R_new' ho0 (Kd.R_lt (by (with_reducible repeat (first | apply Kd.R_alloc | apply Kd.R_drewN | apply Kd.R_drew)); exact HO_3.out))) (Kd.R_lt (by (with_reducible repeat (first | apply Kd.R_alloc | apply Kd.R_drewN | apply Kd.R_drew)); exact HO_5.out))) (Kd.R_lt (by (with_reducible repeat (first | apply Kd.R_alloc | apply Kd.R_drewN | apply Kd.R_drew)); exact HO963.out))) (below_size (by repeat (first | (with_reducible first | exact HB.out | apply below_alloc | apply pw_below_drewN | apply below_drew1) | exact HB.out))))
                    have n4_ := Aside0.mk (below_step (by repeat (first | (with_reducible first | exact HB.out | apply below_alloc | apply pw_below_drewN | apply below_drew1) | exact HB.out)) hb)
                    clear HO_3
                    clear HO_5
                    clear HO963
                    clear HB
                    have HO_3 := n0_
                    have HO_5 := n1_
                    have HO963 := n2_
                    have HO966 := n3_
                    have HB := n4_
                    clear n0_ n1_ n2_ n3_ n4_
                    (try clear hb)
                    (try clear hb2)
                    (try clear hk)
                    (try clear hi)
                    (try clear ho0)
                    refine hK.out _ _ (((HB.out.cell (World.block_lt_of_cell? w _ hw958_0)).trans hw958_0)) (fun hHeld => ?_)
                    clear hK K
                    refine norm_ (a' := ?_) ?_ ?_
                    rotate_left
                    · show Act.put _ (some 50) _ = _
                      simp only [Act.put, List.setIfInBounds_toArray, List.set_cons_zero, List.set_cons_succ, i64_w, i32_w]
                      rfl
                    refine pure_ (i := 11) (N := some 3) (v := ?_) (a' := ?_) #[true, true, true, true, true, true, true, true, true, true, true, true] rfl rfl (any_of HT_.out (by kernel_rfl)) (fun _ _ _ h => h) (Or.inl ⟨by rfl, ?_⟩) ?_ ?_
                    rotate_left
                    · intro w'
                      go_simp
                      with_reducible rfl
                    rotate_left
                    · simp only [Act.put, List.setIfInBounds_toArray, List.set_cons_zero, List.set_cons_succ, i64_w, i32_w]
                      rfl
                    refine done_ (done_of HT_.out (by kernel_rfl)) ?_
                    try go_wp2
                    go_roundg k2
                    case measure => have := HK1.out; have := HK2.out; omega
                    case rel => exact ⟨(t964), (wrap64 (x4_1 + 1)), (by first | rfl | (simp; done) | (simp [*]; done)), H', ⟨by have := HK1.out; have := HK2.out; omega⟩, ⟨by (with_reducible repeat (first | apply Kd.R_alloc | apply Kd.R_drewN | apply Kd.R_drew)); exact Kd.R_mono HO966.out (fun _ hk => trivial)⟩, ⟨by repeat (first | (with_reducible first | exact HB.out | apply below_alloc | apply pw_below_drewN | apply below_drew1) | exact HB.out)⟩⟩
                  · rw [if_neg c20] at H
                    exact absurd H (by simp)
                · rw [if_neg c19] at H
                  exact absurd H (by simp)
        · rw [if_neg c7] at H
          have c7b0 : decide (x4_1 < (l0.length : Int)) = false := decide_eq_false c7
          clear c7
          obtain rfl := Option.some.inj H
          go_wp2
          go_ret
          exact ⟨_, by first | rfl | (simp [errW_none, errW_some] <;> rfl) | (simp [*, errW_none, errW_some] <;> rfl), by (with_reducible repeat (first | apply Kd.R_alloc | apply Kd.R_drewN | apply Kd.R_drew)); exact HO_3.out, by repeat (first | (with_reducible first | exact HB.out | apply below_alloc | apply pw_below_drewN | apply below_drew1) | exact HB.out)⟩

end Go.Proofs.Ytcnejiflpioaiaa.Pf
end

section
namespace Go.Proofs.Ytcnejiflpioaiaa.Pf
open Go.RowKit Go.Proofs.YtcnejiflpioaiaaW.PrintWords Go.Proofs.YtcnejiflpioaiaaW.PrintLast Go.Proofs.YtcnejiflpioaiaaW.PrintMore
attribute [local go_sem] max2_int min2_int max_two min_two max_three min_three max_four min_four   -- for this text's walks alone
set_option linter.unusedVariables false
set_option linter.unusedSimpArgs false

/-! ### spec_PolyAt: function 15 -/
def spec_PolyAt.l0 : Nat → List Int → Int → Int → Int → Option (Int)
  | 0, _, _, _, _ => none
  | k + 1, x0, x1, x5, x6 => if x6 ≥ 0 then ((spec_ScMul.f x5 x1).bind fun t107 => (if 0 ≤ x6 then (if x6 < (x0.length : Int) then ((spec_ScAdd.f t107 (rd x0 x6)).bind fun t109 => (spec_PolyAt.l0 k x0 x1 t109 (wrap64 (x6 - 1)))) else (none)) else (none))) else (some x5)
def spec_PolyAt.f (k : Nat) (l0 : List Int) (a1 : Int) : Option (Int) := spec_PolyAt.l0 k l0 a1 0 (wrap64 ((l0.length : Int) - 1))
theorem spec_PolyAt.mono_l : ∀ k, (∀ y0 y1 y2 y3, LeO (spec_PolyAt.l0 k y0 y1 y2 y3) (spec_PolyAt.l0 (k + 1) y0 y1 y2 y3))
  | 0 => fun _ _ _ _ r h => by simp [spec_PolyAt.l0] at h
  | k + 1 => by
    have ih0 := spec_PolyAt.mono_l k
    · intro y0 y1 y2 y3
      unfold spec_PolyAt.l0
      repeat' first
      | (with_reducible exact ih0 _ _ _ _)
      | (with_reducible exact LeO.refl _)
      | (with_reducible exact LeO.none _)
      | (with_reducible refine LeO.ite ?_ ?_)
      | (with_reducible refine LeO.bind ?_ (fun _ => ?_))
      | exact ih0 _ _ _ _
      | exact LeO.none _
      | refine LeO.ite ?_ ?_
      | refine LeO.bind ?_ (fun _ => ?_)
theorem spec_PolyAt.mono : ∀ a0 a1 k, LeO (spec_PolyAt.f k a0 a1) (spec_PolyAt.f (k + 1) a0 a1) := by
  intro a0 a1 k
  have ih0 := spec_PolyAt.mono_l k
  unfold spec_PolyAt.f
  repeat' first
      | (with_reducible exact ih0 _ _ _ _)
      | (with_reducible exact LeO.refl _)
      | (with_reducible exact LeO.none _)
      | (with_reducible refine LeO.ite ?_ ?_)
      | (with_reducible refine LeO.bind ?_ (fun _ => ?_))
      | exact ih0 _ _ _ _
      | exact LeO.none _
      | refine LeO.ite ?_ ?_
      | refine LeO.bind ?_ (fun _ => ?_)
set_option maxHeartbeats 8000000 in
set_option maxRecDepth 100000 in
theorem spec_PolyAt.calls (k : Nat) (A0 : Option Addr) (c0 : Nat) (l0 : List Int) (a1 : Int) (r : Int) (w : World) (hr0 : Kd.C (Kd.int .i64) w A0 l0.length l0) (hc0 : l0.length ≤ c0) (h : spec_PolyAt.f k l0 a1 = some r) :
    Calls Try.prog 15 #[.slice A0 l0.length c0, .int .i64 a1] w fun e w' => e = .returned (.int .i64 r) ∧ Drawn0 w w' := by
  have HR0 := Aside0.mk hr0
  have HC0 := Aside0.mk hc0
  clear hr0 hc0
  have H : (spec_PolyAt.l0 k l0 a1 0 (wrap64 ((l0.length : Int) - 1))) = some r := h
  clear h
  have H' := Aside0.mk H
  clear H
  go_enter Try.func15, Try.ntmps15
  go_wp2
  repeat (go_quiet (fail); try go_wp2)
  go_loopg [5, 6] k (fun kq v5 v6 w' => ∃ (x5_1 : Int) (x6_1 : Int), v5 = .int .i64 x5_1 ∧ v6 = .int .i64 x6_1 ∧ Aside0 (spec_PolyAt.l0 kq l0 a1 x5_1 x6_1 = some r) ∧ Aside0 (kq ≤ k) ∧ Drawn0 w w')
  case atStart => exact ⟨(0), (wrap64 ((l0.length : Int) - 1)), (by first | rfl | (simp; done) | (simp [*]; done)), (by first | rfl | (simp; done) | (simp [*]; done)), H', ⟨Nat.le_refl _⟩, by repeat (first | exact Drawn0.refl _ | apply Drawn0.step)⟩
  case round =>
    clear H'
    try clear c1
    try clear p2
    obtain ⟨x5_1, x6_1, rfl, rfl, HA, HK1, ⟨m1, rfl⟩⟩ := hrel
    cases gk with
    | zero => exact absurd HA.out (by simp [spec_PolyAt.l0])
    | succ k1 =>
      have H := HA.out
      clear HA
      simp only [spec_PolyAt.l0] at H
      by_cases c3 : x6_1 ≥ 0
      · rw [if_pos c3] at H
        have c3b0 : decide (0 ≤ x6_1) = true := decide_eq_true c3
        clear c3
        replace H := Option.bind_eq_some_iff.mp H
        obtain ⟨t107, A40, H⟩ := H
        replace H : (if 0 ≤ x6_1 then (if x6_1 < (l0.length : Int) then ((spec_ScAdd.f t107 (rd l0 x6_1)).bind fun t109 => (spec_PolyAt.l0 k1 l0 a1 t109 (wrap64 (x6_1 - 1)))) else (none)) else (none)) = some r := H
        have A4 := Aside0.mk A40
        clear A40
        by_cases c5 : 0 ≤ x6_1
        · rw [if_pos c5] at H
          have c5b0 : decide (0 ≤ x6_1) = true := decide_eq_true c5
          clear c5
          by_cases c6 : x6_1 < (l0.length : Int)
          · rw [if_pos c6] at H
            have c6b0 : decide (x6_1 < (l0.length : Int)) = true := decide_eq_true c6
            clear c6
            replace H := Option.bind_eq_some_iff.mp H
            obtain ⟨t109, A70, H⟩ := H
            replace H : (spec_PolyAt.l0 k1 l0 a1 t109 (wrap64 (x6_1 - 1))) = some r := H
            have A7 := Aside0.mk A70
            clear A70
            have H' := Aside0.mk H
            clear H
            go_wp2_with (first | (go_at_call 28; (with_reducible refine (spec_ScMul.calls x5_1 a1 t107 _ A4.out).mono ?_); rintro e w' ⟨rfl, ⟨nd, rfl⟩⟩; (try first | exact ⟨rfl, _, World.drewN_drewN _ _ _⟩ | exact ⟨rfl, _, Eq.trans (World.drewN_drewN _ _ _) (congrArg (World.drewN _) (Nat.add_assoc _ _ _))⟩); have p108 : 0 ≤ (x6_1 : Int) := of_decide_eq_true (by first | (with_reducible assumption) | assumption); have q108 : x6_1 < (l0.length : Int) := of_decide_eq_true (by first | (with_reducible assumption) | assumption); obtain ⟨ad108, e108, hx108_0⟩ := Kd.at_int HR0.out x6_1 p108 q108; cases e108; replace p108 := eq_true p108; replace q108 := eq_true q108) | (go_at_call 27; (with_reducible refine (spec_ScAdd.calls t107 (rd l0 x6_1) t109 _ A7.out).mono ?_); rintro e w' ⟨rfl, ⟨nd, rfl⟩⟩; (try first | exact ⟨rfl, _, World.drewN_drewN _ _ _⟩ | exact ⟨rfl, _, Eq.trans (World.drewN_drewN _ _ _) (congrArg (World.drewN _) (Nat.add_assoc _ _ _))⟩)))
            repeat (go_quiet (first | (go_at_call 28; (with_reducible refine (spec_ScMul.calls x5_1 a1 t107 _ A4.out).mono ?_); rintro e w' ⟨rfl, ⟨nd, rfl⟩⟩; (try first | exact ⟨rfl, _, World.drewN_drewN _ _ _⟩ | exact ⟨rfl, _, Eq.trans (World.drewN_drewN _ _ _) (congrArg (World.drewN _) (Nat.add_assoc _ _ _))⟩); have p108 : 0 ≤ (x6_1 : Int) := of_decide_eq_true (by first | (with_reducible assumption) | assumption); have q108 : x6_1 < (l0.length : Int) := of_decide_eq_true (by first | (with_reducible assumption) | assumption); obtain ⟨ad108, e108, hx108_0⟩ := Kd.at_int HR0.out x6_1 p108 q108; cases e108; replace p108 := eq_true p108; replace q108 := eq_true q108) | (go_at_call 27; (with_reducible refine (spec_ScAdd.calls t107 (rd l0 x6_1) t109 _ A7.out).mono ?_); rintro e w' ⟨rfl, ⟨nd, rfl⟩⟩; (try first | exact ⟨rfl, _, World.drewN_drewN _ _ _⟩ | exact ⟨rfl, _, Eq.trans (World.drewN_drewN _ _ _) (congrArg (World.drewN _) (Nat.add_assoc _ _ _))⟩))); try go_wp2_with (first | (go_at_call 28; (with_reducible refine (spec_ScMul.calls x5_1 a1 t107 _ A4.out).mono ?_); rintro e w' ⟨rfl, ⟨nd, rfl⟩⟩; (try first | exact ⟨rfl, _, World.drewN_drewN _ _ _⟩ | exact ⟨rfl, _, Eq.trans (World.drewN_drewN _ _ _) (congrArg (World.drewN _) (Nat.add_assoc _ _ _))⟩); have p108 : 0 ≤ (x6_1 : Int) := of_decide_eq_true (by first | (with_reducible assumption) | assumption); have q108 : x6_1 < (l0.length : Int) := of_decide_eq_true (by first | (with_reducible assumption) | assumption); obtain ⟨ad108, e108, hx108_0⟩ := Kd.at_int HR0.out x6_1 p108 q108; cases e108; replace p108 := eq_true p108; replace q108 := eq_true q108) | (go_at_call 27; (with_reducible refine (spec_ScAdd.calls t107 (rd l0 x6_1) t109 _ A7.out).mono ?_); rintro e w' ⟨rfl, ⟨nd, rfl⟩⟩; (try first | exact ⟨rfl, _, World.drewN_drewN _ _ _⟩ | exact ⟨rfl, _, Eq.trans (World.drewN_drewN _ _ _) (congrArg (World.drewN _) (Nat.add_assoc _ _ _))⟩))))
            go_roundg k1
            case measure => have := HK1.out; omega
            case rel => exact ⟨(t109), (wrap64 (x6_1 - 1)), (by first | rfl | (simp; done) | (simp [*]; done)), (by first | rfl | (simp; done) | (simp [*]; done)), H', ⟨by have := HK1.out; omega⟩, by repeat (first | exact Drawn0.refl _ | apply Drawn0.step)⟩
          · rw [if_neg c6] at H
            exact absurd H (by simp)
        · rw [if_neg c5] at H
          exact absurd H (by simp)
      · rw [if_neg c3] at H
        have c3b0 : decide (0 ≤ x6_1) = false := decide_eq_false c3
        clear c3
        obtain rfl := Option.some.inj H
        go_wp2
        repeat (go_quiet (fail); try go_wp2)
        go_ret
        exact ⟨by first | rfl | (simp; done) | (simp [*]; done), by repeat (first | exact Drawn0.refl _ | apply Drawn0.step)⟩

end Go.Proofs.Ytcnejiflpioaiaa.Pf
end

section
namespace Go.Proofs.Ytcnejiflpioaiaa.Pf
open Go.RowKit Go.Proofs.YtcnejiflpioaiaaW.PrintWords Go.Proofs.YtcnejiflpioaiaaW.PrintLast Go.Proofs.YtcnejiflpioaiaaW.PrintMore
attribute [local go_sem] max2_int min2_int max_two min_two max_three min_three max_four min_four   -- for this text's walks alone
set_option linter.unusedVariables false
set_option linter.unusedSimpArgs false

/-! ### laws_eqIntS: function 18 -/
def laws_eqIntS.l0 : Nat → List Int → List Int → Int → Option (Bool)
  | 0, _, _, _ => none
  | k + 1, x0, x1, x5 => if x5 < (x0.length : Int) then (if 0 ≤ x5 then (if x5 < (x1.length : Int) then (if (rd x0 x5) = (rd x1 x5) then (laws_eqIntS.l0 k x0 x1 (wrap64 (x5 + 1))) else (some false)) else (none)) else (none)) else (some true)
def laws_eqIntS.f (k : Nat) (l0 : List Int) (l1 : List Int) : Option (Bool) := if (l0.length : Int) = (l1.length : Int) then (laws_eqIntS.l0 k l0 l1 0) else (some false)
theorem laws_eqIntS.mono_l : ∀ k, (∀ y0 y1 y2, LeO (laws_eqIntS.l0 k y0 y1 y2) (laws_eqIntS.l0 (k + 1) y0 y1 y2))
  | 0 => fun _ _ _ r h => by simp [laws_eqIntS.l0] at h
  | k + 1 => by
    have ih0 := laws_eqIntS.mono_l k
    · intro y0 y1 y2
      unfold laws_eqIntS.l0
      repeat' first
      | (with_reducible exact ih0 _ _ _)
      | (with_reducible exact LeO.refl _)
      | (with_reducible exact LeO.none _)
      | (with_reducible refine LeO.ite ?_ ?_)
      | (with_reducible refine LeO.bind ?_ (fun _ => ?_))
      | exact ih0 _ _ _
      | exact LeO.none _
      | refine LeO.ite ?_ ?_
      | refine LeO.bind ?_ (fun _ => ?_)
theorem laws_eqIntS.mono : ∀ a0 a1 k, LeO (laws_eqIntS.f k a0 a1) (laws_eqIntS.f (k + 1) a0 a1) := by
  intro a0 a1 k
  have ih0 := laws_eqIntS.mono_l k
  unfold laws_eqIntS.f
  repeat' first
      | (with_reducible exact ih0 _ _ _)
      | (with_reducible exact LeO.refl _)
      | (with_reducible exact LeO.none _)
      | (with_reducible refine LeO.ite ?_ ?_)
      | (with_reducible refine LeO.bind ?_ (fun _ => ?_))
      | exact ih0 _ _ _
      | exact LeO.none _
      | refine LeO.ite ?_ ?_
      | refine LeO.bind ?_ (fun _ => ?_)
set_option maxHeartbeats 8000000 in
set_option maxRecDepth 100000 in
theorem laws_eqIntS.calls (k : Nat) (A0 : Option Addr) (c0 : Nat) (l0 : List Int) (A1 : Option Addr) (c1 : Nat) (l1 : List Int) (r : Bool) (w : World) (hr0 : Kd.C (Kd.int .i64) w A0 l0.length l0) (hc0 : l0.length ≤ c0) (hr1 : Kd.C (Kd.int .i64) w A1 l1.length l1) (hc1 : l1.length ≤ c1) (h : laws_eqIntS.f k l0 l1 = some r) :
    Calls Try.prog 18 #[.slice A0 l0.length c0, .slice A1 l1.length c1] w fun e w' => e = .returned (.bool r) ∧ Drawn0 w w' := by
  have HR0 := Aside0.mk hr0
  have HC0 := Aside0.mk hc0
  clear hr0 hc0
  have HR1 := Aside0.mk hr1
  have HC1 := Aside0.mk hc1
  clear hr1 hc1
  have H : (if (l0.length : Int) = (l1.length : Int) then (laws_eqIntS.l0 k l0 l1 0) else (some false)) = some r := h
  clear h
  by_cases c3 : (l0.length : Int) = (l1.length : Int)
  · rw [if_pos c3] at H
    have c3b0 : ((l0.length : Int) == (l1.length : Int)) = true := beq_iff_eq.mpr c3
    have c3b1 : ((l0.length : Int) != (l1.length : Int)) = false := bne_eq_false_iff_eq.mpr c3
    have c3b2 : (l0.length == l1.length) = true := by first | simpa using c3 | (simp at c3 ⊢; omega)
    clear c3
    have H' := Aside0.mk H
    clear H
    go_enter Try.func18, Try.ntmps18
    go_wp2
    repeat (go_quiet (fail); try go_wp2)
    go_loopg [5] k (fun kq v5 w' => ∃ (x5_1 : Int), v5 = .int .i64 x5_1 ∧ Aside0 (laws_eqIntS.l0 kq l0 l1 x5_1 = some r) ∧ Aside0 (kq ≤ k) ∧ Drawn0 w w')
    case atStart => exact ⟨(0), (by first | rfl | (simp; done) | (simp [*]; done)), H', ⟨Nat.le_refl _⟩, by repeat (first | exact Drawn0.refl _ | apply Drawn0.step)⟩
    case round =>
      clear H'
      try clear c1
      try clear p2
      try clear c3
      try clear c3b0
      try clear c3b1
      try clear c3b2
      obtain ⟨x5_1, rfl, HA, HK1, ⟨m1, rfl⟩⟩ := hrel
      cases gk with
      | zero => exact absurd HA.out (by simp [laws_eqIntS.l0])
      | succ k1 =>
        have H := HA.out
        clear HA
        simp only [laws_eqIntS.l0] at H
        by_cases c4 : x5_1 < (l0.length : Int)
        · rw [if_pos c4] at H
          have c4b0 : decide (x5_1 < (l0.length : Int)) = true := decide_eq_true c4
          clear c4
          by_cases c5 : 0 ≤ x5_1
          · rw [if_pos c5] at H
            have c5b0 : decide (0 ≤ x5_1) = true := decide_eq_true c5
            clear c5
            by_cases c6 : x5_1 < (l1.length : Int)
            · rw [if_pos c6] at H
              have c6b0 : decide (x5_1 < (l1.length : Int)) = true := decide_eq_true c6
              clear c6
              by_cases c7 : (rd l0 x5_1) = (rd l1 x5_1)
              · rw [if_pos c7] at H
                have c7b0 : ((rd l0 x5_1) == (rd l1 x5_1)) = true := beq_iff_eq.mpr c7
                have c7b1 : ((rd l0 x5_1) != (rd l1 x5_1)) = false := bne_eq_false_iff_eq.mpr c7
                clear c7
                have H' := Aside0.mk H
                clear H
                have p125 : 0 ≤ (x5_1 : Int) := of_decide_eq_true (by first | (with_reducible assumption) | assumption)
                have q125 : x5_1 < (l0.length : Int) := of_decide_eq_true (by first | (with_reducible assumption) | assumption)
                obtain ⟨ad125, e125, hx125_0⟩ := Kd.at_int HR0.out x5_1 p125 q125
                cases e125
                replace p125 := eq_true p125
                replace q125 := eq_true q125
                have p126 : 0 ≤ (x5_1 : Int) := of_decide_eq_true (by first | (with_reducible assumption) | assumption)
                have q126 : x5_1 < (l1.length : Int) := of_decide_eq_true (by first | (with_reducible assumption) | assumption)
                obtain ⟨ad126, e126, hx126_0⟩ := Kd.at_int HR1.out x5_1 p126 q126
                cases e126
                replace p126 := eq_true p126
                replace q126 := eq_true q126
                go_wp2
                repeat (go_quiet (fail); try go_wp2)
                go_roundg k1
                case measure => have := HK1.out; omega
                case rel => exact ⟨(wrap64 (x5_1 + 1)), (by first | rfl | (simp; done) | (simp [*]; done)), H', ⟨by have := HK1.out; omega⟩, by repeat (first | exact Drawn0.refl _ | apply Drawn0.step)⟩
              · rw [if_neg c7] at H
                have c7b0 : ((rd l0 x5_1) == (rd l1 x5_1)) = false := beq_eq_false_iff_ne.mpr c7
                have c7b1 : ((rd l0 x5_1) != (rd l1 x5_1)) = true := bne_iff_ne.mpr c7
                obtain rfl := Option.some.inj H
                have p125 : 0 ≤ (x5_1 : Int) := of_decide_eq_true (by first | (with_reducible assumption) | assumption)
                have q125 : x5_1 < (l0.length : Int) := of_decide_eq_true (by first | (with_reducible assumption) | assumption)
                obtain ⟨ad125, e125, hx125_0⟩ := Kd.at_int HR0.out x5_1 p125 q125
                cases e125
                replace p125 := eq_true p125
                replace q125 := eq_true q125
                have p126 : 0 ≤ (x5_1 : Int) := of_decide_eq_true (by first | (with_reducible assumption) | assumption)
                have q126 : x5_1 < (l1.length : Int) := of_decide_eq_true (by first | (with_reducible assumption) | assumption)
                obtain ⟨ad126, e126, hx126_0⟩ := Kd.at_int HR1.out x5_1 p126 q126
                cases e126
                replace p126 := eq_true p126
                replace q126 := eq_true q126
                go_wp2
                repeat (go_quiet (fail); try go_wp2)
                go_ret
                exact ⟨by first | rfl | (simp; done) | (simp [*]; done), by repeat (first | exact Drawn0.refl _ | apply Drawn0.step)⟩
            · rw [if_neg c6] at H
              exact absurd H (by simp)
          · rw [if_neg c5] at H
            exact absurd H (by simp)
        · rw [if_neg c4] at H
          have c4b0 : decide (x5_1 < (l0.length : Int)) = false := decide_eq_false c4
          clear c4
          obtain rfl := Option.some.inj H
          go_wp2
          repeat (go_quiet (fail); try go_wp2)
          go_ret
          exact ⟨by first | rfl | (simp; done) | (simp [*]; done), by repeat (first | exact Drawn0.refl _ | apply Drawn0.step)⟩
  · rw [if_neg c3] at H
    have c3b0 : ((l0.length : Int) == (l1.length : Int)) = false := beq_eq_false_iff_ne.mpr c3
    have c3b1 : ((l0.length : Int) != (l1.length : Int)) = true := bne_iff_ne.mpr c3
    have c3b2 : (l0.length == l1.length) = false := by first | simpa using c3 | (simp at c3 ⊢; omega)
    obtain rfl := Option.some.inj H
    go_enter Try.func18, Try.ntmps18
    go_wp2
    repeat (go_quiet (fail); try go_wp2)
    go_ret
    exact ⟨by first | rfl | (simp; done) | (simp [*]; done), by repeat (first | exact Drawn0.refl _ | apply Drawn0.step)⟩

end Go.Proofs.Ytcnejiflpioaiaa.Pf
end

section
namespace Go.Proofs.Ytcnejiflpioaiaa.Pf
open Go.RowKit Go.Proofs.YtcnejiflpioaiaaW.PrintWords Go.Proofs.YtcnejiflpioaiaaW.PrintLast Go.Proofs.YtcnejiflpioaiaaW.PrintMore
attribute [local go_sem] max2_int min2_int max_two min_two max_three min_three max_four min_four   -- for this text's walks alone
set_option linter.unusedVariables false
set_option linter.unusedSimpArgs false

/-! ### laws_toIntS: function 16 -/
def laws_toIntS.l0 : Nat → List Int → List Int → Int → Option (List Int)
  | 0, _, _, _ => none
  | k + 1, x0, x3, x4 => if x4 < (x0.length : Int) then (if 0 ≤ x4 then (if x4 < (x3.length : Int) then (laws_toIntS.l0 k x0 (x3.set (x4 : Int).toNat (rd x0 x4)) (wrap64 (x4 + 1))) else (none)) else (none)) else (some x3)
def laws_toIntS.f (k : Nat) (l0 : List Int) : Option (List Int) := if 0 ≤ (l0.length : Int) then (if ((l0.length : Int) : Int).toNat ≤ 35184372088832 then (laws_toIntS.l0 k l0 (List.replicate ((l0.length : Int) : Int).toNat 0) 0) else (none)) else (none)
theorem laws_toIntS.mono_l : ∀ k, (∀ y0 y1 y2, LeO (laws_toIntS.l0 k y0 y1 y2) (laws_toIntS.l0 (k + 1) y0 y1 y2))
  | 0 => fun _ _ _ r h => by simp [laws_toIntS.l0] at h
  | k + 1 => by
    have ih0 := laws_toIntS.mono_l k
    · intro y0 y1 y2
      unfold laws_toIntS.l0
      repeat' first
      | (with_reducible exact ih0 _ _ _)
      | (with_reducible exact LeO.refl _)
      | (with_reducible exact LeO.none _)
      | (with_reducible refine LeO.ite ?_ ?_)
      | (with_reducible refine LeO.bind ?_ (fun _ => ?_))
      | exact ih0 _ _ _
      | exact LeO.none _
      | refine LeO.ite ?_ ?_
      | refine LeO.bind ?_ (fun _ => ?_)
theorem laws_toIntS.mono : ∀ a0 k, LeO (laws_toIntS.f k a0) (laws_toIntS.f (k + 1) a0) := by
  intro a0 k
  have ih0 := laws_toIntS.mono_l k
  unfold laws_toIntS.f
  repeat' first
      | (with_reducible exact ih0 _ _ _)
      | (with_reducible exact LeO.refl _)
      | (with_reducible exact LeO.none _)
      | (with_reducible refine LeO.ite ?_ ?_)
      | (with_reducible refine LeO.bind ?_ (fun _ => ?_))
      | exact ih0 _ _ _
      | exact LeO.none _
      | refine LeO.ite ?_ ?_
      | refine LeO.bind ?_ (fun _ => ?_)
set_option maxHeartbeats 8000000 in
set_option maxRecDepth 100000 in
theorem laws_toIntS.calls (k : Nat) (A0 : Option Addr) (c0 : Nat) (l0 : List Int) (r : List Int) (w : World) (hr0 : Kd.C (Kd.int .i64) w A0 l0.length l0) (hc0 : l0.length ≤ c0) (h : laws_toIntS.f k l0 = some r) :
    Calls Try.prog 16 #[.slice A0 l0.length c0] w fun e w' => ∃ v0_ : Value, e = .returned (v0_) ∧ Kd.R (Kd.int .i64) 3 w' w.heap.size (fun _ => True) v0_ r ∧ Below w.heap.size w w' := by
  have HR0 := Aside0.mk hr0
  have HC0 := Aside0.mk hc0
  clear hr0 hc0
  have HB := Aside0.mk (Below.refl w.heap.size w)
  have H : (if 0 ≤ (l0.length : Int) then (if ((l0.length : Int) : Int).toNat ≤ 35184372088832 then (laws_toIntS.l0 k l0 (List.replicate ((l0.length : Int) : Int).toNat 0) 0) else (none)) else (none)) = some r := h
  clear h
  by_cases c2 : 0 ≤ (l0.length : Int)
  · rw [if_pos c2] at H
    have c2b0 := eq_true c2
    have c2b1 : decide (0 ≤ (l0.length : Int)) = true := decide_eq_true c2
    clear c2
    by_cases c3 : ((l0.length : Int) : Int).toNat ≤ 35184372088832
    · rw [if_pos c3] at H
      have c3b0 := eq_true c3
      have c3b1 : decide (((l0.length : Int) : Int).toNat ≤ 35184372088832) = true := decide_eq_true c3
      clear c3
      obtain ⟨y110, hy110⟩ : ∃ y_ : List Int, y_ = (List.replicate ((l0.length : Int) : Int).toNat 0) := ⟨_, rfl⟩
      replace H : (laws_toIntS.l0 k l0 y110 0) = some r := by first | (rw [hy110]; with_reducible exact H) | (have H2_ := (Option.bind_some _ _).symm.trans H; rw [hy110]; with_reducible exact H2_) | (have H2_ := (Option.bind_some _ _).symm.trans H; with_reducible exact H2_) | with_reducible exact H | (rw [hy110]; exact H) | exact H
      have Ny110 := Aside0.mk hy110
      clear hy110
      have H' := Aside0.mk H
      clear H
      go_enter Try.func16, Try.ntmps16
      go_wp2_with (first | ((with_reducible refine gate_dst (N := 7) rfl ?_); refine Kd.R_make (Kd.int .i64) _ 3 rfl (N := 7) rfl 22 _ _ rfl (l0.length : Int) rfl rfl Try.underlying22 (.int .i64 0) 8 info3 rfl (by decide) (by omega) 0 (ok := fun _ => True) (okp := fun _ => True) rfl (fun _ hk => hk) trivial (of_decide_eq_true (by first | (with_reducible assumption) | assumption)) (Nat.le_trans (Nat.mul_le_mul_right _ (of_decide_eq_true (by first | (with_reducible assumption) | assumption) : (l0.length : Int).toNat ≤ 35184372088832)) (by omega)) (Below.refl _ _) (Nat.le_refl _) ?_; intro v111 w4 ho5 hb hg_ hnew_; clear hg_ hnew_; (first | rw [← Ny110.out] at ho5 | (simp only [Int.reduceToNat] at ho5; rw [← Ny110.out] at ho5)); have n0_ := Aside0.mk (Kd.R_lower ho5 (below_size (by repeat (first | (with_reducible first | exact HB.out | apply below_alloc | apply pw_below_drewN | apply below_drew1) | exact HB.out)))); have n1_ := Aside0.mk (below_step (by repeat (first | (with_reducible first | exact HB.out | apply below_alloc | apply pw_below_drewN | apply below_drew1) | exact HB.out)) hb); clear HB; have HO112 := n0_; have HB := n1_; clear n0_ n1_; clear hb ho5))
      go_loopg [4] k (fun kq v4 w' => ∃ (x3_1 : List Int) (x4_1 : Int), v4 = .int .i64 x4_1 ∧ Aside0 (laws_toIntS.l0 kq l0 x3_1 x4_1 = some r) ∧ Aside0 (kq ≤ k) ∧ Aside0 (Kd.R (Kd.int .i64) 3 w' w.heap.size (fun _ => True) v111 x3_1) ∧ Aside0 (Below w.heap.size w w'))
      case atStart => exact ⟨(y110), (0), (by first | rfl | (simp; done) | (simp [*]; done)), H', ⟨Nat.le_refl _⟩, ⟨by (with_reducible repeat (first | apply Kd.R_alloc | apply Kd.R_drewN | apply Kd.R_drew)); exact HO112.out⟩, ⟨by repeat (first | (with_reducible first | exact HB.out | apply below_alloc | apply pw_below_drewN | apply below_drew1) | exact HB.out)⟩⟩
      case round =>
        clear H'
        try clear c1
        try clear c2
        try clear c2b0
        try clear c2b1
        try clear p2
        try clear c3
        try clear c3b0
        try clear c3b1
        obtain ⟨x3_1, x4_1, rfl, HA, HK1, HO_3, HB⟩ := hrel
        cases gk with
        | zero => exact absurd HA.out (by simp [laws_toIntS.l0])
        | succ k1 =>
          have H := HA.out
          clear HA
          simp only [laws_toIntS.l0] at H
          by_cases c6 : x4_1 < (l0.length : Int)
          · rw [if_pos c6] at H
            have c6b0 : decide (x4_1 < (l0.length : Int)) = true := decide_eq_true c6
            clear c6
            by_cases c7 : 0 ≤ x4_1
            · rw [if_pos c7] at H
              have c7b0 : decide (0 ≤ x4_1) = true := decide_eq_true c7
              clear c7
              by_cases c8 : x4_1 < (x3_1.length : Int)
              · rw [if_pos c8] at H
                have c8b0 : decide (x4_1 < (x3_1.length : Int)) = true := decide_eq_true c8
                clear c8
                obtain ⟨y114, hy114⟩ : ∃ y_ : List Int, y_ = (x3_1.set (x4_1 : Int).toNat (rd l0 x4_1)) := ⟨_, rfl⟩
                replace H : (laws_toIntS.l0 k1 l0 y114 (wrap64 (x4_1 + 1))) = some r := by first | (rw [hy114]; with_reducible exact H) | (have H2_ := (Option.bind_some _ _).symm.trans H; rw [hy114]; with_reducible exact H2_) | (have H2_ := (Option.bind_some _ _).symm.trans H; with_reducible exact H2_) | with_reducible exact H | (rw [hy114]; exact H) | exact H
                have Ny114 := Aside0.mk hy114
                clear hy114
                have H' := Aside0.mk H
                clear H
                have p113 : 0 ≤ (x4_1 : Int) := of_decide_eq_true (by first | (with_reducible assumption) | assumption)
                have q113 : x4_1 < (l0.length : Int) := of_decide_eq_true (by first | (with_reducible assumption) | assumption)
                obtain ⟨ad113, e113, hx113_0⟩ := Kd.at_int HR0.out x4_1 p113 q113
                cases e113
                replace hx113_0 := (HB.out.cell (World.block_lt_of_cell? w _ hx113_0)).trans hx113_0
                replace p113 := eq_true p113
                replace q113 := eq_true q113
                have p9 : 0 ≤ (x4_1 : Int) := of_decide_eq_true (by first | (with_reducible assumption) | assumption)
                have q9 : (x4_1 : Int) < ((x3_1.length : Int) : Int) := of_decide_eq_true (by first | (with_reducible assumption) | assumption)
                obtain ⟨go9, co9, eo9, gb9, gl9, cl9, HG9⟩ := Kd.R_form HO_3.out (by omega)
                (first | cases eo9 | (injection eo9 with ea_ en_ ec_; (first | subst ea_ | (injection ea_ with ea_; subst ea_)); subst ec_; clear en_))
                have GB9 := Aside0.mk gb9
                have GG9 := Aside0.mk HG9
                clear gb9 gl9 HG9
                obtain ⟨hx9_0, hf9_0⟩ := Kd.R_celln 0 HO_3.out (x4_1 : Int) p9 q9
                replace p9 := eq_true p9
                replace q9 := eq_true q9
                have HP10 := Kd.R_putg HO_3.out (x4_1 : Int) (rd l0 x4_1)
                go_wp2_with (first | ((with_reducible refine gate_store (t := 3) (p := 20) rfl ?_); refine store_event (t := 3) (p := 20) (v := ?vo_w11) (w1 := (wr.setCell ⟨go9, (x4_1 : Int).toNat, none⟩ (.int .i64 (rd l0 x4_1)))) ?hg ?ho ?hn ?hr ?_; (case ho => rfl); (case hg => rfl); (case hn => rfl); (case hr => first | (go_simp; done) | (go_simp; rfl)); intro w11 hw; have hg : wr.grownBy w11 (some go9) := (by rw [hw]; exact HP10.2); have hp_ : Kd.R (Kd.int .i64) 3 w11 w.heap.size (fun _ => True) (.slice (some ⟨go9, 0, none⟩) x3_1.length co9) y114 := (by rw [hw, Ny114.out]; exact HP10.1); clear HP10; have n0_ := Aside0.mk (hp_); have n1_ := Aside0.mk ((by rw [hw]; exact below_set (HB.out) GB9.out : Below w.heap.size w w11)); clear HO_3; clear HB; have HO_3 := n0_; have HB := n1_; clear n0_ n1_; clear hg hw hp_))
                go_roundg k1
                case measure => have := HK1.out; omega
                case rel => exact ⟨(y114), (wrap64 (x4_1 + 1)), (by first | rfl | (simp; done) | (simp [*]; done)), H', ⟨by have := HK1.out; omega⟩, ⟨by (with_reducible repeat (first | apply Kd.R_alloc | apply Kd.R_drewN | apply Kd.R_drew)); exact HO_3.out⟩, ⟨by repeat (first | (with_reducible first | exact HB.out | apply below_alloc | apply pw_below_drewN | apply below_drew1) | exact HB.out)⟩⟩
              · rw [if_neg c8] at H
                exact absurd H (by simp)
            · rw [if_neg c7] at H
              exact absurd H (by simp)
          · rw [if_neg c6] at H
            have c6b0 : decide (x4_1 < (l0.length : Int)) = false := decide_eq_false c6
            clear c6
            obtain rfl := Option.some.inj H
            go_wp2
            go_ret
            exact ⟨_, by first | rfl | (simp [errW_none, errW_some] <;> rfl) | (simp [*, errW_none, errW_some] <;> rfl), by (with_reducible repeat (first | apply Kd.R_alloc | apply Kd.R_drewN | apply Kd.R_drew)); exact HO_3.out, by repeat (first | (with_reducible first | exact HB.out | apply below_alloc | apply pw_below_drewN | apply below_drew1) | exact HB.out)⟩
    · rw [if_neg c3] at H
      exact absurd H (by simp)
  · rw [if_neg c2] at H
    exact absurd H (by simp)

end Go.Proofs.Ytcnejiflpioaiaa.Pf
end

section
namespace Go.Proofs.Ytcnejiflpioaiaa.Pf
open Go.RowKit Go.Proofs.YtcnejiflpioaiaaW.PrintWords Go.Proofs.YtcnejiflpioaiaaW.PrintLast Go.Proofs.YtcnejiflpioaiaaW.PrintMore
attribute [local go_sem] max2_int min2_int max_two min_two max_three min_three max_four min_four   -- for this text's walks alone
set_option linter.unusedVariables false
set_option linter.unusedSimpArgs false

/-! ### laws_markIntS: function 21 -/
def laws_markIntS.l0 : Nat → List Int → Int → Int → Option (Int × List Int)
  | 0, _, _, _ => none
  | k + 1, x0, x1, x5 => if x5 < (x0.length : Int) then (if 0 ≤ x5 then (laws_markIntS.l0 k (x0.set (x5 : Int).toNat x1) (wrap64 (x1 + 1)) (wrap64 (x5 + 1))) else (none)) else (some (x1, x0))
def laws_markIntS.f (k : Nat) (l0 : List Int) (a1 : Int) : Option (Int × List Int) := laws_markIntS.l0 k l0 a1 0
theorem laws_markIntS.mono_l : ∀ k, (∀ y0 y1 y2, LeO (laws_markIntS.l0 k y0 y1 y2) (laws_markIntS.l0 (k + 1) y0 y1 y2))
  | 0 => fun _ _ _ r h => by simp [laws_markIntS.l0] at h
  | k + 1 => by
    have ih0 := laws_markIntS.mono_l k
    · intro y0 y1 y2
      unfold laws_markIntS.l0
      repeat' first
      | (with_reducible exact ih0 _ _ _)
      | (with_reducible exact LeO.refl _)
      | (with_reducible exact LeO.none _)
      | (with_reducible refine LeO.ite ?_ ?_)
      | (with_reducible refine LeO.bind ?_ (fun _ => ?_))
      | exact ih0 _ _ _
      | exact LeO.none _
      | refine LeO.ite ?_ ?_
      | refine LeO.bind ?_ (fun _ => ?_)
theorem laws_markIntS.mono : ∀ a0 a1 k, LeO (laws_markIntS.f k a0 a1) (laws_markIntS.f (k + 1) a0 a1) := by
  intro a0 a1 k
  have ih0 := laws_markIntS.mono_l k
  unfold laws_markIntS.f
  repeat' first
      | (with_reducible exact ih0 _ _ _)
      | (with_reducible exact LeO.refl _)
      | (with_reducible exact LeO.none _)
      | (with_reducible refine LeO.ite ?_ ?_)
      | (with_reducible refine LeO.bind ?_ (fun _ => ?_))
      | exact ih0 _ _ _
      | exact LeO.none _
      | refine LeO.ite ?_ ?_
      | refine LeO.bind ?_ (fun _ => ?_)
set_option maxHeartbeats 8000000 in
set_option maxRecDepth 100000 in
theorem laws_markIntS.calls (k : Nat) (P0_ : Nat → Prop) (u9000_ : Value) (l0 : List Int) (a1 : Int) (r1 : Int) (r2 : List Int) (w0 w : World) (hB : Below w0.heap.size w0 w) (ho0 : Kd.R (Kd.int .i64) 3 w w0.heap.size P0_ u9000_ l0) (h : laws_markIntS.f k l0 a1 = some (r1, r2)) :
    Calls Try.prog 21 #[u9000_, .int .i64 a1] w fun e w' => e = .returned (.int .i64 r1) ∧ Kd.R (Kd.int .i64) 3 w' w0.heap.size (fun k_ => (P0_ k_ ∨ w.heap.size ≤ k_)) u9000_ r2 ∧ Below w0.heap.size w0 w' ∧ Kept w w' (fun k_ => P0_ k_) := by
  have HO0 := Aside0.mk (show Kd.R (Kd.int .i64) 3 w w0.heap.size (fun k_ => (P0_ k_ ∨ w.heap.size ≤ k_)) u9000_ l0 from Kd.R_mono ho0 (fun k_ hk => (.inl hk)))
  have HK := Aside0.mk (Kept.refl w (fun k_ => P0_ k_))
  have HW0 := Aside0.mk hB.size
  have HB := Aside0.mk hB
  clear hB
  have H : (laws_markIntS.l0 k l0 a1 0) = some (r1, r2) := h
  clear h
  have H' := Aside0.mk H
  clear H
  go_enter Try.func21, Try.ntmps21
  go_wp2
  go_loopg [1, 5] k (fun kq v1 v5 w' => ∃ (x0_1 : List Int) (x1_1 : Int) (x5_1 : Int), v1 = .int .i64 x1_1 ∧ v5 = .int .i64 x5_1 ∧ Aside0 (laws_markIntS.l0 kq x0_1 x1_1 x5_1 = some (r1, r2)) ∧ Aside0 (kq ≤ k) ∧ Aside0 (Kd.R (Kd.int .i64) 3 w' w0.heap.size (fun k_ => (P0_ k_ ∨ w.heap.size ≤ k_)) u9000_ x0_1) ∧ Aside0 (Kept w w' (fun k_ => P0_ k_)) ∧ Aside0 (Below w0.heap.size w0 w'))
  case atStart => exact ⟨(l0), (a1), (0), (by first | rfl | (simp; done) | (simp [*]; done)), (by first | rfl | (simp; done) | (simp [*]; done)), H', ⟨Nat.le_refl _⟩, ⟨by (with_reducible repeat (first | apply Kd.R_alloc | apply Kd.R_drewN | apply Kd.R_drew)); exact HO0.out⟩, ⟨by repeat (first | (with_reducible first | exact HK.out | apply Kept.alloc | apply Kept.drewN | apply Kept.drew) | exact HK.out)⟩, ⟨by repeat (first | (with_reducible first | exact HB.out | apply below_alloc | apply pw_below_drewN | apply below_drew1) | exact HB.out)⟩⟩
  case round =>
    clear H'
    try clear c2
    try clear p2
    obtain ⟨x0_1, x1_1, x5_1, rfl, rfl, HA, HK1, HO_0, HK, HB⟩ := hrel
    cases gk with
    | zero => exact absurd HA.out (by simp [laws_markIntS.l0])
    | succ k1 =>
      have H := HA.out
      clear HA
      simp only [laws_markIntS.l0] at H
      by_cases c3 : x5_1 < (x0_1.length : Int)
      · rw [if_pos c3] at H
        have c3b0 : decide (x5_1 < (x0_1.length : Int)) = true := decide_eq_true c3
        clear c3
        by_cases c4 : 0 ≤ x5_1
        · rw [if_pos c4] at H
          have c4b0 : decide (0 ≤ x5_1) = true := decide_eq_true c4
          clear c4
          obtain ⟨y160, hy160⟩ : ∃ y_ : List Int, y_ = (x0_1.set (x5_1 : Int).toNat x1_1) := ⟨_, rfl⟩
          replace H : (laws_markIntS.l0 k1 y160 (wrap64 (x1_1 + 1)) (wrap64 (x5_1 + 1))) = some (r1, r2) := by first | (rw [hy160]; with_reducible exact H) | (have H2_ := (Option.bind_some _ _).symm.trans H; rw [hy160]; with_reducible exact H2_) | (have H2_ := (Option.bind_some _ _).symm.trans H; with_reducible exact H2_) | with_reducible exact H | (rw [hy160]; exact H) | exact H
          have Ny160 := Aside0.mk hy160
          clear hy160
          have H' := Aside0.mk H
          clear H
          obtain ⟨Ao6, co6, eo6⟩ := Kd.R_slice HO_0.out
          subst eo6
          have p5 : 0 ≤ (x5_1 : Int) := of_decide_eq_true (by first | (with_reducible assumption) | assumption)
          have q5 : (x5_1 : Int) < ((x0_1.length : Int) : Int) := of_decide_eq_true (by first | (with_reducible assumption) | assumption)
          obtain ⟨go5, co5, eo5, gb5, gl5, cl5, HG5⟩ := Kd.R_form HO_0.out (by omega)
          (first | cases eo5 | (injection eo5 with ea_ en_ ec_; (first | subst ea_ | (injection ea_ with ea_; subst ea_)); subst ec_; clear en_))
          have GB5 := Aside0.mk gb5
          have GG5 := Aside0.mk HG5
          clear gb5 gl5 HG5
          have HMgo5 := Aside0.mk (show (P0_ go5 ∨ w.heap.size ≤ go5) from (HO_0.out.1 _ rfl))
          obtain ⟨hx5_0, hf5_0⟩ := Kd.R_celln 0 HO_0.out (x5_1 : Int) p5 q5
          replace p5 := eq_true p5
          replace q5 := eq_true q5
          have HP7 := Kd.R_putg HO_0.out (x5_1 : Int) x1_1
          go_wp2_with (first | ((with_reducible refine gate_store (t := 3) (p := 15) rfl ?_); refine store_event (t := 3) (p := 15) (v := ?vo_w8) (w1 := (wr.setCell ⟨go5, (x5_1 : Int).toNat, none⟩ (.int .i64 x1_1))) ?hg ?ho ?hn ?hr ?_; (case ho => rfl); (case hg => rfl); (case hn => rfl); (case hr => first | (go_simp; done) | (go_simp; rfl)); intro w8 hw; have hg : wr.grownBy w8 (some go5) := (by rw [hw]; exact HP7.2); have hp_ : Kd.R (Kd.int .i64) 3 w8 w0.heap.size (fun k_ => (P0_ k_ ∨ w.heap.size ≤ k_)) (.slice (some ⟨go5, 0, none⟩) x0_1.length co6) y160 := (by rw [hw, Ny160.out]; exact HP7.1); clear HP7; have n0_ := Aside0.mk (hp_); have n1_ := Aside0.mk ((by rw [hw]; exact below_set (HB.out) GB5.out : Below w0.heap.size w0 w8)); have n2_ := Aside0.mk (Kept.of_grown (S := (fun k_ => P0_ k_)) hg (by repeat (first | (with_reducible first | exact HK.out | apply Kept.alloc | apply Kept.drewN | apply Kept.drew) | exact HK.out)) (fun k_ e_ => (HO_0.out.1 k_ e_))); clear HO_0; clear HB; clear HK; have HO_0 := n0_; have HB := n1_; have HK := n2_; clear n0_ n1_ n2_; clear hg hw hp_))
          go_roundg k1
          case measure => have := HK1.out; omega
          case rel => exact ⟨(y160), (wrap64 (x1_1 + 1)), (wrap64 (x5_1 + 1)), (by first | rfl | (simp; done) | (simp [*]; done)), (by first | rfl | (simp; done) | (simp [*]; done)), H', ⟨by have := HK1.out; omega⟩, ⟨by (with_reducible repeat (first | apply Kd.R_alloc | apply Kd.R_drewN | apply Kd.R_drew)); exact HO_0.out⟩, ⟨by repeat (first | (with_reducible first | exact HK.out | apply Kept.alloc | apply Kept.drewN | apply Kept.drew) | exact HK.out)⟩, ⟨by repeat (first | (with_reducible first | exact HB.out | apply below_alloc | apply pw_below_drewN | apply below_drew1) | exact HB.out)⟩⟩
        · rw [if_neg c4] at H
          exact absurd H (by simp)
      · rw [if_neg c3] at H
        have c3b0 : decide (x5_1 < (x0_1.length : Int)) = false := decide_eq_false c3
        clear c3
        simp only [Option.some.injEq, Prod.mk.injEq] at H
        obtain ⟨rfl, rfl⟩ := H
        obtain ⟨Ao9, co9, eo9⟩ := Kd.R_slice HO_0.out
        subst eo9
        go_wp2
        go_ret
        exact ⟨by first | rfl | (simp [errW_none, errW_some] <;> rfl) | (simp [*, errW_none, errW_some] <;> rfl), by (with_reducible repeat (first | apply Kd.R_alloc | apply Kd.R_drewN | apply Kd.R_drew)); exact HO_0.out, by repeat (first | (with_reducible first | exact HB.out | apply below_alloc | apply pw_below_drewN | apply below_drew1) | exact HB.out), by repeat (first | (with_reducible first | exact HK.out | apply Kept.alloc | apply Kept.drewN | apply Kept.drew) | exact HK.out)⟩

end Go.Proofs.Ytcnejiflpioaiaa.Pf
end

section
namespace Go.Proofs.Ytcnejiflpioaiaa.Pf
open Go.RowKit Go.Proofs.YtcnejiflpioaiaaW.PrintWords Go.Proofs.YtcnejiflpioaiaaW.PrintLast Go.Proofs.YtcnejiflpioaiaaW.PrintMore
attribute [local go_sem] max2_int min2_int max_two min_two max_three min_three max_four min_four   -- for this text's walks alone
set_option linter.unusedVariables false
set_option linter.unusedSimpArgs false

/-! ### laws_heldIntS: function 22 -/
def laws_heldIntS.l0 : Nat → List Int → Int → Int → Option (Int)
  | 0, _, _, _ => none
  | k + 1, x0, x1, x5 => if x5 < (x0.length : Int) then (if 0 ≤ x5 then (if (rd x0 x5) = x1 then (laws_heldIntS.l0 k x0 (wrap64 (x1 + 1)) (wrap64 (x5 + 1))) else (some (-1))) else (none)) else (some x1)
def laws_heldIntS.f (k : Nat) (l0 : List Int) (a1 : Int) : Option (Int) := laws_heldIntS.l0 k l0 a1 0
theorem laws_heldIntS.mono_l : ∀ k, (∀ y0 y1 y2, LeO (laws_heldIntS.l0 k y0 y1 y2) (laws_heldIntS.l0 (k + 1) y0 y1 y2))
  | 0 => fun _ _ _ r h => by simp [laws_heldIntS.l0] at h
  | k + 1 => by
    have ih0 := laws_heldIntS.mono_l k
    · intro y0 y1 y2
      unfold laws_heldIntS.l0
      repeat' first
      | (with_reducible exact ih0 _ _ _)
      | (with_reducible exact LeO.refl _)
      | (with_reducible exact LeO.none _)
      | (with_reducible refine LeO.ite ?_ ?_)
      | (with_reducible refine LeO.bind ?_ (fun _ => ?_))
      | exact ih0 _ _ _
      | exact LeO.none _
      | refine LeO.ite ?_ ?_
      | refine LeO.bind ?_ (fun _ => ?_)
theorem laws_heldIntS.mono : ∀ a0 a1 k, LeO (laws_heldIntS.f k a0 a1) (laws_heldIntS.f (k + 1) a0 a1) := by
  intro a0 a1 k
  have ih0 := laws_heldIntS.mono_l k
  unfold laws_heldIntS.f
  repeat' first
      | (with_reducible exact ih0 _ _ _)
      | (with_reducible exact LeO.refl _)
      | (with_reducible exact LeO.none _)
      | (with_reducible refine LeO.ite ?_ ?_)
      | (with_reducible refine LeO.bind ?_ (fun _ => ?_))
      | exact ih0 _ _ _
      | exact LeO.none _
      | refine LeO.ite ?_ ?_
      | refine LeO.bind ?_ (fun _ => ?_)
set_option maxHeartbeats 8000000 in
set_option maxRecDepth 100000 in
theorem laws_heldIntS.calls (k : Nat) (A0 : Option Addr) (c0 : Nat) (l0 : List Int) (a1 : Int) (r : Int) (w : World) (hr0 : Kd.C (Kd.int .i64) w A0 l0.length l0) (hc0 : l0.length ≤ c0) (h : laws_heldIntS.f k l0 a1 = some r) :
    Calls Try.prog 22 #[.slice A0 l0.length c0, .int .i64 a1] w fun e w' => e = .returned (.int .i64 r) ∧ Drawn0 w w' := by
  have HR0 := Aside0.mk hr0
  have HC0 := Aside0.mk hc0
  clear hr0 hc0
  have H : (laws_heldIntS.l0 k l0 a1 0) = some r := h
  clear h
  have H' := Aside0.mk H
  clear H
  go_enter Try.func22, Try.ntmps22
  go_wp2
  go_loopg [1, 5] k (fun kq v1 v5 w' => ∃ (x1_1 : Int) (x5_1 : Int), v1 = .int .i64 x1_1 ∧ v5 = .int .i64 x5_1 ∧ Aside0 (laws_heldIntS.l0 kq l0 x1_1 x5_1 = some r) ∧ Aside0 (kq ≤ k) ∧ Drawn0 w w')
  case atStart => exact ⟨(a1), (0), (by first | rfl | (simp; done) | (simp [*]; done)), (by first | rfl | (simp; done) | (simp [*]; done)), H', ⟨Nat.le_refl _⟩, by repeat (first | exact Drawn0.refl _ | apply Drawn0.step)⟩
  case round =>
    clear H'
    try clear c2
    try clear p2
    obtain ⟨x1_1, x5_1, rfl, rfl, HA, HK1, ⟨m1, rfl⟩⟩ := hrel
    cases gk with
    | zero => exact absurd HA.out (by simp [laws_heldIntS.l0])
    | succ k1 =>
      have H := HA.out
      clear HA
      simp only [laws_heldIntS.l0] at H
      by_cases c3 : x5_1 < (l0.length : Int)
      · rw [if_pos c3] at H
        have c3b0 : decide (x5_1 < (l0.length : Int)) = true := decide_eq_true c3
        clear c3
        by_cases c4 : 0 ≤ x5_1
        · rw [if_pos c4] at H
          have c4b0 : decide (0 ≤ x5_1) = true := decide_eq_true c4
          clear c4
          by_cases c5 : (rd l0 x5_1) = x1_1
          · rw [if_pos c5] at H
            have c5b0 : ((rd l0 x5_1) == x1_1) = true := beq_iff_eq.mpr c5
            have c5b1 : ((rd l0 x5_1) != x1_1) = false := bne_eq_false_iff_eq.mpr c5
            clear c5
            have H' := Aside0.mk H
            clear H
            have p161 : 0 ≤ (x5_1 : Int) := of_decide_eq_true (by first | (with_reducible assumption) | assumption)
            have q161 : x5_1 < (l0.length : Int) := of_decide_eq_true (by first | (with_reducible assumption) | assumption)
            obtain ⟨ad161, e161, hx161_0⟩ := Kd.at_int HR0.out x5_1 p161 q161
            cases e161
            replace p161 := eq_true p161
            replace q161 := eq_true q161
            go_wp2
            go_roundg k1
            case measure => have := HK1.out; omega
            case rel => exact ⟨(wrap64 (x1_1 + 1)), (wrap64 (x5_1 + 1)), (by first | rfl | (simp; done) | (simp [*]; done)), (by first | rfl | (simp; done) | (simp [*]; done)), H', ⟨by have := HK1.out; omega⟩, by repeat (first | exact Drawn0.refl _ | apply Drawn0.step)⟩
          · rw [if_neg c5] at H
            have c5b0 : ((rd l0 x5_1) == x1_1) = false := beq_eq_false_iff_ne.mpr c5
            have c5b1 : ((rd l0 x5_1) != x1_1) = true := bne_iff_ne.mpr c5
            obtain rfl := Option.some.inj H
            have p161 : 0 ≤ (x5_1 : Int) := of_decide_eq_true (by first | (with_reducible assumption) | assumption)
            have q161 : x5_1 < (l0.length : Int) := of_decide_eq_true (by first | (with_reducible assumption) | assumption)
            obtain ⟨ad161, e161, hx161_0⟩ := Kd.at_int HR0.out x5_1 p161 q161
            cases e161
            replace p161 := eq_true p161
            replace q161 := eq_true q161
            go_wp2
            go_ret
            exact ⟨by first | rfl | (simp; done) | (simp [*]; done), by repeat (first | exact Drawn0.refl _ | apply Drawn0.step)⟩
        · rw [if_neg c4] at H
          exact absurd H (by simp)
      · rw [if_neg c3] at H
        have c3b0 : decide (x5_1 < (l0.length : Int)) = false := decide_eq_false c3
        clear c3
        obtain rfl := Option.some.inj H
        go_wp2
        go_ret
        exact ⟨by first | rfl | (simp; done) | (simp [*]; done), by repeat (first | exact Drawn0.refl _ | apply Drawn0.step)⟩

end Go.Proofs.Ytcnejiflpioaiaa.Pf
end

section
/- What is proved here: what the laws' own helpers over lists of whole numbers answer (equal lists are equal, a marked list holds its marks, a copy is the list). No conditions but that a list is no longer than a Go slice can be. -/
set_option linter.unusedVariables false
set_option linter.unusedSimpArgs false
namespace Go.Proofs.Ytcnejiflpioaiaa.Ints
open Go.RowKit Go.Proofs.Ytcnejiflpioaiaa.Pf Go.Proofs.YtcnejiflpioaiaaW.PrintWords

theorem wrap_in {i : Int} (h0 : -9223372036854775808 ≤ i) (h : i ≤ 9223372036854775807) : wrap64 i = i := by
  unfold wrap64; omega

theorem eqIntS_l0 (xs : List Int) (hn : xs.length ≤ 9223372036854775807) (d : Nat) : ∀ (i : Int) (k : Nat), 0 ≤ i → (xs.length : Int) - i = d → d < k → laws_eqIntS.l0 k xs xs i = some true := by
  induction d with
  | zero =>
    intro i k h0 hd hk
    obtain ⟨k, rfl⟩ : ∃ m, k = m + 1 := ⟨k - 1, by omega⟩
    simp only [laws_eqIntS.l0]
    rw [if_neg (by omega)]
  | succ d ih =>
    intro i k h0 hd hk
    obtain ⟨k, rfl⟩ : ∃ m, k = m + 1 := ⟨k - 1, by omega⟩
    simp only [laws_eqIntS.l0]
    rw [if_pos (by omega), if_pos h0, if_pos (by omega), wrap_in (by omega) (by omega), if_pos trivial]
    exact ih (i + 1) k (by omega) (by omega) (by omega)

theorem eqIntS_same (xs : List Int) (hn : xs.length ≤ 9223372036854775807) (k : Nat) (hk : xs.length < k) : laws_eqIntS.f k xs xs = some true := by
  unfold laws_eqIntS.f
  rw [if_pos rfl]
  exact eqIntS_l0 xs hn xs.length 0 k (by omega) (by omega) hk

def marks (m : Int) (n : Nat) : List Int := (List.range n).map fun j : Nat => m + (j : Int)
theorem marks_length (m : Int) (n : Nat) : (marks m n).length = n := by simp [marks]
theorem marks_succ (m : Int) (n : Nat) : marks m (n + 1) = marks m n ++ [m + (n : Int)] := by simp [marks, List.range_succ]
theorem marks_get (m : Int) (n i : Nat) (h : i < n) : rd (marks m n) (i : Int) = m + (i : Int) := by
  unfold rd
  rw [Int.toNat_natCast, List.getD_eq_getElem?_getD, List.getElem?_eq_getElem (by rw [marks_length]; exact h)]
  simp [marks]

theorem markIntS_l0 (m : Int) (hm : 0 ≤ m) (hm2 : m ≤ 4611686018427387903) (ys : List Int) : ∀ (i k : Nat), i + ys.length ≤ 4611686018427387904 → ys.length < k →
    laws_markIntS.l0 k (marks m i ++ ys) (m + (i : Int)) (i : Int) = some (m + ((i + ys.length : Nat) : Int), marks m (i + ys.length)) := by
  induction ys with
  | nil =>
    intro i k hi hk
    obtain ⟨k, rfl⟩ : ∃ m, k = m + 1 := ⟨k - 1, by omega⟩
    simp only [laws_markIntS.l0]
    rw [if_neg (by simp [marks_length])]
    simp
  | cons y ys ih =>
    intro i k hi hk
    simp only [List.length_cons] at hi hk
    obtain ⟨k, rfl⟩ : ∃ m, k = m + 1 := ⟨k - 1, by omega⟩
    simp only [laws_markIntS.l0]
    rw [if_pos (by simp [marks_length]; omega), if_pos (by omega), Int.toNat_natCast, wrap_in (by omega) (by omega), wrap_in (by omega) (by omega)]
    have hs : (marks m i ++ y :: ys).set i (m + (i : Int)) = marks m (i + 1) ++ ys := by
      rw [List.set_append_right _ _ (by simp [marks_length])]
      simp [marks_length, marks_succ]
    rw [hs]
    have h := ih (i + 1) k (by omega) (by omega)
    rw [show m + (i : Int) + 1 = m + ((i + 1 : Nat) : Int) by omega, show (i : Int) + 1 = ((i + 1 : Nat) : Int) by omega, h]
    simp only [List.length_cons, Option.some.injEq, Prod.mk.injEq]
    rw [show i + 1 + ys.length = i + (ys.length + 1) by omega]
    exact ⟨rfl, rfl⟩

theorem markIntS_f (m : Int) (hm : 0 ≤ m) (hm2 : m ≤ 4611686018427387903) (ys : List Int) (hn : ys.length ≤ 4611686018427387904) (k : Nat) (hk : ys.length < k) :
    laws_markIntS.f k ys m = some (m + (ys.length : Int), marks m ys.length) := by
  unfold laws_markIntS.f
  have h := markIntS_l0 m hm hm2 ys 0 k (by omega) hk
  simpa [marks] using h

theorem heldIntS_l0 (m : Int) (hm : 0 ≤ m) (hm2 : m ≤ 4611686018427387903) (n : Nat) (hn : n ≤ 4611686018427387904) (d : Nat) : ∀ (i k : Nat), i + d = n → d < k →
    laws_heldIntS.l0 k (marks m n) (m + (i : Int)) (i : Int) = some (m + (n : Int)) := by
  induction d with
  | zero =>
    intro i k hi hk
    obtain ⟨k, rfl⟩ : ∃ m, k = m + 1 := ⟨k - 1, by omega⟩
    simp only [laws_heldIntS.l0]
    rw [if_neg (by rw [marks_length]; omega)]
    rw [show i = n by omega]
  | succ d ih =>
    intro i k hi hk
    obtain ⟨k, rfl⟩ : ∃ m, k = m + 1 := ⟨k - 1, by omega⟩
    simp only [laws_heldIntS.l0]
    rw [if_pos (by rw [marks_length]; omega), if_pos (by omega), if_pos (marks_get m n i (by omega)), wrap_in (by omega) (by omega), wrap_in (by omega) (by omega)]
    have h := ih (i + 1) k (by omega) (by omega)
    rw [show m + (i : Int) + 1 = m + ((i + 1 : Nat) : Int) by omega, show (i : Int) + 1 = ((i + 1 : Nat) : Int) by omega, h]

theorem heldIntS_f (m : Int) (hm : 0 ≤ m) (hm2 : m ≤ 4611686018427387903) (n : Nat) (hn : n ≤ 4611686018427387904) (k : Nat) (hk : n < k) :
    laws_heldIntS.f k (marks m n) m = some (m + (n : Int)) := by
  unfold laws_heldIntS.f
  have h := heldIntS_l0 m hm hm2 n hn n 0 k (by omega) hk
  simpa using h
theorem toIntS_l0 (xs : List Int) (hn : xs.length ≤ 9223372036854775807) (d : Nat) : ∀ (i k : Nat), i + d = xs.length → d < k →
    laws_toIntS.l0 k xs (xs.take i ++ List.replicate d 0) (i : Int) = some xs := by
  induction d with
  | zero =>
    intro i k hi hk
    obtain ⟨k, rfl⟩ : ∃ m, k = m + 1 := ⟨k - 1, by omega⟩
    simp only [laws_toIntS.l0]
    rw [if_neg (by omega)]
    rw [List.take_of_length_le (by omega)]
    simp
  | succ d ih =>
    intro i k hi hk
    obtain ⟨k, rfl⟩ : ∃ m, k = m + 1 := ⟨k - 1, by omega⟩
    simp only [laws_toIntS.l0]
    rw [if_pos (by omega), if_pos (by omega), if_pos (by simp; omega), Int.toNat_natCast, wrap_in (by omega) (by omega)]
    have hs : (xs.take i ++ List.replicate (d + 1) 0).set i (rd xs (i : Int)) = xs.take (i + 1) ++ List.replicate d 0 := by
      rw [List.set_append_right _ _ (by simp; omega)]
      have h1 : i < xs.length := by omega
      rw [List.take_succ_eq_append_getElem h1, List.length_take, Nat.min_eq_left (by omega), Nat.sub_self, List.replicate_succ, List.set_cons_zero]
      unfold rd
      rw [Int.toNat_natCast, List.getD_eq_getElem?_getD, List.getElem?_eq_getElem h1, Option.getD_some, List.append_assoc, List.singleton_append]
    rw [hs, show (i : Int) + 1 = ((i + 1 : Nat) : Int) by omega]
    exact ih (i + 1) k (by omega) (by omega)

theorem toIntS_f (xs : List Int) (hn : xs.length ≤ 35184372088832) (k : Nat) (hk : xs.length < k) : laws_toIntS.f k xs = some xs := by
  unfold laws_toIntS.f
  rw [if_pos (by omega), Int.toNat_natCast, if_pos hn]
  have h := toIntS_l0 xs (by omega) xs.length 0 k (by omega) hk
  simpa using h
end Go.Proofs.Ytcnejiflpioaiaa.Ints
end

section
/- What is proved here: what scalars and PolyAt and PolyTrim answer, of the program and of the reference alike, as plain functions on lists. No conditions but that a list fits into memory. -/
set_option linter.unusedVariables false
set_option linter.unusedSimpArgs false
namespace Go.Proofs.Ytcnejiflpioaiaa.Poly
open Go.RowKit Go.Proofs.Ytcnejiflpioaiaa.Pf Go.Proofs.YtcnejiflpioaiaaW.PrintWords Go.Proofs.Ytcnejiflpioaiaa.Ints

theorem tmod_two (n : Int) (m : Int) (hm : 0 < m) : Int.tmod n m = n % m ∨ (Int.tmod n m = n % m - m ∧ n % m ≠ 0) := by
  rw [Int.tmod_eq_emod]
  split
  · left; omega
  · rename_i h
    right
    refine ⟨by omega, fun e => h (Or.inr (Int.dvd_of_emod_eq_zero e))⟩

theorem Ev.one {α : Type} {g : Nat → Option α} {r : α} (h : ∀ k, g (k + 1) = some r) : Ev g r :=
  ⟨1, fun k hk => by obtain ⟨k, rfl⟩ : ∃ m, k = m + 1 := ⟨k - 1, by omega⟩; exact h k⟩

theorem mul_bound (a b : Int) : 0 ≤ (a % 1009) * (b % 1009) ∧ (a % 1009) * (b % 1009) ≤ 1016064 := by
  have h1 : 0 ≤ a % 1009 := Int.emod_nonneg _ (by decide)
  have h2 : 0 ≤ b % 1009 := Int.emod_nonneg _ (by decide)
  have h3 : a % 1009 ≤ 1008 := by omega
  have h4 : b % 1009 ≤ 1008 := by omega
  refine ⟨Int.mul_nonneg h1 h2, ?_⟩
  have := Int.mul_le_mul h3 h4 h2 (by decide)
  omega

theorem rd_nat (xs : List Int) (n : Nat) (h : n < xs.length) : rd xs (n : Int) = xs[n] := by
  unfold rd
  rw [Int.toNat_natCast, List.getD_eq_getElem?_getD, List.getElem?_eq_getElem h, Option.getD_some]

/-- the value of a polynomial, from the last number on -/
def pat (xs : List Int) (x : Int) : Int := xs.foldr (fun c acc => (acc * x + c) % 1009) 0
/-- without noughts at its end -/
def cut (xs : List Int) : List Int := (xs.reverse.dropWhile (fun c => decide (c = 0))).reverse
def trim (xs : List Int) : List Int := cut (xs.map (· % 1009))
theorem cut_nil : cut [] = [] := rfl
theorem cut_zero (xs : List Int) : cut (xs ++ [0]) = cut xs := by simp [cut]
theorem cut_other (xs : List Int) (c : Int) (h : c ≠ 0) : cut (xs ++ [c]) = xs ++ [c] := by simp [cut, h]
theorem cut_length (xs : List Int) : (cut xs).length ≤ xs.length := by
  unfold cut
  rw [List.length_reverse]
  have := (List.dropWhile_suffix (fun c : Int => decide (c = 0)) (l := xs.reverse)).length_le
  simpa using this
theorem trim_length (xs : List Int) : (trim xs).length ≤ xs.length := by
  have := cut_length (xs.map (· % 1009))
  simpa [trim] using this

theorem impl_ScOf_eq (n : Int) : impl_ScOf.f n = some (n % 1009) := by
  unfold impl_ScOf.f impl_remainder.f
  rw [if_neg (by decide)]
  rcases tmod_two n 1009 (by decide) with h | ⟨h, h2⟩
  · rw [h, if_neg (by omega)]; rfl
  · rw [h, if_pos (by omega), wrap_in (by omega) (by omega)]
    simp
theorem impl_ScAdd_eq (a b : Int) : impl_ScAdd.f a b = some ((a + b) % 1009) := by
  simp only [impl_ScAdd.f, impl_ScOf_eq, Option.bind_some]
  rw [wrap_in (by omega) (by omega)]
  simp only [Option.some.injEq]
  omega
theorem impl_ScMul_eq (a b : Int) : impl_ScMul.f a b = some ((a * b) % 1009) := by
  have h := mul_bound a b
  simp only [impl_ScMul.f, impl_ScOf_eq, Option.bind_some]
  rw [wrap_in (by omega) (by omega), ← Int.mul_emod]

theorem impl_PolyAt_l0 (xs : List Int) (x : Int) (hl : xs.length ≤ 9223372036854775807) : ∀ n, n ≤ xs.length → Ev (fun k => impl_PolyAt.l0 k xs x (pat (xs.drop n) x) ((n : Int) - 1)) (pat xs x)
  | 0, _ => Ev.one fun k => by
    simp only [impl_PolyAt.l0]
    rw [if_neg (by omega)]
    simp
  | n + 1, hn => by
    refine Ev.step (fun k => ?_) (impl_PolyAt_l0 xs x hl n (by omega))
    have h1 : n < xs.length := by omega
    simp only [impl_PolyAt.l0]
    rw [show ((n + 1 : Nat) : Int) - 1 = (n : Int) by omega, if_pos (by omega), impl_ScMul_eq, Option.bind_some, if_pos (by omega), if_pos (by omega), impl_ScAdd_eq, Option.bind_some, wrap_in (by omega) (by omega), rd_nat xs n h1]
    congr 1
    rw [List.drop_eq_getElem_cons h1]
    simp only [pat, List.foldr_cons]
    omega
theorem impl_PolyAt_ev (xs : List Int) (x : Int) (hl : xs.length ≤ 9223372036854775807) : Ev (fun k => impl_PolyAt.f k xs x) (pat xs x) := by
  have h := impl_PolyAt_l0 xs x hl xs.length (Nat.le_refl _)
  rw [List.drop_length] at h
  simp only [impl_PolyAt.f]
  rw [wrap_in (by omega) (by omega)]
  exact h

theorem impl_PolyTrim_l1 : ∀ (n : Nat) (xs : List Int), xs.length = n → n ≤ 9223372036854775807 → Ev (fun k => impl_PolyTrim.l1 k xs) (cut xs)
  | 0, xs, h, _ => Ev.one fun k => by
    obtain rfl : xs = [] := List.eq_nil_of_length_eq_zero h
    simp only [impl_PolyTrim.l1]
    rw [if_neg (by simp)]
    rfl
  | n + 1, xs, h, hn => by
    obtain ⟨ys, c, rfl⟩ : ∃ ys c, xs = ys ++ [c] := ⟨xs.dropLast, xs.getLast (by intro e; simp [e] at h), (List.dropLast_concat_getLast _).symm⟩
    rw [List.length_append, List.length_singleton] at h
    have hy : ys.length = n := by omega
    have hr : rd (ys ++ [c]) (n : Int) = c := by rw [rd_nat _ n (by simp <;> omega)]; simp [← hy]
    have hw : wrap64 ((((ys ++ [c]).length : Nat) : Int) - 1) = (n : Int) := by rw [wrap_in (by simp <;> omega) (by simp <;> omega)]; simp; omega
    by_cases hc : c = 0
    · subst hc
      rw [cut_zero]
      refine Ev.step (fun k => ?_) (impl_PolyTrim_l1 n ys hy (by omega))
      simp only [impl_PolyTrim.l1]
      rw [hw, if_pos (by simp <;> omega), if_pos (by omega), if_pos (by simp <;> omega), hr, if_pos rfl, if_pos (by simp <;> omega), Int.toNat_natCast, ← hy, List.take_left]
    · rw [cut_other ys c hc]
      refine Ev.one fun k => ?_
      simp only [impl_PolyTrim.l1]
      rw [hw, if_pos (by simp <;> omega), if_pos (by omega), if_pos (by simp <;> omega), hr, if_neg hc]

theorem impl_PolyTrim_l0 (xs : List Int) (hl : xs.length ≤ 17592186044416) (d : Nat) : ∀ i, i + d = xs.length → Ev (fun k => impl_PolyTrim.l0 k ((xs.take i).map (· % 1009)) xs (xs.length : Int) (i : Int)) (trim xs) := by
  induction d with
  | zero =>
    intro i hi
    refine Ev.step (fun k => ?_) (impl_PolyTrim_l1 _ (xs.map (· % 1009)) rfl (by simp <;> omega))
    simp only [impl_PolyTrim.l0]
    rw [if_neg (by omega), List.take_of_length_le (by omega)]
  | succ d ih =>
    intro i hi
    have h1 : i < xs.length := by omega
    refine Ev.step (fun k => ?_) (ih (i + 1) (by omega))
    simp only [impl_PolyTrim.l0]
    rw [if_pos (by omega), if_pos (by omega), if_pos (by omega), impl_ScOf_eq, Option.bind_some, if_pos (by simp <;> omega), wrap_in (by omega) (by omega), rd_nat xs i h1, List.take_succ_eq_append_getElem h1, List.map_append]
    rfl
theorem impl_PolyTrim_ev (xs : List Int) (hl : xs.length ≤ 17592186044416) : Ev (fun k => impl_PolyTrim.f k xs) (trim xs) := impl_PolyTrim_l0 xs hl xs.length 0 (by omega)

theorem spec_ScOf_eq (n : Int) : spec_ScOf.f n = some (n % 1009) := by
  unfold spec_ScOf.f
  rcases tmod_two n 1009 (by decide) with h | ⟨h, h2⟩
  · rw [h, if_neg (by omega)]
  · rw [h, if_pos (by omega), wrap_in (by omega) (by omega)]
    simp
theorem spec_ScAdd_eq (a b : Int) : spec_ScAdd.f a b = some ((a + b) % 1009) := by
  simp only [spec_ScAdd.f, spec_ScOf_eq, Option.bind_some]
  rw [wrap_in (by omega) (by omega)]
  simp only [Option.some.injEq]
  omega
theorem spec_ScMul_eq (a b : Int) : spec_ScMul.f a b = some ((a * b) % 1009) := by
  have h := mul_bound a b
  simp only [spec_ScMul.f, spec_ScOf_eq, Option.bind_some]
  rw [wrap_in (by omega) (by omega), ← Int.mul_emod]

theorem spec_PolyAt_l0 (xs : List Int) (x : Int) (hl : xs.length ≤ 9223372036854775807) : ∀ n, n ≤ xs.length → Ev (fun k => spec_PolyAt.l0 k xs x (pat (xs.drop n) x) ((n : Int) - 1)) (pat xs x)
  | 0, _ => Ev.one fun k => by
    simp only [spec_PolyAt.l0]
    rw [if_neg (by omega)]
    simp
  | n + 1, hn => by
    refine Ev.step (fun k => ?_) (spec_PolyAt_l0 xs x hl n (by omega))
    have h1 : n < xs.length := by omega
    simp only [spec_PolyAt.l0]
    rw [show ((n + 1 : Nat) : Int) - 1 = (n : Int) by omega, if_pos (by omega), spec_ScMul_eq, Option.bind_some, if_pos (by omega), if_pos (by omega), spec_ScAdd_eq, Option.bind_some, wrap_in (by omega) (by omega), rd_nat xs n h1]
    congr 1
    rw [List.drop_eq_getElem_cons h1]
    simp only [pat, List.foldr_cons]
    omega
theorem spec_PolyAt_ev (xs : List Int) (x : Int) (hl : xs.length ≤ 9223372036854775807) : Ev (fun k => spec_PolyAt.f k xs x) (pat xs x) := by
  have h := spec_PolyAt_l0 xs x hl xs.length (Nat.le_refl _)
  rw [List.drop_length] at h
  simp only [spec_PolyAt.f]
  rw [wrap_in (by omega) (by omega)]
  exact h

theorem spec_PolyTrim_l1 : ∀ (n : Nat) (xs : List Int), xs.length = n → n ≤ 9223372036854775807 → Ev (fun k => spec_PolyTrim.l1 k xs) (cut xs)
  | 0, xs, h, _ => Ev.one fun k => by
    obtain rfl : xs = [] := List.eq_nil_of_length_eq_zero h
    simp only [spec_PolyTrim.l1]
    rw [if_neg (by simp)]
    rfl
  | n + 1, xs, h, hn => by
    obtain ⟨ys, c, rfl⟩ : ∃ ys c, xs = ys ++ [c] := ⟨xs.dropLast, xs.getLast (by intro e; simp [e] at h), (List.dropLast_concat_getLast _).symm⟩
    rw [List.length_append, List.length_singleton] at h
    have hy : ys.length = n := by omega
    have hr : rd (ys ++ [c]) (n : Int) = c := by rw [rd_nat _ n (by simp <;> omega)]; simp [← hy]
    have hw : wrap64 ((((ys ++ [c]).length : Nat) : Int) - 1) = (n : Int) := by rw [wrap_in (by simp <;> omega) (by simp <;> omega)]; simp; omega
    by_cases hc : c = 0
    · subst hc
      rw [cut_zero]
      refine Ev.step (fun k => ?_) (spec_PolyTrim_l1 n ys hy (by omega))
      simp only [spec_PolyTrim.l1]
      rw [hw, if_pos (by simp <;> omega), if_pos (by omega), if_pos (by simp <;> omega), hr, if_pos rfl, if_pos (by simp <;> omega), Int.toNat_natCast, ← hy, List.take_left]
    · rw [cut_other ys c hc]
      refine Ev.one fun k => ?_
      simp only [spec_PolyTrim.l1]
      rw [hw, if_pos (by simp <;> omega), if_pos (by omega), if_pos (by simp <;> omega), hr, if_neg hc]

theorem spec_PolyTrim_l0 (xs : List Int) (hl : xs.length ≤ 17592186044416) (d : Nat) : ∀ i, i + d = xs.length → Ev (fun k => spec_PolyTrim.l0 k xs ((xs.take i).map (· % 1009)) (i : Int)) (trim xs) := by
  induction d with
  | zero =>
    intro i hi
    refine Ev.step (fun k => ?_) (spec_PolyTrim_l1 _ (xs.map (· % 1009)) rfl (by simp <;> omega))
    simp only [spec_PolyTrim.l0]
    rw [if_neg (by omega), List.take_of_length_le (by omega)]
  | succ d ih =>
    intro i hi
    have h1 : i < xs.length := by omega
    refine Ev.step (fun k => ?_) (ih (i + 1) (by omega))
    simp only [spec_PolyTrim.l0]
    rw [if_pos (by omega), if_pos (by omega), spec_ScOf_eq, Option.bind_some, if_pos (by simp <;> omega), wrap_in (by omega) (by omega), rd_nat xs i h1, List.take_succ_eq_append_getElem h1, List.map_append]
    rfl
theorem spec_PolyTrim_ev (xs : List Int) (hl : xs.length ≤ 17592186044416) : Ev (fun k => spec_PolyTrim.f k xs) (trim xs) := spec_PolyTrim_l0 xs hl xs.length 0 (by omega)
end Go.Proofs.Ytcnejiflpioaiaa.Poly
end

section
/- What is proved here: what PolyAdd answers, of the program and of the reference alike: the sums place by place, trimmed. No conditions but that a list fits into memory. -/
set_option linter.unusedVariables false
set_option linter.unusedSimpArgs false
namespace Go.Proofs.Ytcnejiflpioaiaa.Poly
open Go.RowKit Go.Proofs.Ytcnejiflpioaiaa.Pf Go.Proofs.YtcnejiflpioaiaaW.PrintWords Go.Proofs.Ytcnejiflpioaiaa.Ints

/-- the number at a place, 0 behind the end -/
def at_ (xs : List Int) (i : Nat) : Int := xs.getD i 0
theorem at_lt {xs : List Int} {i : Nat} (h : i < xs.length) : at_ xs i = xs[i] := by simp [at_, h]
theorem at_ge {xs : List Int} {i : Nat} (h : xs.length ≤ i) : at_ xs i = 0 := by simp [at_, h]
theorem rd_at (xs : List Int) (i : Nat) : rd xs (i : Int) = at_ xs i := by simp [rd, at_]
theorem ext_at {xs ys : List Int} (hl : xs.length = ys.length) (h : ∀ i, i < xs.length → at_ xs i = at_ ys i) : xs = ys := by
  apply List.ext_getElem hl
  intro i h1 h2
  have := h i h1
  rwa [at_lt h1, at_lt h2] at this
theorem at_set (xs : List Int) (i j : Nat) (x : Int) (h : i < xs.length) : at_ (xs.set i x) j = if j = i then x else at_ xs j := by
  unfold at_
  rw [List.getD_eq_getElem?_getD, List.getD_eq_getElem?_getD, List.getElem?_set]
  by_cases hj : i = j
  · subst hj; simp [h]
  · simp [hj, show ¬ j = i from fun e => hj e.symm]
/-- a list by its numbers -/
def tab (n : Nat) (f : Nat → Int) : List Int := (List.range n).map f
theorem tab_length (n : Nat) (f : Nat → Int) : (tab n f).length = n := by simp [tab]
theorem tab_at (n : Nat) (f : Nat → Int) (i : Nat) (h : i < n) : at_ (tab n f) i = f i := by simp [at_, tab, h]
theorem eq_tab {xs : List Int} {n : Nat} {f : Nat → Int} (hl : xs.length = n) (h : ∀ i, i < n → at_ xs i = f i) : xs = tab n f :=
  ext_at (by rw [hl, tab_length]) (fun i hi => by rw [h i (by omega), tab_at n f i (by omega)])
theorem tab_congr {n : Nat} {f g : Nat → Int} (h : ∀ i, i < n → f i = g i) : tab n f = tab n g := eq_tab (tab_length _ _) (fun i hi => by rw [tab_at n f i hi, h i hi])
theorem tab_set (n : Nat) (f : Nat → Int) (i : Nat) (x : Int) (h : i < n) : (tab n f).set i x = tab n (fun j => if j = i then x else f j) :=
  eq_tab (by simp [tab_length]) (fun j hj => by rw [at_set _ _ _ _ (by rw [tab_length]; exact h), tab_at n f j hj])
theorem replicate_tab (n : Nat) : List.replicate n (0 : Int) = tab n (fun _ => 0) := eq_tab (by simp) (fun i hi => by simp [at_, hi])
def padd (xs ys : List Int) : List Int := trim (tab (max xs.length ys.length) (fun i => (at_ xs i + at_ ys i) % 1009))
theorem map_tab (n : Nat) (f : Nat → Int) (g : Int → Int) : (tab n f).map g = tab n (fun i => g (f i)) := by simp [tab, Function.comp_def]
theorem at_emod (xs : List Int) (i : Nat) : at_ (xs.map (· % 1009)) i = at_ xs i % 1009 := by
  by_cases h : i < xs.length
  · rw [at_lt (by simpa using h), at_lt h]; simp
  · rw [at_ge (by simp; omega), at_ge (by omega)]; rfl

theorem impl_PolyAdd_l1 (xs ys : List Int) (n : Nat) (hn : n = max xs.length ys.length) (hl : n ≤ 17592186044416) (d : Nat) : ∀ i, i + d = ys.length →
    Ev (fun k => impl_PolyAdd.l1 k (tab n (fun j => (at_ xs j + if j < i then at_ ys j else 0) % 1009)) ys (ys.length : Int) (i : Int)) (padd xs ys) := by
  induction d with
  | zero =>
    intro i hi
    obtain rfl : i = ys.length := by omega
    have e : tab n (fun j => (at_ xs j + if j < ys.length then at_ ys j else 0) % 1009) = tab n (fun j => (at_ xs j + at_ ys j) % 1009) :=
      tab_congr (fun j _ => by
        by_cases h : j < ys.length
        · rw [if_pos h]
        · rw [if_neg h, at_ge (xs := ys) (by omega)])
    refine Ev.step (fun k => ?_) (impl_PolyTrim_ev (tab n (fun j => (at_ xs j + at_ ys j) % 1009)) (by rw [tab_length]; exact hl) |> fun h => by rw [hn] at h; exact h)
    simp only [impl_PolyAdd.l1]
    rw [if_neg (by omega), e, hn]
    cases impl_PolyTrim.f k (tab (max xs.length ys.length) fun j => (at_ xs j + at_ ys j) % 1009) <;> rfl
  | succ d ih =>
    intro i hi
    have h1 : i < ys.length := by omega
    have h2 : i < n := by omega
    refine Ev.step (fun k => ?_) (ih (i + 1) (by omega))
    simp only [impl_PolyAdd.l1]
    rw [if_pos (by omega), if_pos (by omega), if_pos (by omega), if_pos (by rw [tab_length]; omega), impl_ScAdd_eq, Option.bind_some, Int.toNat_natCast, wrap_in (by omega) (by omega), rd_at, rd_at, tab_at _ _ _ h2, tab_set _ _ _ _ h2, if_neg (Nat.lt_irrefl i)]
    congr 1
    refine tab_congr (fun j hj => ?_)
    by_cases e : j = i
    · subst e; rw [if_pos rfl, if_pos (by omega)]; omega
    · rw [if_neg e]
      by_cases e2 : j < i
      · rw [if_pos e2, if_pos (by omega)]
      · rw [if_neg e2, if_neg (by omega)]
theorem impl_PolyAdd_l0 (xs ys : List Int) (n : Nat) (hn : n = max xs.length ys.length) (hl : n ≤ 17592186044416) (d : Nat) : ∀ i, i + d = xs.length →
    Ev (fun k => impl_PolyAdd.l0 k ys (tab n (fun j => if j < i then at_ xs j % 1009 else 0)) xs (xs.length : Int) (i : Int)) (padd xs ys) := by
  induction d with
  | zero =>
    intro i hi
    obtain rfl : i = xs.length := by omega
    have e : tab n (fun j => if j < xs.length then at_ xs j % 1009 else 0) = tab n (fun j => (at_ xs j + if j < 0 then at_ ys j else 0) % 1009) :=
      tab_congr (fun j _ => by
        by_cases h : j < xs.length
        · rw [if_pos h, if_neg (by omega)]; simp
        · rw [if_neg h, at_ge (by omega)]; rfl)
    refine Ev.step (fun k => ?_) (impl_PolyAdd_l1 xs ys n hn hl ys.length 0 (by omega))
    simp only [impl_PolyAdd.l0]
    rw [if_neg (by omega), e]
    rfl
  | succ d ih =>
    intro i hi
    have h1 : i < xs.length := by omega
    have h2 : i < n := by omega
    refine Ev.step (fun k => ?_) (ih (i + 1) (by omega))
    simp only [impl_PolyAdd.l0]
    rw [if_pos (by omega), if_pos (by omega), if_pos (by omega), impl_ScOf_eq, Option.bind_some, if_pos (by rw [tab_length]; omega), Int.toNat_natCast, wrap_in (by omega) (by omega), rd_at, tab_set _ _ _ _ h2]
    congr 1
    refine tab_congr (fun j hj => ?_)
    by_cases e : j = i
    · subst e; rw [if_pos rfl, if_pos (by omega)]
    · rw [if_neg e]
      by_cases e2 : j < i
      · rw [if_pos e2, if_pos (by omega)]
      · rw [if_neg e2, if_neg (by omega)]
theorem mx_nat (a b : Nat) : mx (a : Int) (b : Int) = ((max a b : Nat) : Int) := by unfold mx; split <;> omega
theorem impl_PolyAdd_ev (xs ys : List Int) (hx : xs.length ≤ 17592186044416) (hy : ys.length ≤ 17592186044416) : Ev (fun k => impl_PolyAdd.f k xs ys) (padd xs ys) := by
  have h := impl_PolyAdd_l0 xs ys _ rfl (by omega) xs.length 0 (by omega)
  refine Ev.congr (fun k => ?_) h
  simp only [impl_PolyAdd.f]
  rw [mx_nat, if_pos (by omega), Int.toNat_natCast, if_pos (by omega), replicate_tab]
  simp

theorem spec_PolyAdd_l0 (xs ys : List Int) (n : Nat) (hn : n = max xs.length ys.length) (hl : n ≤ 17592186044416) (d : Nat) : ∀ i, i + d = n →
    Ev (fun k => spec_PolyAdd.l0 k xs ys (n : Int) (tab n (fun j => if j < i then (at_ xs j + at_ ys j) % 1009 else 0)) (i : Int)) (padd xs ys) := by
  induction d with
  | zero =>
    intro i hi
    obtain rfl : i = n := by omega
    have e : tab i (fun j => if j < i then (at_ xs j + at_ ys j) % 1009 else 0) = tab i (fun j => (at_ xs j + at_ ys j) % 1009) := tab_congr (fun j hj => by rw [if_pos hj])
    refine Ev.step (fun k => ?_) (spec_PolyTrim_ev (tab i (fun j => (at_ xs j + at_ ys j) % 1009)) (by rw [tab_length]; exact hl) |> fun h => by rw [hn] at h; exact h)
    simp only [spec_PolyAdd.l0]
    rw [if_neg (by omega), e, hn]
    cases spec_PolyTrim.f k (tab (max xs.length ys.length) fun j => (at_ xs j + at_ ys j) % 1009) <;> rfl
  | succ d ih =>
    intro i hi
    have h2 : i < n := by omega
    have key : ∀ x, x = (at_ xs i + at_ ys i) % 1009 → (tab n (fun j => if j < i then (at_ xs j + at_ ys j) % 1009 else 0)).set i x = tab n (fun j => if j < i + 1 then (at_ xs j + at_ ys j) % 1009 else 0) := by
      intro x hx
      rw [tab_set _ _ _ _ h2]
      refine tab_congr (fun j hj => ?_)
      by_cases e : j = i
      · subst e; rw [if_pos rfl, if_pos (by omega), hx]
      · rw [if_neg e]
        by_cases e2 : j < i
        · rw [if_pos e2, if_pos (by omega)]
        · rw [if_neg e2, if_neg (by omega)]
    have z : at_ (tab n (fun j => if j < i then (at_ xs j + at_ ys j) % 1009 else 0)) i = 0 := by rw [tab_at _ _ _ h2, if_neg (Nat.lt_irrefl i)]
    have zl : (tab n (fun j => if j < i then (at_ xs j + at_ ys j) % 1009 else 0)).length = n := tab_length _ _
    generalize tab n (fun j => if j < i then (at_ xs j + at_ ys j) % 1009 else 0) = t at *
    refine Ev.step (fun k => ?_) (ih (i + 1) (by omega))
    simp only [spec_PolyAdd.l0]
    rw [if_pos (by omega)]
    by_cases hx : i < xs.length
    · rw [if_pos (by omega), if_pos (by omega), if_pos (by omega), spec_ScAdd_eq, Option.bind_some, Option.bind_some, Int.toNat_natCast]
      simp only [rd_at, z]
      by_cases hy : i < ys.length
      · rw [if_pos (by omega), spec_ScAdd_eq, Option.bind_some, at_set _ _ _ _ (by omega), if_pos rfl, List.set_set, wrap_in (by omega) (by omega), key]
        · rfl
        · omega
      · rw [if_neg (by omega), wrap_in (by omega) (by omega), key]
        · rfl
        · rw [at_ge (xs := ys) (by omega)]; omega
    · rw [if_neg (by omega)]
      have hy : i < ys.length := by omega
      rw [if_pos (by omega), if_pos (by omega), if_pos (by omega), spec_ScAdd_eq, Option.bind_some, Int.toNat_natCast, rd_at, rd_at, z, wrap_in (by omega) (by omega), key]
      · rfl
      · rw [at_ge (xs := xs) (by omega)]
theorem spec_PolyAdd_ev (xs ys : List Int) (hx : xs.length ≤ 17592186044416) (hy : ys.length ≤ 17592186044416) : Ev (fun k => spec_PolyAdd.f k xs ys) (padd xs ys) := by
  have h := spec_PolyAdd_l0 xs ys _ rfl (by omega) (max xs.length ys.length) 0 (by omega)
  have h2 : Ev (fun k => spec_PolyAdd.j0 k xs ys ((max xs.length ys.length : Nat) : Int)) (padd xs ys) := by
    refine Ev.step (fun k => ?_) h
    simp only [spec_PolyAdd.j0]
    rw [if_pos (by omega), Int.toNat_natCast, if_pos (by omega), replicate_tab]
    simp
  refine Ev.congr (fun k => ?_) h2
  simp only [spec_PolyAdd.f]
  by_cases h3 : (ys.length : Int) > (xs.length : Int)
  · rw [if_pos h3, show max xs.length ys.length = ys.length by omega]
  · rw [if_neg h3, show max xs.length ys.length = xs.length by omega]
end Go.Proofs.Ytcnejiflpioaiaa.Poly
end

section
/- What is proved here: what PolyMul and PolyZero answer, of the program and of the reference alike. No conditions. -/
set_option linter.unusedVariables false
set_option linter.unusedSimpArgs false
namespace Go.Proofs.Ytcnejiflpioaiaa.Poly
open Go.RowKit Go.Proofs.Ytcnejiflpioaiaa.Pf Go.Proofs.YtcnejiflpioaiaaW.PrintWords Go.Proofs.Ytcnejiflpioaiaa.Ints

/-- the products whose places come to n, of the first i numbers of xs -/
def conv (xs ys : List Int) : Nat → Nat → Int
  | 0, _ => 0
  | i + 1, n => conv xs ys i n + if i ≤ n then at_ xs i * at_ ys (n - i) else 0
def rowp (xs ys : List Int) (i j n : Nat) : Int := if i ≤ n ∧ n - i < j then at_ xs i * at_ ys (n - i) else 0
theorem row_none (xs ys : List Int) (i n : Nat) : rowp xs ys i 0 n = 0 := by unfold rowp; rw [if_neg (by omega)]
theorem row_all (xs ys : List Int) (i n : Nat) : rowp xs ys i ys.length n = if i ≤ n then at_ xs i * at_ ys (n - i) else 0 := by
  unfold rowp
  by_cases h : i ≤ n
  · by_cases h2 : n - i < ys.length
    · rw [if_pos ⟨h, h2⟩, if_pos h]
    · rw [if_neg (by omega), if_pos h, at_ge (xs := ys) (by omega)]; simp
  · rw [if_neg (by omega), if_neg h]
theorem conv_end (xs ys : List Int) (n : Nat) : ∀ i, i ≤ xs.length → xs.length + ys.length ≤ n + 1 → conv xs ys i n = 0
  | 0, _, _ => rfl
  | i + 1, h, h2 => by
    rw [conv, conv_end xs ys n i (by omega) h2, if_pos (by omega), at_ge (xs := ys) (by omega)]
    simp
def pmul (xs ys : List Int) : List Int := if xs.length > 64 ∨ ys.length > 64 then [] else trim (tab (xs.length + ys.length) (conv xs ys xs.length))
theorem cut_replicate : ∀ n, cut (tab n (fun _ => 0)) = []
  | 0 => rfl
  | n + 1 => by
    have : tab (n + 1) (fun _ => 0) = tab n (fun _ => 0) ++ [0] := by simp [tab, List.range_succ]
    rw [this, cut_zero, cut_replicate n]
theorem tab_succ (n : Nat) (f : Nat → Int) : tab (n + 1) f = tab n f ++ [f n] := by simp [tab, List.range_succ]
theorem trim_idem (n : Nat) (f : Nat → Int) : trim (tab n (fun i => f i % 1009)) = trim (tab n f) := by
  unfold trim
  rw [map_tab, map_tab]
  congr 1
  exact tab_congr (fun i _ => by omega)
theorem trim_short (xs ys : List Int) (h : 0 < xs.length + ys.length) : trim (tab (xs.length + ys.length) (conv xs ys xs.length)) = trim (tab (xs.length + ys.length - 1) (conv xs ys xs.length)) := by
  obtain ⟨N, hN⟩ : ∃ N, xs.length + ys.length = N + 1 := ⟨xs.length + ys.length - 1, by omega⟩
  rw [hN, Nat.add_sub_cancel]
  unfold trim
  rw [tab_succ, conv_end xs ys N xs.length (Nat.le_refl _) (by omega), List.map_append]
  exact cut_zero _
theorem step_row (xs ys : List Int) (N i j : Nat) (h : i + j < N) :
    (tab N (fun n => (conv xs ys i n + rowp xs ys i j n) % 1009)).set (i + j) ((at_ (tab N (fun n => (conv xs ys i n + rowp xs ys i j n) % 1009)) (i + j) + at_ xs i * at_ ys j % 1009) % 1009) = tab N (fun n => (conv xs ys i n + rowp xs ys i (j + 1) n) % 1009) := by
  rw [tab_set _ _ _ _ h, tab_at _ _ _ h]
  refine tab_congr (fun n _ => ?_)
  by_cases e : n = i + j
  · subst e
    rw [if_pos rfl]
    have e1 : rowp xs ys i j (i + j) = 0 := by unfold rowp; rw [if_neg (by omega)]
    have e2 : rowp xs ys i (j + 1) (i + j) = at_ xs i * at_ ys j := by unfold rowp; rw [if_pos (by omega), show i + j - i = j by omega]
    rw [e1, e2]
    omega
  · rw [if_neg e]
    have e1 : rowp xs ys i j n = rowp xs ys i (j + 1) n := by
      unfold rowp
      by_cases h1 : i ≤ n ∧ n - i < j
      · rw [if_pos h1, if_pos (by omega)]
      · rw [if_neg h1, if_neg (by omega)]
    rw [e1]
theorem row_done (xs ys : List Int) (N i : Nat) : tab N (fun n => (conv xs ys i n + rowp xs ys i ys.length n) % 1009) = tab N (fun n => conv xs ys (i + 1) n % 1009) :=
  tab_congr (fun n _ => by rw [row_all, conv])
theorem row_start (xs ys : List Int) (N i : Nat) : tab N (fun n => conv xs ys i n % 1009) = tab N (fun n => (conv xs ys i n + rowp xs ys i 0 n) % 1009) :=
  tab_congr (fun n _ => by rw [row_none, Int.add_zero])

theorem impl_PolyMul_l1 (xs ys : List Int) (hx : xs.length ≤ 64) (hy : ys.length ≤ 64) (N : Nat) (hN : xs.length + ys.length ≤ N + 1) (i : Nat) (hi : i < xs.length) (r : List Int)
    (next : Ev (fun k => impl_PolyMul.l0 k ys (tab N (fun n => conv xs ys (i + 1) n % 1009)) xs (xs.length : Int) ((i + 1 : Nat) : Int)) r) (d : Nat) : ∀ j, j + d = ys.length →
    Ev (fun k => impl_PolyMul.l1 k ys (tab N (fun n => (conv xs ys i n + rowp xs ys i j n) % 1009)) (i : Int) (at_ xs i) xs (xs.length : Int) (i : Int) ys (ys.length : Int) (j : Int)) r := by
  induction d with
  | zero =>
    intro j hj
    obtain rfl : j = ys.length := by omega
    refine Ev.step (fun k => ?_) next
    simp only [impl_PolyMul.l1]
    rw [if_neg (by omega), wrap_in (by omega) (by omega), row_done]
    rfl
  | succ d ih =>
    intro j hj
    refine Ev.step (fun k => ?_) (ih (j + 1) (by omega))
    simp only [impl_PolyMul.l1]
    rw [if_pos (by omega), if_pos (by omega), if_pos (by omega), wrap_in (i := (i : Int) + (j : Int)) (by omega) (by omega), if_pos (by omega), if_pos (by rw [tab_length]; omega), impl_ScMul_eq, Option.bind_some, impl_ScAdd_eq, Option.bind_some, wrap_in (by omega) (by omega),
      show (i : Int) + (j : Int) = ((i + j : Nat) : Int) by omega, Int.toNat_natCast, rd_at, rd_at, step_row xs ys N i j (by omega)]
    rfl
theorem impl_PolyMul_l0 (xs ys : List Int) (hx : xs.length ≤ 64) (hy : ys.length ≤ 64) (N : Nat) (hN : xs.length + ys.length ≤ N + 1) (hN2 : N ≤ 128) (d : Nat) : ∀ i, i + d = xs.length →
    Ev (fun k => impl_PolyMul.l0 k ys (tab N (fun n => conv xs ys i n % 1009)) xs (xs.length : Int) (i : Int)) (trim (tab N (conv xs ys xs.length))) := by
  induction d with
  | zero =>
    intro i hi
    obtain rfl : i = xs.length := by omega
    refine Ev.step (fun k => ?_) (impl_PolyTrim_ev (tab N (fun n => conv xs ys xs.length n % 1009)) (by rw [tab_length]; omega) |> fun h => by rw [trim_idem] at h; exact h)
    simp only [impl_PolyMul.l0]
    rw [if_neg (by omega)]
    cases impl_PolyTrim.f k (tab N fun n => conv xs ys xs.length n % 1009) <;> rfl
  | succ d ih =>
    intro i hi
    refine Ev.step (fun k => ?_) (impl_PolyMul_l1 xs ys hx hy N hN i (by omega) _ (ih (i + 1) (by omega)) ys.length 0 (by omega))
    simp only [impl_PolyMul.l0]
    rw [if_pos (by omega), if_pos (by omega), if_pos (by omega), rd_at, row_start]
    rfl
theorem impl_PolyMul_ev (xs ys : List Int) : Ev (fun k => impl_PolyMul.f k xs ys) (pmul xs ys) := by
  by_cases h1 : xs.length > 64
  · rw [pmul, if_pos (.inl h1)]
    exact Ev.one fun k => by simp only [impl_PolyMul.f, impl_PolyMul.j0]; rw [if_pos (by omega), if_pos trivial]
  · by_cases h2 : ys.length > 64
    · rw [pmul, if_pos (.inr h2)]
      exact Ev.one fun k => by simp only [impl_PolyMul.f, impl_PolyMul.j0]; rw [if_neg (by omega), if_pos (decide_eq_true (by omega))]
    · rw [pmul, if_neg (by omega)]
      refine Ev.step (fun k => ?_) (impl_PolyMul_l0 xs ys (by omega) (by omega) (xs.length + ys.length) (by omega) (by omega) xs.length 0 (by omega))
      simp only [impl_PolyMul.f, impl_PolyMul.j0]
      rw [if_neg (by omega), if_neg (by simp; omega), wrap_in (by omega) (by omega), if_pos (by omega), show (xs.length : Int) + (ys.length : Int) = ((xs.length + ys.length : Nat) : Int) by omega, Int.toNat_natCast, if_pos (by omega), replicate_tab]
      rfl
theorem spec_PolyMul_l1 (xs ys : List Int) (hx : xs.length ≤ 64) (hy : ys.length ≤ 64) (N : Nat) (hN : xs.length + ys.length ≤ N + 1) (i : Nat) (hi : i < xs.length) (r : List Int)
    (next : Ev (fun k => spec_PolyMul.l0 k xs ys (tab N (fun n => conv xs ys (i + 1) n % 1009)) ((i + 1 : Nat) : Int)) r) (d : Nat) : ∀ j, j + d = ys.length →
    Ev (fun k => spec_PolyMul.l1 k xs ys (tab N (fun n => (conv xs ys i n + rowp xs ys i j n) % 1009)) (i : Int) (j : Int)) r := by
  induction d with
  | zero =>
    intro j hj
    obtain rfl : j = ys.length := by omega
    refine Ev.step (fun k => ?_) next
    simp only [spec_PolyMul.l1]
    rw [if_neg (by omega), wrap_in (by omega) (by omega), row_done]
    rfl
  | succ d ih =>
    intro j hj
    refine Ev.step (fun k => ?_) (ih (j + 1) (by omega))
    simp only [spec_PolyMul.l1]
    rw [if_pos (by omega), wrap_in (i := (i : Int) + (j : Int)) (by omega) (by omega), if_pos (by omega), if_pos (by rw [tab_length]; omega), if_pos (by omega), if_pos (by omega), if_pos (by omega), spec_ScMul_eq, Option.bind_some, spec_ScAdd_eq, Option.bind_some, wrap_in (by omega) (by omega),
      show (i : Int) + (j : Int) = ((i + j : Nat) : Int) by omega, Int.toNat_natCast, rd_at, rd_at, rd_at, step_row xs ys N i j (by omega)]
    rfl
theorem spec_PolyMul_l0 (xs ys : List Int) (hx : xs.length ≤ 64) (hy : ys.length ≤ 64) (N : Nat) (hN : xs.length + ys.length ≤ N + 1) (hN2 : N ≤ 128) (d : Nat) : ∀ i, i + d = xs.length →
    Ev (fun k => spec_PolyMul.l0 k xs ys (tab N (fun n => conv xs ys i n % 1009)) (i : Int)) (trim (tab N (conv xs ys xs.length))) := by
  induction d with
  | zero =>
    intro i hi
    obtain rfl : i = xs.length := by omega
    refine Ev.step (fun k => ?_) (spec_PolyTrim_ev (tab N (fun n => conv xs ys xs.length n % 1009)) (by rw [tab_length]; omega) |> fun h => by rw [trim_idem] at h; exact h)
    simp only [spec_PolyMul.l0]
    rw [if_neg (by omega)]
    cases spec_PolyTrim.f k (tab N fun n => conv xs ys xs.length n % 1009) <;> rfl
  | succ d ih =>
    intro i hi
    refine Ev.step (fun k => ?_) (spec_PolyMul_l1 xs ys hx hy N hN i (by omega) _ (ih (i + 1) (by omega)) ys.length 0 (by omega))
    simp only [spec_PolyMul.l0]
    rw [if_pos (by omega), row_start]
    rfl
theorem pmul_nil_l (ys : List Int) : pmul [] ys = [] := by
  unfold pmul
  split
  · rfl
  · unfold trim
    rw [map_tab]
    exact cut_replicate _
theorem conv_nil_r (xs : List Int) (n : Nat) : ∀ i, conv xs [] i n = 0
  | 0 => rfl
  | i + 1 => by rw [conv, conv_nil_r xs n i, at_ge (xs := []) (by simp)]; simp
theorem pmul_nil_r (xs : List Int) : pmul xs [] = [] := by
  unfold pmul
  split
  · rfl
  · unfold trim
    rw [map_tab, tab_congr (g := fun _ => 0) (fun i _ => by rw [conv_nil_r]; rfl)]
    exact cut_replicate _
theorem spec_PolyMul_ev (xs ys : List Int) : Ev (fun k => spec_PolyMul.f k xs ys) (pmul xs ys) := by
  by_cases hx : xs.length = 0
  · obtain rfl := List.eq_nil_of_length_eq_zero hx
    rw [pmul_nil_l]
    exact Ev.one fun k => by simp only [spec_PolyMul.f, spec_PolyMul.j0]; rw [if_pos (by simp), if_pos trivial]
  by_cases hy : ys.length = 0
  · obtain rfl := List.eq_nil_of_length_eq_zero hy
    rw [pmul_nil_r]
    exact Ev.one fun k => by simp only [spec_PolyMul.f, spec_PolyMul.j0]; rw [if_neg (by omega), if_pos (by simp), if_pos trivial]
  by_cases h1 : xs.length > 64
  · rw [pmul, if_pos (.inl h1)]
    exact Ev.one fun k => by simp only [spec_PolyMul.f, spec_PolyMul.j0]; rw [if_neg (by omega), if_neg (by omega), if_pos (by omega), if_pos trivial]
  · by_cases h2 : ys.length > 64
    · rw [pmul, if_pos (.inr h2)]
      exact Ev.one fun k => by simp only [spec_PolyMul.f, spec_PolyMul.j0]; rw [if_neg (by omega), if_neg (by omega), if_neg (by omega), if_pos (decide_eq_true (by omega))]
    · rw [pmul, if_neg (by omega), trim_short xs ys (by omega)]
      refine Ev.step (fun k => ?_) (spec_PolyMul_l0 xs ys (by omega) (by omega) (xs.length + ys.length - 1) (by omega) (by omega) xs.length 0 (by omega))
      simp only [spec_PolyMul.f, spec_PolyMul.j0]
      rw [if_neg (by omega), if_neg (by omega), if_neg (by omega), if_neg (by simp; omega), wrap_in (i := (xs.length : Int) + (ys.length : Int)) (by omega) (by omega), wrap_in (by omega) (by omega), if_pos (by omega), show (xs.length : Int) + (ys.length : Int) - 1 = ((xs.length + ys.length - 1 : Nat) : Int) by omega, Int.toNat_natCast, if_pos (by omega), replicate_tab]
      rfl
theorem pmul_length (xs ys : List Int) : (pmul xs ys).length ≤ 128 := by
  unfold pmul
  split
  · simp
  · have := trim_length (tab (xs.length + ys.length) (conv xs ys xs.length))
    rw [tab_length] at this
    omega
theorem padd_length (xs ys : List Int) : (padd xs ys).length ≤ max xs.length ys.length := by
  have := trim_length (tab (max xs.length ys.length) (fun i => (at_ xs i + at_ ys i) % 1009))
  rwa [tab_length] at this
end Go.Proofs.Ytcnejiflpioaiaa.Poly
end

section
/- What is proved here: what PolyZero, ScInv, the scaling of a list and PolyThrough answer, of the program and of the reference alike. No conditions but on lengths. -/
set_option linter.unusedVariables false
set_option linter.unusedSimpArgs false
namespace Go.Proofs.Ytcnejiflpioaiaa.Poly
open Go.RowKit Go.Proofs.Ytcnejiflpioaiaa.Pf Go.Proofs.YtcnejiflpioaiaaW.PrintWords Go.Proofs.Ytcnejiflpioaiaa.Ints

def pz : Nat → Int → List Int → List Int
  | 0, _, acc => acc
  | d + 1, i, acc => pz d (i + 1) (pmul acc [-i, 1])
def pzero (n : Int) : List Int := if 0 ≤ n ∧ n ≤ 16 then pz n.toNat 1 [1] else []
theorem pz_length : ∀ d i acc, acc.length ≤ 128 → (pz d i acc).length ≤ 128
  | 0, _, _, h => h
  | d + 1, i, acc, _ => pz_length d (i + 1) _ (pmul_length _ _)
theorem pzero_length (n : Int) : (pzero n).length ≤ 128 := by
  unfold pzero
  split
  · exact pz_length _ _ _ (by simp)
  · simp

theorem impl_PolyZero_l0 (n : Int) (hn : n ≤ 16) : ∀ (d : Nat) (i : Int) (acc : List Int), 1 ≤ i → i + (d : Int) = n + 1 → Ev (fun k => impl_PolyZero.l0 k n acc i) (pz d i acc)
  | 0, i, acc, h0, h => Ev.one fun k => by
    simp only [impl_PolyZero.l0]
    rw [if_neg (by omega)]
    rfl
  | d + 1, i, acc, h0, h => by
    obtain ⟨K1, h1⟩ := impl_PolyMul_ev acc [-i, 1]
    obtain ⟨K2, h2⟩ := impl_PolyZero_l0 n hn d (i + 1) (pmul acc [-i, 1]) (by omega) (by omega)
    refine ⟨K1 + K2 + 1, fun k hk => ?_⟩
    obtain ⟨k, rfl⟩ : ∃ m, k = m + 1 := ⟨k - 1, by omega⟩
    have e1 := h1 k (by omega)
    have e2 := h2 k (by omega)
    dsimp only at e1 e2
    simp only [impl_PolyZero.l0]
    rw [if_pos (by omega), wrap_in (i := -i) (by omega) (by omega), e1, Option.bind_some, wrap_in (by omega) (by omega)]
    exact e2

theorem spec_PolyZero_l0 (n : Int) (hn : n ≤ 16) : ∀ (d : Nat) (i : Int) (acc : List Int), 1 ≤ i → i + (d : Int) = n + 1 → Ev (fun k => spec_PolyZero.l0 k n acc i) (pz d i acc)
  | 0, i, acc, h0, h => Ev.one fun k => by
    simp only [spec_PolyZero.l0]
    rw [if_neg (by omega)]
    rfl
  | d + 1, i, acc, h0, h => by
    obtain ⟨K1, h1⟩ := spec_PolyMul_ev acc [-i, 1]
    obtain ⟨K2, h2⟩ := spec_PolyZero_l0 n hn d (i + 1) (pmul acc [-i, 1]) (by omega) (by omega)
    refine ⟨K1 + K2 + 1, fun k hk => ?_⟩
    obtain ⟨k, rfl⟩ : ∃ m, k = m + 1 := ⟨k - 1, by omega⟩
    have e1 := h1 k (by omega)
    have e2 := h2 k (by omega)
    dsimp only at e1 e2
    simp only [spec_PolyZero.l0]
    rw [if_pos (by omega), wrap_in (i := -i) (by omega) (by omega), e1, Option.bind_some, wrap_in (by omega) (by omega)]
    exact e2

theorem impl_PolyZero_ev (n : Int) : Ev (fun k => impl_PolyZero.f k n) (pzero n) := by
  by_cases h1 : n < 0
  · rw [pzero, if_neg (by omega)]
    exact Ev.one fun k => by simp only [impl_PolyZero.f, impl_PolyZero.j0]; rw [if_pos h1, if_pos trivial]
  · by_cases h2 : n > 16
    · rw [pzero, if_neg (by omega)]
      exact Ev.one fun k => by simp only [impl_PolyZero.f, impl_PolyZero.j0]; rw [if_neg h1, if_pos (decide_eq_true h2)]
    · rw [pzero, if_pos (by omega)]
      refine Ev.step (fun k => ?_) (impl_PolyZero_l0 n (by omega) n.toNat 1 [1] (by omega) (by omega))
      simp only [impl_PolyZero.f, impl_PolyZero.j0]
      rw [if_neg h1, if_neg (by simpa using h2)]
theorem spec_PolyZero_ev (n : Int) : Ev (fun k => spec_PolyZero.f k n) (pzero n) := by
  by_cases h1 : n < 0
  · rw [pzero, if_neg (by omega)]
    exact Ev.one fun k => by simp [spec_PolyZero.f, spec_l01In.f, show ¬ (0 ≤ n) by omega]
  · by_cases h2 : n > 16
    · rw [pzero, if_neg (by omega)]
      exact Ev.one fun k => by simp [spec_PolyZero.f, spec_l01In.f, show 0 ≤ n by omega, show ¬ (n ≤ 16) by omega]
    · rw [pzero, if_pos (by omega)]
      refine Ev.congr (fun k => ?_) (spec_PolyZero_l0 n (by omega) n.toNat 1 [1] (by omega) (by omega))
      simp [spec_PolyZero.f, spec_l01In.f, show 0 ≤ n by omega, show n ≤ 16 by omega]

/-! ### what makes 1 -/
theorem inv_ends : ∀ (k : Nat) (n : Int), 0 ≤ n → n < 2 ^ k → n ≤ 1007 → ∀ o b, ∃ r, spec_ScInv.l0 (k + 1) o b n = some r
  | 0, n, h0, h1, h2, o, b => by
    refine ⟨o, ?_⟩
    simp only [spec_ScInv.l0]
    rw [if_neg (by simp at h1; omega)]
  | k + 1, n, h0, h1, h2, o, b => by
    rw [spec_ScInv.l0]
    by_cases hn : n > 0
    · have hd : Int.tdiv n 2 = n / 2 := Int.tdiv_eq_ediv_of_nonneg h0
      have hp : (2 : Int) ^ (k + 1) = 2 * 2 ^ k := by rw [Int.pow_succ, Int.mul_comm]
      rw [if_pos hn, hd, wrap_in (by omega) (by omega), spec_ScMul_eq, spec_ScMul_eq]
      simp only [Option.bind_some]
      by_cases hm : Int.tmod n 2 = 1
      · rw [if_pos hm]
        exact inv_ends k (n / 2) (by omega) (by omega) (by omega) _ _
      · rw [if_neg hm]
        exact inv_ends k (n / 2) (by omega) (by omega) (by omega) _ _
    · exact ⟨o, by rw [if_neg hn]⟩
theorem inv_at (K k : Nat) (h : K = k + 1) (n : Int) (h0 : 0 ≤ n) (h1 : n < 2 ^ k) (h2 : n ≤ 1007) (o b : Int) : ∃ r, spec_ScInv.l0 K o b n = some r := by
  rw [h]
  exact inv_ends k n h0 h1 h2 o b
theorem inv_from (a : Int) : ∃ r, spec_ScInv.l0 11 1 (a % 1009) 1007 = some r := by
  obtain ⟨r, hr⟩ := inv_at 11 10 rfl 1007 (by decide) (by decide) (by decide) 1 (a % 1009)
  exact ⟨r, hr⟩
theorem inv_is (a : Int) (r : Int) (hr : spec_ScInv.l0 11 1 (a % 1009) 1007 = some r) : spec_ScInv.f 11 a = some r := by
  rw [spec_ScInv.f, spec_ScOf_eq, Option.bind_some]; exact hr
theorem inv_some (a : Int) : ∃ r, spec_ScInv.f 11 a = some r := by
  obtain ⟨r, hr⟩ := inv_from a
  exact ⟨r, inv_is a r hr⟩
def sinv (a : Int) : Int := (spec_ScInv.f 11 a).getD 0
theorem spec_ScInv_ev (a : Int) : Ev (fun k => spec_ScInv.f k a) (sinv a) := by
  obtain ⟨r, hr⟩ := inv_some a
  have e : sinv a = r := by unfold sinv; rw [hr]; rfl
  rw [e]
  exact Ev.of (fun k => spec_ScInv.mono a k) hr
theorem tmod_nat (a : Int) (h0 : 0 ≤ a) (h1 : a ≤ 9223372036854775807) : Int.tmod (wrap64 a) 1009 = a % 1009 := by
  rw [wrap_in (by omega) h1]
  exact Int.tmod_eq_emod_of_nonneg h0
theorem inv_loop (k : Nat) : ∀ o a n, 0 ≤ a → a ≤ 1008 → 0 ≤ o → o ≤ 1008 → impl_powerMod.l0 k a n 1009 o = spec_ScInv.l0 k o a n := by
  induction k with
  | zero => intros; rfl
  | succ k ih =>
    intro o a n h0 h1 h2 h3
    have b1 : 0 ≤ a * a ∧ a * a ≤ 1016064 := ⟨Int.mul_nonneg h0 h0, by have := Int.mul_le_mul h1 h1 h0 (by decide); omega⟩
    have b2 : 0 ≤ o * a ∧ o * a ≤ 1016064 := ⟨Int.mul_nonneg h2 h0, by have := Int.mul_le_mul h3 h1 h0 (by decide); omega⟩
    simp only [impl_powerMod.l0, spec_ScInv.l0, spec_ScMul_eq, Option.bind_some]
    have z : ¬ ((1009 : Int) = 0) := by decide
    by_cases hn : n > 0
    · rw [if_pos hn, if_pos hn]
      by_cases hm : Int.tmod n 2 = 1
      · rw [if_pos hm, if_pos hm, if_neg z, tmod_nat _ b1.1 (by omega), tmod_nat _ b2.1 (by omega), ih _ _ _ (by omega) (by omega) (by omega) (by omega)]
      · rw [if_neg hm, if_neg hm, if_neg z, tmod_nat _ b1.1 (by omega), ih _ _ _ (by omega) (by omega) h2 h3]
    · rw [if_neg hn, if_neg hn]
theorem impl_ScInv_ev (a : Int) : Ev (fun k => impl_ScInv.f k a) (sinv a) := by
  refine Ev.congr (fun k => ?_) (spec_ScInv_ev a)
  have e := impl_ScOf_eq a
  unfold impl_ScOf.f at e
  have e2 : impl_remainder.f a 1009 = some (a % 1009) := by
    cases h : impl_remainder.f a 1009 with
    | none => rw [h] at e; cases e
    | some v => rw [h] at e; exact e
  simp only [impl_ScInv.f, impl_powerMod.f, spec_ScInv.f, spec_ScOf_eq, e2, Option.bind_some]
  rw [inv_loop k 1 (a % 1009) 1007 (by omega) (by omega) (by omega) (by omega)]
  cases spec_ScInv.l0 k 1 (a % 1009) 1007 <;> rfl

/-! ### a list times a number -/
def scale (xs : List Int) (c : Int) : List Int := xs.map (fun a => (a * c) % 1009)
theorem scale_length (xs : List Int) (c : Int) : (scale xs c).length = xs.length := by simp [scale]
theorem scale_tab (xs : List Int) (c : Int) : scale xs c = tab xs.length (fun i => (at_ xs i * c) % 1009) :=
  eq_tab (scale_length xs c) (fun i hi => by rw [at_lt (by rw [scale_length]; exact hi), at_lt hi]; simp [scale])
theorem impl_scaled_l0 (xs : List Int) (c : Int) (hl : xs.length ≤ 17592186044416) (d : Nat) : ∀ i, i + d = xs.length →
    Ev (fun k => impl_scaled.l0 k c (tab xs.length (fun j => if j < i then (at_ xs j * c) % 1009 else 0)) xs (xs.length : Int) (i : Int)) (scale xs c) := by
  induction d with
  | zero =>
    intro i hi
    obtain rfl : i = xs.length := by omega
    refine Ev.one fun k => ?_
    simp only [impl_scaled.l0]
    rw [if_neg (by omega), scale_tab]
    congr 1
    exact tab_congr (fun j hj => by rw [if_pos hj])
  | succ d ih =>
    intro i hi
    have h1 : i < xs.length := by omega
    refine Ev.step (fun k => ?_) (ih (i + 1) (by omega))
    simp only [impl_scaled.l0]
    rw [if_pos (by omega), if_pos (by omega), if_pos (by omega), impl_ScMul_eq, Option.bind_some, if_pos (by rw [tab_length]; omega), Int.toNat_natCast, wrap_in (by omega) (by omega), rd_at, tab_set _ _ _ _ h1]
    congr 1
    refine tab_congr (fun j hj => ?_)
    by_cases e : j = i
    · subst e; rw [if_pos rfl, if_pos (by omega)]
    · rw [if_neg e]
      by_cases e2 : j < i
      · rw [if_pos e2, if_pos (by omega)]
      · rw [if_neg e2, if_neg (by omega)]
theorem impl_scaled_ev (xs : List Int) (c : Int) (hl : xs.length ≤ 17592186044416) : Ev (fun k => impl_scaled.f k xs c) (scale xs c) := by
  refine Ev.congr (fun k => ?_) (impl_scaled_l0 xs c hl xs.length 0 (by omega))
  simp only [impl_scaled.f]
  rw [if_pos (by omega), Int.toNat_natCast, if_pos (by omega), replicate_tab]
  simp
theorem spec_l14Scale_l0 (xs : List Int) (c : Int) (hl : xs.length ≤ 17592186044416) (d : Nat) : ∀ i, i + d = xs.length → Ev (fun k => spec_l14Scale.l0 k xs c (scale (xs.take i) c) (i : Int)) (scale xs c) := by
  induction d with
  | zero =>
    intro i hi
    refine Ev.one fun k => ?_
    simp only [spec_l14Scale.l0]
    rw [if_neg (by omega), List.take_of_length_le (by omega)]
  | succ d ih =>
    intro i hi
    have h1 : i < xs.length := by omega
    refine Ev.step (fun k => ?_) (ih (i + 1) (by omega))
    simp only [spec_l14Scale.l0]
    rw [if_pos (by omega), if_pos (by omega), spec_ScMul_eq, Option.bind_some, if_pos (by rw [scale_length, List.length_take]; omega), wrap_in (by omega) (by omega), rd_nat xs i h1, List.take_succ_eq_append_getElem h1]
    rw [scale, scale, List.map_append]
    rfl
theorem spec_l14Scale_ev (xs : List Int) (c : Int) (hl : xs.length ≤ 17592186044416) : Ev (fun k => spec_l14Scale.f k xs c) (scale xs c) := spec_l14Scale_l0 xs c hl xs.length 0 (by omega)

/-! ### through all -/
def tb (i : Int) : Nat → Int → List Int → Int → List Int × Int
  | 0, _, t, b => (t, b)
  | d + 1, j, t, b => if j = i then tb i d (j + 1) t b else tb i d (j + 1) (pmul t [-(j + 1), 1]) ((b * (i - j)) % 1009)
def thr (xs : List Int) : Nat → Nat → List Int → List Int
  | 0, _, out => out
  | d + 1, i, out => thr xs d (i + 1) (padd out (scale (tb (i : Int) xs.length 0 [1] 1).1 ((at_ xs i * sinv (tb (i : Int) xs.length 0 [1] 1).2) % 1009)))
def pthrough (xs : List Int) : List Int := if xs.length > 16 then [] else thr xs xs.length 0 []
theorem tb_length (i : Int) : ∀ d j t b, t.length ≤ 128 → (tb i d j t b).1.length ≤ 128
  | 0, _, _, _, h => h
  | d + 1, j, t, b, h => by
    rw [tb]
    split
    · exact tb_length i d (j + 1) t b h
    · exact tb_length i d (j + 1) _ _ (pmul_length _ _)
theorem thr_length (xs : List Int) : ∀ d i out, out.length ≤ 128 → (thr xs d i out).length ≤ 128
  | 0, _, _, h => h
  | d + 1, i, out, h => by
    rw [thr]
    refine thr_length xs d (i + 1) _ ?_
    have h1 := tb_length (i : Int) xs.length 0 [1] 1 (by simp)
    have h2 := padd_length out (scale (tb (i : Int) xs.length 0 [1] 1).1 ((at_ xs i * sinv (tb (i : Int) xs.length 0 [1] 1).2) % 1009))
    rw [scale_length] at h2
    omega
theorem pthrough_length (xs : List Int) : (pthrough xs).length ≤ 128 := by
  unfold pthrough
  split
  · simp
  · exact thr_length xs _ _ _ (by simp)

theorem impl_PolyThrough_l1 (xs out : List Int) (hl : xs.length ≤ 16) (ho : out.length ≤ 128) (i : Nat) (hi : i < xs.length) (t1 : List Int) (b1 : Int) (ht1 : t1.length ≤ 128) (r : List Int)
    (next : Ev (fun k => impl_PolyThrough.l0 k xs (padd out (scale t1 ((at_ xs i * sinv b1) % 1009))) xs (xs.length : Int) ((i + 1 : Nat) : Int)) r) : ∀ (d : Nat) (j : Int) (t : List Int) (b : Int), 0 ≤ j → j + (d : Int) = (xs.length : Int) → tb (i : Int) d j t b = (t1, b1) → Ev (fun k => impl_PolyThrough.l1 k xs out (i : Int) (at_ xs i) t b xs (xs.length : Int) (i : Int) (xs.length : Int) j) r
  | 0, j, t, b, h0, hj, ht => by
    obtain ⟨rfl, rfl⟩ : t = t1 ∧ b = b1 := by simpa [tb] using ht
    obtain ⟨K1, h1⟩ := impl_ScInv_ev b
    obtain ⟨K2, h2⟩ := impl_scaled_ev t ((at_ xs i * sinv b) % 1009) (by omega)
    obtain ⟨K3, h3⟩ := impl_PolyAdd_ev out (scale t ((at_ xs i * sinv b) % 1009)) (by omega) (by rw [scale_length]; omega)
    obtain ⟨K4, h4⟩ := next
    refine ⟨K1 + K2 + K3 + K4 + 1, fun k hk => ?_⟩
    obtain ⟨k, rfl⟩ : ∃ m, k = m + 1 := ⟨k - 1, by omega⟩
    have e1 := h1 k (by omega)
    have e2 := h2 k (by omega)
    have e3 := h3 k (by omega)
    have e4 := h4 k (by omega)
    dsimp only at e1 e2 e3 e4
    simp only [impl_PolyThrough.l1]
    rw [if_neg (by omega), e1, Option.bind_some, impl_ScMul_eq, Option.bind_some, e2, Option.bind_some, e3, Option.bind_some, wrap_in (by omega) (by omega)]
    exact e4
  | d + 1, j, t, b, h0, hj, ht => by
    rw [tb] at ht
    by_cases e : j = (i : Int)
    · rw [if_pos e] at ht
      refine Ev.step (fun k => ?_) (impl_PolyThrough_l1 xs out hl ho i hi t1 b1 ht1 r next d (j + 1) t b (by omega) (by omega) ht)
      simp only [impl_PolyThrough.l1]
      rw [if_pos (by omega), if_pos e, wrap_in (by omega) (by omega)]
    · rw [if_neg e] at ht
      obtain ⟨K1, h1⟩ := impl_PolyMul_ev t [-(j + 1), 1]
      obtain ⟨K2, h2⟩ := impl_PolyThrough_l1 xs out hl ho i hi t1 b1 ht1 r next d (j + 1) _ _ (by omega) (by omega) ht
      refine ⟨K1 + K2 + 1, fun k hk => ?_⟩
      obtain ⟨k, rfl⟩ : ∃ m, k = m + 1 := ⟨k - 1, by omega⟩
      have e1 := h1 k (by omega)
      have e2 := h2 k (by omega)
      dsimp only at e1 e2
      simp only [impl_PolyThrough.l1]
      rw [if_pos (by omega), if_neg e, wrap_in (i := j + 1) (by omega) (by omega), wrap_in (i := -(j + 1)) (by omega) (by omega), e1, Option.bind_some, wrap_in (by omega) (by omega), impl_ScMul_eq, Option.bind_some]
      exact e2
theorem impl_PolyThrough_l0 (xs : List Int) (hl : xs.length ≤ 16) : ∀ (d i : Nat) (out : List Int), out.length ≤ 128 → i + d = xs.length → Ev (fun k => impl_PolyThrough.l0 k xs out xs (xs.length : Int) (i : Int)) (thr xs d i out)
  | 0, i, out, ho, hi => Ev.one fun k => by
    simp only [impl_PolyThrough.l0]
    rw [if_neg (by omega)]
    rfl
  | d + 1, i, out, ho, hi => by
    have h1 := tb_length (i : Int) xs.length 0 [1] 1 (by simp)
    have h2 := padd_length out (scale (tb (i : Int) xs.length 0 [1] 1).1 ((at_ xs i * sinv (tb (i : Int) xs.length 0 [1] 1).2) % 1009))
    rw [scale_length] at h2
    rw [thr]
    refine Ev.step (fun k => ?_) (impl_PolyThrough_l1 xs out hl ho i (by omega) _ _ h1 _ (impl_PolyThrough_l0 xs hl d (i + 1) _ (by omega) (by omega)) xs.length 0 [1] 1 (by omega) (by omega) rfl)
    simp only [impl_PolyThrough.l0]
    rw [if_pos (by omega), if_pos (by omega), if_pos (by omega), rd_at]
theorem impl_PolyThrough_ev (xs : List Int) : Ev (fun k => impl_PolyThrough.f k xs) (pthrough xs) := by
  unfold pthrough
  by_cases h : xs.length > 16
  · rw [if_pos h]
    exact Ev.one fun k => by simp only [impl_PolyThrough.f]; rw [if_pos (by omega)]
  · rw [if_neg h]
    refine Ev.congr (fun k => ?_) (impl_PolyThrough_l0 xs (by omega) xs.length 0 [] (by simp) (by omega))
    simp only [impl_PolyThrough.f]
    rw [if_neg (by omega)]
    rfl

theorem spec_PolyThrough_l1 (xs out : List Int) (hl : xs.length ≤ 16) (ho : out.length ≤ 128) (i : Nat) (hi : i < xs.length) (t1 : List Int) (b1 : Int) (ht1 : t1.length ≤ 128) (r : List Int)
    (next : Ev (fun k => spec_PolyThrough.l0 k xs (padd out (scale t1 ((at_ xs i * sinv b1) % 1009))) ((i + 1 : Nat) : Int)) r) : ∀ (d : Nat) (j : Int) (t : List Int) (b : Int), 0 ≤ j → j + (d : Int) = (xs.length : Int) → tb (i : Int) d j t b = (t1, b1) → Ev (fun k => spec_PolyThrough.l1 k xs out (i : Int) t b j) r
  | 0, j, t, b, h0, hj, ht => by
    obtain ⟨rfl, rfl⟩ : t = t1 ∧ b = b1 := by simpa [tb] using ht
    obtain ⟨K1, h1⟩ := spec_ScInv_ev b
    obtain ⟨K2, h2⟩ := spec_l14Scale_ev t ((at_ xs i * sinv b) % 1009) (by omega)
    obtain ⟨K3, h3⟩ := spec_PolyAdd_ev out (scale t ((at_ xs i * sinv b) % 1009)) (by omega) (by rw [scale_length]; omega)
    obtain ⟨K4, h4⟩ := next
    refine ⟨K1 + K2 + K3 + K4 + 1, fun k hk => ?_⟩
    obtain ⟨k, rfl⟩ : ∃ m, k = m + 1 := ⟨k - 1, by omega⟩
    have e1 := h1 k (by omega)
    have e2 := h2 k (by omega)
    have e3 := h3 k (by omega)
    have e4 := h4 k (by omega)
    dsimp only at e1 e2 e3 e4
    simp only [spec_PolyThrough.l1]
    rw [if_neg (by omega), if_pos (by omega), if_pos (by omega), e1, Option.bind_some, spec_ScMul_eq, Option.bind_some, rd_at, e2, Option.bind_some, e3, Option.bind_some, wrap_in (by omega) (by omega)]
    exact e4
  | d + 1, j, t, b, h0, hj, ht => by
    rw [tb] at ht
    by_cases e : j = (i : Int)
    · rw [if_pos e] at ht
      refine Ev.step (fun k => ?_) (spec_PolyThrough_l1 xs out hl ho i hi t1 b1 ht1 r next d (j + 1) t b (by omega) (by omega) ht)
      simp only [spec_PolyThrough.l1]
      rw [if_pos (by omega), if_pos e, wrap_in (by omega) (by omega)]
    · rw [if_neg e] at ht
      obtain ⟨K1, h1⟩ := spec_PolyMul_ev t [-(j + 1), 1]
      obtain ⟨K2, h2⟩ := spec_PolyThrough_l1 xs out hl ho i hi t1 b1 ht1 r next d (j + 1) _ _ (by omega) (by omega) ht
      refine ⟨K1 + K2 + 1, fun k hk => ?_⟩
      obtain ⟨k, rfl⟩ : ∃ m, k = m + 1 := ⟨k - 1, by omega⟩
      have e1 := h1 k (by omega)
      have e2 := h2 k (by omega)
      dsimp only at e1 e2
      simp only [spec_PolyThrough.l1]
      rw [if_pos (by omega), if_neg e, wrap_in (i := j + 1) (by omega) (by omega), wrap_in (i := -(j + 1)) (by omega) (by omega), e1, Option.bind_some, wrap_in (by omega) (by omega), spec_ScMul_eq, Option.bind_some]
      exact e2
theorem spec_PolyThrough_l0 (xs : List Int) (hl : xs.length ≤ 16) : ∀ (d i : Nat) (out : List Int), out.length ≤ 128 → i + d = xs.length → Ev (fun k => spec_PolyThrough.l0 k xs out (i : Int)) (thr xs d i out)
  | 0, i, out, ho, hi => Ev.one fun k => by
    simp only [spec_PolyThrough.l0]
    rw [if_neg (by omega)]
    rfl
  | d + 1, i, out, ho, hi => by
    have h1 := tb_length (i : Int) xs.length 0 [1] 1 (by simp)
    have h2 := padd_length out (scale (tb (i : Int) xs.length 0 [1] 1).1 ((at_ xs i * sinv (tb (i : Int) xs.length 0 [1] 1).2) % 1009))
    rw [scale_length] at h2
    rw [thr]
    refine Ev.step (fun k => ?_) (spec_PolyThrough_l1 xs out hl ho i (by omega) _ _ h1 _ (spec_PolyThrough_l0 xs hl d (i + 1) _ (by omega) (by omega)) xs.length 0 [1] 1 (by omega) (by omega) rfl)
    simp only [spec_PolyThrough.l0]
    rw [if_pos (by omega)]
theorem spec_PolyThrough_ev (xs : List Int) : Ev (fun k => spec_PolyThrough.f k xs) (pthrough xs) := by
  unfold pthrough
  by_cases h : xs.length > 16
  · rw [if_pos h]
    exact Ev.one fun k => by simp only [spec_PolyThrough.f]; rw [if_pos (by omega)]
  · rw [if_neg h]
    refine Ev.congr (fun k => ?_) (spec_PolyThrough_l0 xs (by omega) xs.length 0 [] (by simp) (by omega))
    simp only [spec_PolyThrough.f]
    rw [if_neg (by omega)]
    rfl
end Go.Proofs.Ytcnejiflpioaiaa.Poly
end

section
/- What is proved here: what PolyDivide answers, of the program and of the reference alike. No conditions but on lengths. -/
set_option linter.unusedVariables false
set_option linter.unusedSimpArgs false
namespace Go.Proofs.Ytcnejiflpioaiaa.Poly
open Go.RowKit Go.Proofs.Ytcnejiflpioaiaa.Pf Go.Proofs.YtcnejiflpioaiaaW.PrintWords Go.Proofs.Ytcnejiflpioaiaa.Ints

theorem cut_zeros (xs : List Int) : ∀ n, cut (xs ++ List.replicate n 0) = cut xs
  | 0 => by simp
  | n + 1 => by rw [List.replicate_succ', ← List.append_assoc, cut_zero, cut_zeros xs n]
theorem at_append_zeros (xs : List Int) (n i : Nat) : at_ (xs ++ List.replicate n 0) i = at_ xs i := by
  by_cases h : i < xs.length
  · rw [at_lt (by simp; omega), at_lt h, List.getElem_append_left h]
  · rw [at_ge (xs := xs) (by omega)]
    by_cases h2 : i < (xs ++ List.replicate n 0).length
    · rw [at_lt h2, List.getElem_append_right (by omega)]
      simp
    · rw [at_ge (by omega)]
theorem cut_same_le {xs ys : List Int} (hl : xs.length ≤ ys.length) (h : ∀ i, at_ xs i = at_ ys i) : cut xs = cut ys := by
  have e : ys = xs ++ List.replicate (ys.length - xs.length) 0 := ext_at (by simp; omega) (fun i _ => by rw [at_append_zeros, h])
  rw [e, cut_zeros]
theorem cut_same {xs ys : List Int} (h : ∀ i, at_ xs i = at_ ys i) : cut xs = cut ys := by
  rcases Nat.le_total xs.length ys.length with hl | hl
  · exact cut_same_le hl h
  · exact (cut_same_le hl (fun i => (h i).symm)).symm
theorem take_at (xs : List Int) (q i : Nat) : at_ (xs.take q) i = if i < q then at_ xs i else 0 := by
  by_cases h : i < q
  · rw [if_pos h]
    by_cases h2 : i < xs.length
    · rw [at_lt (by simp; omega), at_lt h2]; simp
    · rw [at_ge (by simp; omega), at_ge (by omega)]
  · rw [if_neg h, at_ge (by simp; omega)]
theorem cut_take (xs : List Int) (q : Nat) (hz : ∀ i, q ≤ i → at_ xs i = 0) : cut xs = cut (xs.take q) :=
  cut_same (fun i => by
    rw [take_at]
    by_cases h : i < q
    · rw [if_pos h]
    · rw [if_neg h, hz i (by omega)])
theorem cut_full (xs : List Int) (h : xs = [] ∨ at_ xs (xs.length - 1) ≠ 0) : cut xs = xs := by
  rcases h with rfl | h
  · rfl
  · rcases List.eq_nil_or_concat xs with rfl | ⟨ys, c, rfl⟩
    · rfl
    · rw [List.concat_eq_append] at h ⊢
      refine cut_other ys c (fun e => h ?_)
      rw [at_lt (by simp)]
      simpa using e
theorem cut_top (xs : List Int) (q : Nat) (hz : ∀ i, q + 1 ≤ i → at_ xs i = 0) (h : at_ xs q ≠ 0) : cut xs = xs.take (q + 1) := by
  have hq : q < xs.length := by
    rcases Nat.lt_or_ge q xs.length with h1 | h1
    · exact h1
    · exact absurd (at_ge h1) h
  rw [cut_take xs (q + 1) hz]
  refine cut_full _ (.inr ?_)
  rw [take_at, List.length_take, Nat.min_eq_left (by omega), if_pos (by omega), Nat.add_sub_cancel]
  exact h
/-- every number is one of 0 .. 1008 -/
def Red (xs : List Int) : Prop := ∀ i, 0 ≤ at_ xs i ∧ at_ xs i ≤ 1008
theorem red_trim {xs : List Int} (h : Red xs) : trim xs = cut xs := by
  unfold trim
  exact cut_same (fun i => by rw [at_emod]; have := h i; omega)
/-- the cut list has the same numbers -/
theorem at_cut (xs : List Int) : ∀ i, at_ (cut xs) i = at_ xs i := by
  intro i
  induction h : xs.length generalizing xs with
  | zero =>
    obtain rfl := List.eq_nil_of_length_eq_zero h
    rfl
  | succ n ih =>
    rcases List.eq_nil_or_concat xs with rfl | ⟨ys, c, rfl⟩
    · rfl
    · rw [List.concat_eq_append] at h ⊢
      by_cases hc : c = 0
      · subst hc
        rw [cut_zero, ih ys (by simpa using h)]
        have := at_append_zeros ys 1 i
        simpa using this.symm
      · rw [cut_other ys c hc]
theorem at_trim (xs : List Int) (i : Nat) : at_ (trim xs) i = at_ xs i % 1009 := by unfold trim; rw [at_cut, at_emod]
theorem trim_red (xs : List Int) : Red (trim xs) := fun i => by rw [at_trim]; omega
theorem cut_last (xs : List Int) : cut xs = [] ∨ at_ (cut xs) ((cut xs).length - 1) ≠ 0 := by
  induction h : xs.length generalizing xs with
  | zero =>
    obtain rfl := List.eq_nil_of_length_eq_zero h
    exact .inl rfl
  | succ n ih =>
    rcases List.eq_nil_or_concat xs with rfl | ⟨ys, c, rfl⟩
    · exact .inl rfl
    · rw [List.concat_eq_append] at h ⊢
      by_cases hc : c = 0
      · subst hc
        rw [cut_zero]
        exact ih ys (by simpa using h)
      · rw [cut_other ys c hc]
        refine .inr ?_
        rw [at_lt (by simp)]
        simpa using hc
theorem cut_cut (xs : List Int) : cut (cut xs) = cut xs := cut_full _ (cut_last xs)

/-- ys, c times, taken away from place s on, for the first j numbers -/
def take_away (xs ys : List Int) (s : Nat) (c : Int) (j : Nat) : List Int := tab xs.length (fun n => if s ≤ n ∧ n - s < j then (at_ xs n - at_ ys (n - s) * c) % 1009 else at_ xs n)
theorem away_length (xs ys : List Int) (s : Nat) (c : Int) (j : Nat) : (take_away xs ys s c j).length = xs.length := tab_length _ _
theorem away_none (xs ys : List Int) (s : Nat) (c : Int) : take_away xs ys s c 0 = xs := by
  refine (eq_tab rfl (fun i hi => ?_)).symm
  rw [if_neg (by omega)]
theorem away_at (xs ys : List Int) (s : Nat) (c : Int) (j i : Nat) (h : i < xs.length) : at_ (take_away xs ys s c j) i = if s ≤ i ∧ i - s < j then (at_ xs i - at_ ys (i - s) * c) % 1009 else at_ xs i := tab_at _ _ _ h
theorem away_step (xs ys : List Int) (s : Nat) (c : Int) (j : Nat) (h : s + j < xs.length) (v : Int) (hv : v = (at_ xs (s + j) - at_ ys j * c) % 1009) :
    (take_away xs ys s c j).set (s + j) v = take_away xs ys s c (j + 1) := by
  unfold take_away
  rw [tab_set _ _ _ _ h]
  refine tab_congr (fun n hn => ?_)
  by_cases e : n = s + j
  · subst e
    rw [if_pos rfl, if_pos (by omega), hv, show s + j - s = j by omega]
  · rw [if_neg e]
    by_cases h1 : s ≤ n ∧ n - s < j
    · rw [if_pos h1, if_pos (by omega)]
    · rw [if_neg h1, if_neg (by omega)]
def away (xs ys : List Int) (s : Nat) (c : Int) : List Int := take_away xs ys s c ys.length
/-- the steps of a division, from the highest place down: what is left, how often -/
def elim (ys : List Int) (top : Int) : Nat → List Int → List Int → List Int × List Int
  | 0, xs, out => (xs, out)
  | n + 1, xs, out => elim ys top n (away xs ys n ((at_ xs (n + ys.length - 1) * top) % 1009)) (out.set n ((at_ xs (n + ys.length - 1) * top) % 1009))
theorem elim_length (ys : List Int) (top : Int) : ∀ n xs out, (elim ys top n xs out).1.length = xs.length ∧ (elim ys top n xs out).2.length = out.length
  | 0, _, _ => ⟨rfl, rfl⟩
  | n + 1, xs, out => by
    have h := elim_length ys top n (away xs ys n ((at_ xs (n + ys.length - 1) * top) % 1009)) (out.set n ((at_ xs (n + ys.length - 1) * top) % 1009))
    exact ⟨h.1.trans (away_length _ _ _ _ _), h.2.trans (by simp)⟩
theorem impl_ScNeg_eq (a : Int) : impl_ScNeg.f a = some ((-a) % 1009) := by
  simp only [impl_ScNeg.f, impl_ScOf_eq, Option.bind_some]
  rw [wrap_in (by omega) (by omega)]
  simp only [Option.some.injEq]
  omega
theorem spec_ScNeg_eq (a : Int) : spec_ScNeg.f a = some ((-a) % 1009) := by
  simp only [spec_ScNeg.f, spec_ScOf_eq, Option.bind_some]
  rw [wrap_in (by omega) (by omega)]
  simp only [Option.some.injEq]
  omega

theorem spec_Divide_l1 (xs ys out : List Int) (top : Int) (hx : xs.length ≤ 64) (n : Nat) (c : Int) (hn : n + ys.length ≤ xs.length) (r : List Int × List Int)
    (next : Ev (fun k => spec_PolyDivide.l0 k (away xs ys n c) ys out top ((n : Int) - 1)) r) (d : Nat) : ∀ j, j + d = ys.length →
    Ev (fun k => spec_PolyDivide.l1 k (take_away xs ys n c j) ys out top (n : Int) c (j : Int)) r := by
  induction d with
  | zero =>
    intro j hj
    obtain rfl : j = ys.length := by omega
    refine Ev.step (fun k => ?_) next
    simp only [spec_PolyDivide.l1]
    rw [if_neg (by omega), wrap_in (by omega) (by omega)]
    rfl
  | succ d ih =>
    intro j hj
    refine Ev.step (fun k => ?_) (ih (j + 1) (by omega))
    simp only [spec_PolyDivide.l1]
    rw [if_pos (by omega), wrap_in (i := (n : Int) + (j : Int)) (by omega) (by omega), if_pos (by omega), if_pos (by rw [away_length]; omega), if_pos (by omega), spec_ScMul_eq, Option.bind_some, spec_ScNeg_eq, Option.bind_some, spec_ScAdd_eq, Option.bind_some, wrap_in (by omega) (by omega),
      show (n : Int) + (j : Int) = ((n + j : Nat) : Int) by omega, Int.toNat_natCast, rd_at, rd_at, away_at _ _ _ _ _ _ (by omega), if_neg (by omega), away_step xs ys n c j (by omega) _ (by rw [Int.mul_comm c]; omega)]
    rfl
theorem spec_Divide_l0 (ys : List Int) (top : Int) (hy : 0 < ys.length) : ∀ (n : Nat) (xs out : List Int), xs.length ≤ 64 → out.length ≤ 64 → n ≤ out.length → (n = 0 ∨ n - 1 + ys.length ≤ xs.length) →
    Ev (fun k => spec_PolyDivide.l0 k xs ys out top ((n : Int) - 1)) (trim (elim ys top n xs out).2, trim (elim ys top n xs out).1)
  | 0, xs, out, hx, ho, hn, hm => by
    obtain ⟨K1, h1⟩ := spec_PolyTrim_ev out (by omega)
    obtain ⟨K2, h2⟩ := spec_PolyTrim_ev xs (by omega)
    refine ⟨K1 + K2 + 1, fun k hk => ?_⟩
    obtain ⟨k, rfl⟩ : ∃ m, k = m + 1 := ⟨k - 1, by omega⟩
    have e1 := h1 k (by omega)
    have e2 := h2 k (by omega)
    dsimp only at e1 e2
    simp only [spec_PolyDivide.l0]
    rw [if_neg (by omega), e1, Option.bind_some, e2]
    rfl
  | n + 1, xs, out, hx, ho, hn, hm => by
    have h := spec_Divide_l0 ys top hy n (away xs ys n ((at_ xs (n + ys.length - 1) * top) % 1009)) (out.set n ((at_ xs (n + ys.length - 1) * top) % 1009)) (by rw [away, away_length]; exact hx) (by simpa using ho) (by simp; omega) (by rw [away, away_length]; omega)
    have h2 := spec_Divide_l1 xs ys _ top hx n _ (by omega) _ h ys.length 0 (by omega)
    rw [away_none] at h2
    refine Ev.step (fun k => ?_) h2
    simp only [spec_PolyDivide.l0]
    rw [show ((n + 1 : Nat) : Int) - 1 = (n : Int) by omega, if_pos (by omega), wrap_in (i := (n : Int) + (ys.length : Int)) (by omega) (by omega), wrap_in (by omega) (by omega), if_pos (by omega), if_pos (by omega), spec_ScMul_eq, Option.bind_some, if_pos (by omega), if_pos (by omega),
      show (n : Int) + (ys.length : Int) - 1 = ((n + ys.length - 1 : Nat) : Int) by omega, rd_at, Int.toNat_natCast]
    rfl
end Go.Proofs.Ytcnejiflpioaiaa.Poly
end

section
/- What is proved here: what PolyDivide answers, of the program and of the reference alike (second part). No conditions but on lengths. -/
set_option linter.unusedVariables false
set_option linter.unusedSimpArgs false
namespace Go.Proofs.Ytcnejiflpioaiaa.Poly
open Go.RowKit Go.Proofs.Ytcnejiflpioaiaa.Pf Go.Proofs.YtcnejiflpioaiaaW.PrintWords Go.Proofs.Ytcnejiflpioaiaa.Ints

theorem sinv_all : ∀ b : Fin 1009, b.val ≠ 0 → ((b.val : Int) * sinv (b.val : Int)) % 1009 = 1 := by decide +kernel
theorem sinv_right (b : Int) (h0 : 0 < b) (h1 : b ≤ 1008) : (b * sinv b) % 1009 = 1 := by
  have h := sinv_all ⟨b.toNat, by omega⟩ (by simp; omega)
  rwa [show (((⟨b.toNat, by omega⟩ : Fin 1009)).val : Int) = b by simp; omega] at h
theorem cancel (P y top : Int) (h : (y * top) % 1009 = 1) : (P - y * ((P * top) % 1009)) % 1009 = 0 := by
  have h1 : (y * ((P * top) % 1009)) % 1009 = P % 1009 := by
    rw [Int.mul_emod, Int.emod_emod, ← Int.mul_emod, Int.mul_left_comm, Int.mul_emod, h]
    omega
  omega
theorem away_red {xs ys : List Int} (s : Nat) (c : Int) (h : Red xs) : Red (away xs ys s c) := by
  intro i
  by_cases hi : i < xs.length
  · rw [away, away_at _ _ _ _ _ _ hi]
    split
    · omega
    · exact h i
  · rw [at_ge (by rw [away, away_length]; omega)]
    omega
theorem elim_red (ys : List Int) (top : Int) : ∀ n xs out, Red xs → Red (elim ys top n xs out).1
  | 0, _, _, h => h
  | n + 1, xs, out, h => elim_red ys top n _ _ (away_red _ _ h)
theorem away_zero {xs : List Int} (ys : List Int) (s : Nat) (h : Red xs) : away xs ys s 0 = xs := by
  refine (eq_tab rfl (fun i hi => ?_)).symm
  have := h i
  split
  · simp only [Int.mul_zero, Int.sub_zero]; omega
  · rfl
theorem set_zero (out : List Int) (n : Nat) (h : at_ out n = 0) : out.set n 0 = out := by
  refine ext_at (by simp) (fun i hi => ?_)
  have hl : i < out.length := by simpa using hi
  by_cases hn : n < out.length
  · rw [at_set _ _ _ _ hn]
    split
    · rename_i e; rw [e, h]
    · rfl
  · rw [List.set_eq_of_length_le (by omega)]
theorem impl_Divide_l1 (xs ys out : List Int) (top : Int) (hx : xs.length ≤ 64) (n : Nat) (c : Int) (hn : n + ys.length ≤ xs.length) (r : List Int × List Int)
    (next : Ev (fun k => impl_PolyDivide.l0 k (trim (away xs ys n c)) ys top out) r) (d : Nat) : ∀ j, j + d = ys.length →
    Ev (fun k => impl_PolyDivide.l1 k (take_away xs ys n c j) ys top out (n : Int) c ys (ys.length : Int) (j : Int)) r := by
  induction d with
  | zero =>
    intro j hj
    obtain rfl : j = ys.length := by omega
    obtain ⟨K1, h1⟩ := impl_PolyTrim_ev (away xs ys n c) (by rw [away, away_length]; omega)
    obtain ⟨K2, h2⟩ := next
    refine ⟨K1 + K2 + 1, fun k hk => ?_⟩
    obtain ⟨k, rfl⟩ : ∃ m, k = m + 1 := ⟨k - 1, by omega⟩
    have e1 := h1 k (by omega)
    have e2 := h2 k (by omega)
    dsimp only at e1 e2
    simp only [impl_PolyDivide.l1]
    rw [if_neg (by omega)]
    rw [away] at e1
    rw [e1, Option.bind_some]
    exact e2
  | succ d ih =>
    intro j hj
    refine Ev.step (fun k => ?_) (ih (j + 1) (by omega))
    simp only [impl_PolyDivide.l1]
    rw [if_pos (by omega), if_pos (by omega), if_pos (by omega), wrap_in (i := (n : Int) + (j : Int)) (by omega) (by omega), if_pos (by omega), if_pos (by rw [away_length]; omega), impl_ScMul_eq, Option.bind_some, impl_ScNeg_eq, Option.bind_some, impl_ScAdd_eq, Option.bind_some, wrap_in (by omega) (by omega),
      show (n : Int) + (j : Int) = ((n + j : Nat) : Int) by omega, Int.toNat_natCast, rd_at, rd_at, away_at _ _ _ _ _ _ (by omega), if_neg (by omega), away_step xs ys n c j (by omega) _ (by omega)]
    rfl
theorem impl_Divide_l0 (ys : List Int) (top : Int) (hy : 0 < ys.length) (hy2 : ys.length ≤ 64) (ht : (at_ ys (ys.length - 1) * top) % 1009 = 1) : ∀ (n : Nat) (xs out : List Int), Red xs → xs.length ≤ 64 → out.length ≤ 64 → n ≤ out.length →
    (∀ i, n + ys.length - 1 ≤ i → at_ xs i = 0) → (∀ i, i < n → at_ out i = 0) →
    Ev (fun k => impl_PolyDivide.l0 k (cut xs) ys top out) (trim (elim ys top n xs out).2, cut (elim ys top n xs out).1)
  | 0, xs, out, hr, hx, ho, hn, hz, hoz => by
    obtain ⟨K1, h1⟩ := impl_PolyTrim_ev out (by omega)
    refine ⟨K1 + 1, fun k hk => ?_⟩
    obtain ⟨k, rfl⟩ : ∃ m, k = m + 1 := ⟨k - 1, by omega⟩
    have e1 := h1 k (by omega)
    dsimp only at e1
    have hc : (cut xs).length < ys.length := by
      rw [cut_take xs (ys.length - 1) (fun i hi => hz i (by omega))]
      have := cut_length (xs.take (ys.length - 1))
      rw [List.length_take] at this
      omega
    simp only [impl_PolyDivide.l0]
    rw [if_neg (by omega), e1, Option.bind_some]
    rfl
  | n + 1, xs, out, hr, hx, ho, hn, hz, hoz => by
    by_cases h0 : at_ xs (n + ys.length - 1) = 0
    · have e : elim ys top (n + 1) xs out = elim ys top n xs out := by
        rw [elim, h0, Int.zero_mul, show (0 : Int) % 1009 = 0 from rfl, away_zero ys n hr, set_zero out n (hoz n (by omega))]
      rw [e]
      refine impl_Divide_l0 ys top hy hy2 ht n xs out hr hx ho (by omega) (fun i hi => ?_) (fun i hi => hoz i (by omega))
      by_cases hi2 : i = n + ys.length - 1
      · rw [hi2, h0]
      · exact hz i (by omega)
    · have hlen : n + ys.length ≤ xs.length := by
        rcases Nat.lt_or_ge (n + ys.length - 1) xs.length with h1 | h1
        · omega
        · exact absurd (at_ge h1) h0
      have hcut : cut xs = xs.take (n + ys.length) := by
        have := cut_top xs (n + ys.length - 1) (fun i hi => hz i (by omega)) h0
        rwa [show n + ys.length - 1 + 1 = n + ys.length by omega] at this
      have hl : (xs.take (n + ys.length)).length = n + ys.length := by rw [List.length_take]; omega
      have hp : at_ (xs.take (n + ys.length)) (n + ys.length - 1) = at_ xs (n + ys.length - 1) := by rw [take_at, if_pos (by omega)]
      rw [elim]
      generalize hc : (at_ xs (n + ys.length - 1) * top) % 1009 = c
      have htr : trim (away (xs.take (n + ys.length)) ys n c) = cut (away xs ys n c) := by
        rw [red_trim (away_red n c (fun i => by rw [take_at]; split; exact hr i; omega))]
        refine cut_same (fun i => ?_)
        by_cases hi : i < n + ys.length
        · rw [away, away, away_at _ _ _ _ _ _ (by omega), away_at _ _ _ _ _ _ (by omega), take_at, if_pos hi]
        · rw [at_ge (by rw [away, away_length]; omega)]
          by_cases hi2 : i < xs.length
          · rw [away, away_at _ _ _ _ _ _ hi2, if_neg (by omega), hz i (by omega)]
          · rw [at_ge (by rw [away, away_length]; omega)]
      have next := impl_Divide_l0 ys top hy hy2 ht n (away xs ys n c) (out.set n c) (away_red _ _ hr) (by rw [away, away_length]; exact hx) (by simpa using ho) (by simp; omega)
        (fun i hi => by
          by_cases hi2 : i < xs.length
          · rw [away, away_at _ _ _ _ _ _ hi2]
            by_cases hi3 : i = n + ys.length - 1
            · subst hi3
              rw [if_pos (by omega), show n + ys.length - 1 - n = ys.length - 1 by omega, ← hc]
              exact cancel _ _ _ ht
            · rw [if_neg (by omega), hz i (by omega)]
          · exact at_ge (by rw [away, away_length]; omega))
        (fun i hi => by rw [at_set _ _ _ _ (by omega), if_neg (by omega), hoz i (by omega)])
      rw [← htr] at next
      have h2 := impl_Divide_l1 (xs.take (n + ys.length)) ys (out.set n c) top (by omega) n c (by omega) _ next ys.length 0 (by omega)
      rw [away_none] at h2
      refine Ev.step (fun k => ?_) h2
      simp only [impl_PolyDivide.l0]
      rw [hcut, hl, if_pos (by omega), wrap_in (i := ((n + ys.length : Nat) : Int) - 1) (by omega) (by omega), if_pos (by omega), if_pos (by omega), impl_ScMul_eq, Option.bind_some, wrap_in (by omega) (by omega), show ((n + ys.length : Nat) : Int) - (ys.length : Int) = (n : Int) by omega, if_pos (by omega), if_pos (by omega),
        show ((n + ys.length : Nat) : Int) - 1 = ((n + ys.length - 1 : Nat) : Int) by omega, rd_at, hp, hc, Int.toNat_natCast]
      rfl

def pdivide (xs ys : List Int) : List Int × List Int :=
  if xs.length > 64 ∨ ys.length > 64 then ([], []) else
  if (trim ys).length = 0 ∨ (trim xs).length < (trim ys).length then ([], trim xs) else
  (trim (elim (trim ys) (sinv (at_ (trim ys) ((trim ys).length - 1))) ((trim xs).length - (trim ys).length + 1) (trim xs) (tab ((trim xs).length - (trim ys).length + 1) (fun _ => 0))).2,
   cut (elim (trim ys) (sinv (at_ (trim ys) ((trim ys).length - 1))) ((trim xs).length - (trim ys).length + 1) (trim xs) (tab ((trim xs).length - (trim ys).length + 1) (fun _ => 0))).1)
theorem cut_trim (xs : List Int) : cut (trim xs) = trim xs := cut_cut _
theorem last_inv (ys : List Int) (h : (trim ys).length ≠ 0) : (at_ (trim ys) ((trim ys).length - 1) * sinv (at_ (trim ys) ((trim ys).length - 1))) % 1009 = 1 := by
  have h1 := trim_red ys ((trim ys).length - 1)
  have h2 : at_ (trim ys) ((trim ys).length - 1) ≠ 0 := by
    rcases cut_last (ys.map (· % 1009)) with h3 | h3
    · exact absurd (by rw [trim, h3]; rfl) h
    · exact h3
  exact sinv_right _ (by omega) (by omega)
theorem impl_PolyDivide_ev (xs ys : List Int) : Ev (fun k => impl_PolyDivide.f k xs ys) (pdivide xs ys) := by
  by_cases h1 : xs.length > 64
  · rw [pdivide, if_pos (.inl h1)]
    exact Ev.one fun k => by simp only [impl_PolyDivide.f, impl_PolyDivide.j0]; rw [if_pos (by omega), if_pos trivial]
  by_cases h2 : ys.length > 64
  · rw [pdivide, if_pos (.inr h2)]
    exact Ev.one fun k => by simp only [impl_PolyDivide.f, impl_PolyDivide.j0]; rw [if_neg (by omega), if_pos (decide_eq_true (by omega))]
  have l1 := trim_length xs
  have l2 := trim_length ys
  have hf : ∀ k, impl_PolyDivide.f (k + 1) xs ys = impl_PolyDivide.j0 (k + 1) xs ys false := by
    intro k
    simp only [impl_PolyDivide.f]
    rw [if_neg (by omega), decide_eq_false (by omega)]
  obtain ⟨K1, e1⟩ := impl_PolyTrim_ev xs (by omega)
  obtain ⟨K2, e2⟩ := impl_PolyTrim_ev ys (by omega)
  obtain ⟨K3, e3⟩ := impl_ScInv_ev (at_ (trim ys) ((trim ys).length - 1))
  rw [pdivide, if_neg (by omega)]
  by_cases h3 : (trim ys).length = 0
  · rw [if_pos (.inl h3)]
    refine ⟨K1 + K2 + 1, fun k hk => ?_⟩
    obtain ⟨k, rfl⟩ : ∃ m, k = m + 1 := ⟨k - 1, by omega⟩
    have g1 := e1 k (by omega)
    have g2 := e2 k (by omega)
    dsimp only at g1 g2 ⊢
    rw [hf]
    simp only [impl_PolyDivide.j0, g1, g2, Option.bind_some]
    rw [if_neg (by simp), if_pos (by omega)]
  · have hfin : ∀ r, (∃ K, ∀ k, K ≤ k → impl_PolyDivide.l0 k (trim xs) (trim ys) (sinv (at_ (trim ys) ((trim ys).length - 1))) (tab ((trim xs).length + 1 - (trim ys).length) (fun _ => 0)) = some r) → Ev (fun k => impl_PolyDivide.f k xs ys) r := by
      rintro r ⟨K4, e4⟩
      refine ⟨K1 + K2 + K3 + K4 + 1, fun k hk => ?_⟩
      obtain ⟨k, rfl⟩ : ∃ m, k = m + 1 := ⟨k - 1, by omega⟩
      have g1 := e1 k (by omega)
      have g2 := e2 k (by omega)
      have g3 := e3 k (by omega)
      have g4 := e4 k (by omega)
      dsimp only at g1 g2 g3 ⊢
      rw [hf]
      simp only [impl_PolyDivide.j0, g1, g2, Option.bind_some]
      have hm : mx (wrap64 (wrap64 (((trim xs).length : Int) - ((trim ys).length : Int)) + 1)) 0 = (((trim xs).length + 1 - (trim ys).length : Nat) : Int) := by
        rw [wrap_in (i := ((trim xs).length : Int) - ((trim ys).length : Int)) (by omega) (by omega), wrap_in (by omega) (by omega)]
        unfold mx
        split <;> omega
      rw [if_neg (by simp), if_neg (by omega), wrap_in (i := ((trim ys).length : Int) - 1) (by omega) (by omega), if_pos (by omega), if_pos (by omega), show ((trim ys).length : Int) - 1 = (((trim ys).length - 1 : Nat) : Int) by omega, rd_at, g3, Option.bind_some, hm, if_pos (by omega), Int.toNat_natCast, if_pos (by omega), replicate_tab]
      exact g4
    by_cases h4 : (trim xs).length < (trim ys).length
    · rw [if_pos (.inr h4)]
      refine hfin _ ?_
      rw [show (trim xs).length + 1 - (trim ys).length = 0 by omega]
      obtain ⟨K5, e5⟩ := impl_PolyTrim_ev [] (by simp)
      refine ⟨K5 + 1, fun k hk => ?_⟩
      obtain ⟨k, rfl⟩ : ∃ m, k = m + 1 := ⟨k - 1, by omega⟩
      have g5 := e5 k (by omega)
      dsimp only at g5
      simp only [impl_PolyDivide.l0]
      rw [if_neg (by omega), show tab 0 (fun _ => 0) = [] from rfl, g5]
      rfl
    · rw [if_neg (by omega)]
      refine hfin _ ?_
      rw [show (trim xs).length + 1 - (trim ys).length = (trim xs).length - (trim ys).length + 1 by omega]
      have h := impl_Divide_l0 (trim ys) (sinv (at_ (trim ys) ((trim ys).length - 1))) (by omega) (by omega) (last_inv ys h3) ((trim xs).length - (trim ys).length + 1) (trim xs) (tab ((trim xs).length - (trim ys).length + 1) (fun _ => 0))
        (trim_red xs) (by omega) (by rw [tab_length]; omega) (by rw [tab_length]; omega) (fun i hi => at_ge (by omega)) (fun i hi => by rw [tab_at _ _ _ hi])
      rw [cut_trim] at h
      exact h
theorem spec_PolyDivide_ev (xs ys : List Int) : Ev (fun k => spec_PolyDivide.f k xs ys) (pdivide xs ys) := by
  by_cases h1 : xs.length > 64
  · rw [pdivide, if_pos (.inl h1)]
    exact Ev.one fun k => by simp only [spec_PolyDivide.f, spec_PolyDivide.j0]; rw [if_pos (by omega), if_pos trivial]
  by_cases h2 : ys.length > 64
  · rw [pdivide, if_pos (.inr h2)]
    exact Ev.one fun k => by simp only [spec_PolyDivide.f, spec_PolyDivide.j0]; rw [if_neg (by omega), if_pos (decide_eq_true (by omega))]
  have l1 := trim_length xs
  have l2 := trim_length ys
  have hf : ∀ k, spec_PolyDivide.f (k + 1) xs ys = spec_PolyDivide.j0 (k + 1) xs ys false := by
    intro k
    simp only [spec_PolyDivide.f]
    rw [if_neg (by omega), decide_eq_false (by omega)]
  obtain ⟨K1, e1⟩ := spec_PolyTrim_ev xs (by omega)
  obtain ⟨K2, e2⟩ := spec_PolyTrim_ev ys (by omega)
  obtain ⟨K3, e3⟩ := spec_ScInv_ev (at_ (trim ys) ((trim ys).length - 1))
  rw [pdivide, if_neg (by omega)]
  by_cases h3 : (trim ys).length = 0 ∨ (trim xs).length < (trim ys).length
  · rw [if_pos h3]
    refine ⟨K1 + K2 + 2, fun k hk => ?_⟩
    obtain ⟨k, rfl⟩ : ∃ m, k = m + 2 := ⟨k - 2, by omega⟩
    have g1 := e1 (k + 1) (by omega)
    have g2 := e2 (k + 1) (by omega)
    dsimp only at g1 g2 ⊢
    rw [hf]
    simp only [spec_PolyDivide.j0, g1, g2, Option.bind_some]
    rw [if_neg (by simp)]
    by_cases h4 : (trim ys).length = 0
    · rw [if_pos (by omega)]
      simp only [spec_PolyDivide.j1]
      rw [if_pos trivial]
    · rw [if_neg (by omega)]
      simp only [spec_PolyDivide.j1]
      rw [if_pos (decide_eq_true (by omega))]
  · rw [if_neg h3]
    obtain ⟨K4, e4⟩ := spec_Divide_l0 (trim ys) (sinv (at_ (trim ys) ((trim ys).length - 1))) (by omega) ((trim xs).length - (trim ys).length + 1) (trim xs) (tab ((trim xs).length - (trim ys).length + 1) (fun _ => 0)) (by omega) (by rw [tab_length]; omega) (by rw [tab_length]; omega) (.inr (by omega))
    refine ⟨K1 + K2 + K3 + K4 + 2, fun k hk => ?_⟩
    obtain ⟨k, rfl⟩ : ∃ m, k = m + 2 := ⟨k - 2, by omega⟩
    have g1 := e1 (k + 1) (by omega)
    have g2 := e2 (k + 1) (by omega)
    have g3 := e3 k (by omega)
    have g4 := e4 k (by omega)
    dsimp only at g1 g2 g3 g4 ⊢
    rw [hf]
    simp only [spec_PolyDivide.j0, g1, g2, Option.bind_some]
    rw [if_neg (by simp), if_neg (by omega), decide_eq_false (by omega)]
    simp only [spec_PolyDivide.j1]
    rw [if_neg (by simp), wrap_in (i := ((trim xs).length : Int) - ((trim ys).length : Int)) (by omega) (by omega), wrap_in (by omega) (by omega), if_pos (by omega), show ((trim xs).length : Int) - ((trim ys).length : Int) + 1 = (((trim xs).length - (trim ys).length + 1 : Nat) : Int) by omega, Int.toNat_natCast, if_pos (by omega), Option.bind_some, replicate_tab, tab_length,
      wrap_in (i := ((trim ys).length : Int) - 1) (by omega) (by omega), if_pos (by omega), if_pos (by omega), show ((trim ys).length : Int) - 1 = (((trim ys).length - 1 : Nat) : Int) by omega, rd_at, g3, Option.bind_some, wrap_in (by omega) (by omega), g4]
    congr 2
    exact red_trim (elim_red _ _ _ _ _ (trim_red xs))
theorem pdivide_length (xs ys : List Int) : (pdivide xs ys).1.length ≤ 65 ∧ (pdivide xs ys).2.length ≤ 64 := by
  have l1 := trim_length xs
  unfold pdivide
  split
  · simp
  · split
    · simp; omega
    · have h := elim_length (trim ys) (sinv (at_ (trim ys) ((trim ys).length - 1))) ((trim xs).length - (trim ys).length + 1) (trim xs) (tab ((trim xs).length - (trim ys).length + 1) (fun _ => 0))
      rw [tab_length] at h
      have t1 := trim_length (elim (trim ys) (sinv (at_ (trim ys) ((trim ys).length - 1))) ((trim xs).length - (trim ys).length + 1) (trim xs) (tab ((trim xs).length - (trim ys).length + 1) (fun _ => 0))).2
      have t2 := cut_length (elim (trim ys) (sinv (at_ (trim ys) ((trim ys).length - 1))) ((trim xs).length - (trim ys).length + 1) (trim xs) (tab ((trim xs).length - (trim ys).length + 1) (fun _ => 0))).1
      refine ⟨?_, ?_⟩
      · dsimp only; omega
      · dsimp only; omega
end Go.Proofs.Ytcnejiflpioaiaa.Poly
end

section
/- What is proved here: what is divided is put together again, and what is left is shorter, for the plain division of lists modulo 1009. No conditions but on lengths. -/
set_option linter.unusedVariables false
set_option linter.unusedSimpArgs false
namespace Go.Proofs.Ytcnejiflpioaiaa.Poly
open Go.RowKit Go.Proofs.Ytcnejiflpioaiaa.Pf Go.Proofs.YtcnejiflpioaiaaW.PrintWords Go.Proofs.Ytcnejiflpioaiaa.Ints

theorem elim_keep (ys : List Int) (top : Int) : ∀ (n : Nat) (xs out : List Int) (j : Nat), n ≤ j → at_ (elim ys top n xs out).2 j = at_ out j
  | 0, _, _, _, _ => rfl
  | n + 1, xs, out, j, h => by
    rw [elim, elim_keep ys top n _ _ j (by omega)]
    by_cases hn : n < out.length
    · rw [at_set _ _ _ _ hn, if_neg (by omega)]
    · rw [List.set_eq_of_length_le (by omega)]
theorem mul_cong {a b : Int} (c : Int) (h : a % 1009 = b % 1009) : (a * c) % 1009 = (b * c) % 1009 := by rw [Int.mul_emod, h, ← Int.mul_emod]
theorem conv_cong {xs xs' : List Int} (ys : List Int) (h : ∀ j, at_ xs j % 1009 = at_ xs' j % 1009) (n : Nat) : ∀ k, conv xs ys k n % 1009 = conv xs' ys k n % 1009
  | 0 => rfl
  | k + 1 => by
    have h1 := conv_cong ys h n k
    rw [conv, conv]
    by_cases c : k ≤ n
    · have h2 := mul_cong (at_ ys (n - k)) (h k)
      rw [if_pos c, if_pos c]
      omega
    · rw [if_neg c, if_neg c]
      omega
theorem conv_more (xs ys : List Int) (n : Nat) : ∀ d, conv xs ys (xs.length + d) n = conv xs ys xs.length n
  | 0 => rfl
  | d + 1 => by
    rw [← Nat.add_assoc, conv, conv_more xs ys n d, at_ge (xs := xs) (by omega)]
    simp
theorem elim_sum (ys : List Int) (top : Int) : ∀ (n : Nat) (xs out : List Int), n ≤ out.length → ∀ i, i < xs.length → at_ xs i % 1009 = (at_ (elim ys top n xs out).1 i + conv (elim ys top n xs out).2 ys n i) % 1009
  | 0, xs, out, _, i, _ => by simp [elim, conv]
  | n + 1, xs, out, hn, i, hi => by
    rw [elim]
    generalize (at_ xs (n + ys.length - 1) * top) % 1009 = c
    have h := elim_sum ys top n (away xs ys n c) (out.set n c) (by simp; omega) i (by rw [away, away_length]; exact hi)
    have hk := elim_keep ys top n (away xs ys n c) (out.set n c) n (Nat.le_refl n)
    rw [at_set _ _ _ _ (by omega), if_pos rfl] at hk
    rw [conv, hk]
    rw [away, away_at _ _ _ _ _ _ hi] at h
    rw [← away] at h
    by_cases h1 : n ≤ i
    · rw [if_pos h1]
      by_cases h2 : i - n < ys.length
      · rw [if_pos ⟨h1, h2⟩] at h
        rw [Int.mul_comm c]
        omega
      · rw [if_neg (by omega)] at h
        rw [at_ge (xs := ys) (by omega), Int.mul_zero]
        omega
    · rw [if_neg (by omega)] at h
      rw [if_neg h1]
      omega
theorem away_top (ys : List Int) (top : Int) (hy : 0 < ys.length) (ht : (at_ ys (ys.length - 1) * top) % 1009 = 1) (xs : List Int) (n : Nat) (hz : ∀ i, n + ys.length ≤ i → at_ xs i = 0) :
    ∀ i, n + ys.length - 1 ≤ i → at_ (away xs ys n ((at_ xs (n + ys.length - 1) * top) % 1009)) i = 0 := by
  intro i hi
  by_cases hi2 : i < xs.length
  · rw [away, away_at _ _ _ _ _ _ hi2]
    by_cases hi3 : i = n + ys.length - 1
    · subst hi3
      rw [if_pos (by omega), show n + ys.length - 1 - n = ys.length - 1 by omega]
      exact cancel _ _ _ ht
    · rw [if_neg (by omega), hz i (by omega)]
  · exact at_ge (by rw [away, away_length]; omega)
theorem elim_left (ys : List Int) (top : Int) (hy : 0 < ys.length) (ht : (at_ ys (ys.length - 1) * top) % 1009 = 1) : ∀ (n : Nat) (xs out : List Int), (∀ i, n + ys.length - 1 ≤ i → at_ xs i = 0) → ∀ i, ys.length - 1 ≤ i → at_ (elim ys top n xs out).1 i = 0
  | 0, xs, out, hz, i, hi => hz i (by omega)
  | n + 1, xs, out, hz, i, hi => by
    rw [elim]
    exact elim_left ys top hy ht n _ _ (away_top ys top hy ht xs n (fun i hi => hz i (by omega))) i hi
theorem at_pmul (xs ys : List Int) (hx : xs.length ≤ 64) (hy : ys.length ≤ 64) (i : Nat) : at_ (pmul xs ys) i = conv xs ys xs.length i % 1009 := by
  rw [pmul, if_neg (by omega), at_trim]
  by_cases h : i < xs.length + ys.length
  · rw [tab_at _ _ _ h]
  · rw [at_ge (by rw [tab_length]; omega), conv_end xs ys i xs.length (Nat.le_refl _) (by omega)]
theorem padd_is (xs ys zs : List Int) (h : ∀ i, (at_ xs i + at_ ys i) % 1009 = at_ zs i % 1009) : padd xs ys = trim zs := by
  unfold padd trim
  refine cut_same (fun i => ?_)
  rw [at_emod, at_emod, ← h i]
  by_cases hi : i < max xs.length ys.length
  · rw [tab_at _ _ _ hi]; omega
  · rw [at_ge (by rw [tab_length]; omega), at_ge (xs := xs) (by omega), at_ge (xs := ys) (by omega)]; rfl
theorem trim_trim (xs : List Int) : trim (trim xs) = trim xs := by rw [red_trim (trim_red xs), cut_trim]
theorem divide_back (xs ys : List Int) (hx : xs.length ≤ 64) (hy : ys.length ≤ 64) : padd (pmul (pdivide xs ys).1 (trim ys)) (pdivide xs ys).2 = trim xs := by
  have l1 := trim_length xs
  have l2 := trim_length ys
  rw [pdivide, if_neg (by omega)]
  by_cases h : (trim ys).length = 0 ∨ (trim xs).length < (trim ys).length
  · rw [if_pos h]
    dsimp only
    rw [pmul_nil_l, ← trim_trim xs]
    refine padd_is _ _ _ (fun i => ?_)
    rw [at_ge (xs := []) (by simp), Int.zero_add, at_trim]
    omega
  · rw [if_neg h]
    dsimp only
    rw [← trim_trim xs]
    have hf := elim_length (trim ys) (sinv (at_ (trim ys) ((trim ys).length - 1))) ((trim xs).length - (trim ys).length + 1) (trim xs) (tab ((trim xs).length - (trim ys).length + 1) (fun _ => 0))
    have hs := elim_sum (trim ys) (sinv (at_ (trim ys) ((trim ys).length - 1))) ((trim xs).length - (trim ys).length + 1) (trim xs) (tab ((trim xs).length - (trim ys).length + 1) (fun _ => 0)) (by rw [tab_length]; omega)
    rw [tab_length] at hf
    rw [trim_trim]
    generalize elim (trim ys) (sinv (at_ (trim ys) ((trim ys).length - 1))) ((trim xs).length - (trim ys).length + 1) (trim xs) (tab ((trim xs).length - (trim ys).length + 1) (fun _ => 0)) = e at *
    obtain ⟨L, F⟩ := e
    dsimp only at *
    have lq := trim_length F
    rw [← trim_trim xs]
    refine padd_is _ _ _ (fun i => ?_)
    rw [at_pmul _ _ (by omega) (by omega), at_cut]
    have e1 : conv (trim F) (trim ys) (trim F).length i = conv (trim F) (trim ys) F.length i := by
      have := conv_more (trim F) (trim ys) i (F.length - (trim F).length)
      rw [show (trim F).length + (F.length - (trim F).length) = F.length by omega] at this
      exact this.symm
    have e2 := conv_cong (xs := trim F) (xs' := F) (trim ys) (fun j => by rw [at_trim]; omega) i F.length
    rw [e1]
    by_cases hi : i < (trim xs).length
    · have h3 := hs i hi
      rw [hf.2] at e2
      rw [hf.2]
      omega
    · have e3 := conv_end F (trim ys) i F.length (Nat.le_refl _) (by omega)
      have e4 : at_ L i = 0 := at_ge (by omega)
      have e5 : at_ (trim xs) i = 0 := at_ge (by omega)
      rw [e3] at e2
      rw [e4, e5]
      omega
theorem divide_left (xs ys : List Int) (hx : xs.length ≤ 64) (hy : ys.length ≤ 64) : (trim ys).length = 0 ∨ (pdivide xs ys).2.length < (trim ys).length := by
  rw [pdivide, if_neg (by omega)]
  by_cases h : (trim ys).length = 0
  · exact .inl h
  · refine .inr ?_
    by_cases h2 : (trim xs).length < (trim ys).length
    · rw [if_pos (.inr h2)]
      exact h2
    · rw [if_neg (by omega)]
      dsimp only
      rw [cut_take _ ((trim ys).length - 1) (elim_left (trim ys) _ (by omega) (last_inv ys h) _ _ _ (fun i hi => at_ge (by omega)))]
      have := cut_length ((elim (trim ys) (sinv (at_ (trim ys) ((trim ys).length - 1))) ((trim xs).length - (trim ys).length + 1) (trim xs) (tab ((trim xs).length - (trim ys).length + 1) (fun _ => 0))).1.take ((trim ys).length - 1))
      rw [List.length_take] at this
      omega
end Go.Proofs.Ytcnejiflpioaiaa.Poly
end

section
/- What is proved here: sums and products of lists are so at each place, and the list through given numbers goes through them, modulo 1009. No conditions but on lengths. -/
set_option linter.unusedVariables false
set_option linter.unusedSimpArgs false
namespace Go.Proofs.Ytcnejiflpioaiaa.Poly
open Go.RowKit Go.Proofs.Ytcnejiflpioaiaa.Pf Go.Proofs.YtcnejiflpioaiaaW.PrintWords Go.Proofs.Ytcnejiflpioaiaa.Ints

/-- the value of the first n numbers of f -/
def evn (f : Nat → Int) (x : Int) : Nat → Int
  | 0 => 0
  | n + 1 => evn f x n + f n * x ^ n
theorem evn_cong {f g : Nat → Int} (x : Int) : ∀ n, (∀ i, i < n → f i % 1009 = g i % 1009) → evn f x n % 1009 = evn g x n % 1009
  | 0, _ => rfl
  | n + 1, h => by
    have h1 := evn_cong x n (fun i hi => h i (by omega))
    have h2 := mul_cong (x ^ n) (h n (by omega))
    rw [evn, evn]
    omega
theorem evn_eq {f g : Nat → Int} (x : Int) : ∀ n, (∀ i, i < n → f i = g i) → evn f x n = evn g x n
  | 0, _ => rfl
  | n + 1, h => by rw [evn, evn, evn_eq x n (fun i hi => h i (by omega)), h n (by omega)]
theorem evn_more (f : Nat → Int) (x : Int) (n : Nat) (h : ∀ i, n ≤ i → f i = 0) : ∀ d, evn f x (n + d) = evn f x n
  | 0 => rfl
  | d + 1 => by rw [← Nat.add_assoc, evn, evn_more f x n h d, h (n + d) (by omega)]; simp
theorem evn_add (f g : Nat → Int) (x : Int) : ∀ n, evn (fun i => f i + g i) x n = evn f x n + evn g x n
  | 0 => rfl
  | n + 1 => by rw [evn, evn, evn, evn_add f g x n, Int.add_mul]; omega
theorem evn_mul (f : Nat → Int) (c x : Int) : ∀ n, evn (fun i => f i * c) x n = evn f x n * c
  | 0 => by simp [evn]
  | n + 1 => by rw [evn, evn, evn_mul f c x n, Int.add_mul, Int.mul_right_comm]
theorem evn_shift (g : Nat → Int) (c x : Int) (k : Nat) : ∀ n, evn (fun i => if k ≤ i then c * g (i - k) else 0) x (k + n) = c * x ^ k * evn g x n
  | 0 => by
    have : ∀ m, m ≤ k → evn (fun i => if k ≤ i then c * g (i - k) else 0) x m = 0 := by
      intro m
      induction m with
      | zero => intro _; rfl
      | succ m ih => intro hm; rw [evn, ih (by omega), if_neg (by omega)]; simp
    rw [Nat.add_zero, this k (Nat.le_refl _)]
    simp [evn]
  | n + 1 => by
    rw [← Nat.add_assoc, evn, evn_shift g c x k n, evn, if_pos (by omega), show k + n - k = n by omega, Int.mul_add, Int.pow_add]
    congr 1
    rw [Int.mul_assoc, Int.mul_assoc, Int.mul_left_comm (g n)]
theorem foldr_evn (x : Int) : ∀ (xs : List Int), xs.foldr (fun c acc => acc * x + c) 0 = evn (at_ xs) x xs.length := by
  have key : ∀ (n : Nat) (xs : List Int) (z : Int), xs.length = n → xs.foldr (fun c acc => acc * x + c) z = evn (at_ xs) x n + z * x ^ n := by
    intro n
    induction n with
    | zero =>
      intro xs z h
      obtain rfl := List.eq_nil_of_length_eq_zero h
      simp [evn]
    | succ n ih =>
      intro xs z h
      rcases List.eq_nil_or_concat xs with rfl | ⟨ys, c, rfl⟩
      · simp at h
      · rw [List.concat_eq_append] at h ⊢
        have hy : ys.length = n := by simpa using h
        rw [List.foldr_append, List.foldr_cons, List.foldr_nil, ih ys _ hy, evn]
        have e1 : evn (at_ (ys ++ [c])) x n = evn (at_ ys) x n := evn_eq x n (fun i hi => by
          rw [at_lt (by simp; omega), at_lt (by omega), List.getElem_append_left (by omega)])
        have e2 : at_ (ys ++ [c]) n = c := by rw [at_lt (by simp; omega)]; simp [← hy]
        rw [e1, e2, Int.add_mul, Int.pow_succ, Int.mul_assoc, Int.mul_comm x]
        omega
  intro xs
  have := key xs.length xs 0 rfl
  simpa using this
theorem pat_foldr (xs : List Int) (x : Int) : pat xs x = xs.foldr (fun c acc => acc * x + c) 0 % 1009 := by
  induction xs with
  | nil => rfl
  | cons c xs ih =>
    have h1 : pat (c :: xs) x = (pat xs x * x + c) % 1009 := rfl
    rw [h1, ih, List.foldr_cons]
    have := mul_cong (a := xs.foldr (fun c acc => acc * x + c) 0 % 1009) (b := xs.foldr (fun c acc => acc * x + c) 0) x (by omega)
    omega
theorem pat_evn (xs : List Int) (x : Int) (n : Nat) (hn : xs.length ≤ n) : pat xs x = evn (at_ xs) x n % 1009 := by
  rw [pat_foldr, foldr_evn]
  have := evn_more (at_ xs) x xs.length (fun i hi => at_ge hi) (n - xs.length)
  rw [show xs.length + (n - xs.length) = n by omega] at this
  rw [this]
theorem pat_range (xs : List Int) (x : Int) : 0 ≤ pat xs x ∧ pat xs x ≤ 1008 := by
  rw [pat_foldr]
  omega
theorem pat_add (xs ys : List Int) (x : Int) : pat (padd xs ys) x = (pat xs x + pat ys x) % 1009 := by
  have hp := padd_length xs ys
  rw [pat_evn (padd xs ys) x (max xs.length ys.length) hp, pat_evn xs x (max xs.length ys.length) (by omega), pat_evn ys x (max xs.length ys.length) (by omega)]
  have h := evn_cong (f := at_ (padd xs ys)) (g := fun i => at_ xs i + at_ ys i) x (max xs.length ys.length) (fun i hi => by
    rw [padd, at_trim, tab_at _ _ _ hi]; omega)
  rw [evn_add] at h
  omega
theorem evn_conv (xs ys : List Int) (x : Int) (N : Nat) : ∀ k, k + ys.length ≤ N → evn (conv xs ys k) x N = evn (at_ xs) x k * evn (at_ ys) x ys.length
  | 0, _ => by
    have : ∀ n, evn (conv xs ys 0) x n = 0 := by
      intro n
      induction n with
      | zero => rfl
      | succ n ih => rw [evn, ih]; simp [conv]
    rw [this]
    simp [evn]
  | k + 1, h => by
    have e : evn (conv xs ys (k + 1)) x N = evn (conv xs ys k) x N + evn (fun i => if k ≤ i then at_ xs k * at_ ys (i - k) else 0) x N := by
      rw [← evn_add]
      exact evn_eq x N (fun i _ => rfl)
    have e2 : evn (fun i => if k ≤ i then at_ xs k * at_ ys (i - k) else 0) x N = at_ xs k * x ^ k * evn (at_ ys) x ys.length := by
      rw [← evn_shift]
      have := evn_more (fun i => if k ≤ i then at_ xs k * at_ ys (i - k) else 0) x (k + ys.length) (fun i hi => by
        rw [if_pos (by omega), at_ge (xs := ys) (by omega)]; simp) (N - (k + ys.length))
      rwa [show k + ys.length + (N - (k + ys.length)) = N by omega] at this
    rw [e, evn_conv xs ys x N k (by omega), e2, evn, Int.add_mul]
theorem pat_mul (xs ys : List Int) (x : Int) (hx : xs.length ≤ 64) (hy : ys.length ≤ 64) : pat (pmul xs ys) x = (pat xs x * pat ys x) % 1009 := by
  have hl : (pmul xs ys).length ≤ xs.length + ys.length := by
    rw [pmul, if_neg (by omega)]
    have := trim_length (tab (xs.length + ys.length) (conv xs ys xs.length))
    rwa [tab_length] at this
  rw [pat_evn (pmul xs ys) x (xs.length + ys.length) hl, pat_evn xs x xs.length (Nat.le_refl _), pat_evn ys x ys.length (Nat.le_refl _)]
  have h := evn_cong (f := at_ (pmul xs ys)) (g := conv xs ys xs.length) x (xs.length + ys.length) (fun i hi => by rw [at_pmul xs ys hx hy]; omega)
  rw [h, evn_conv xs ys x _ xs.length (Nat.le_refl _), Int.mul_emod]
theorem pat_scale (xs : List Int) (c x : Int) : pat (scale xs c) x = (pat xs x * c) % 1009 := by
  rw [pat_evn (scale xs c) x xs.length (by rw [scale_length]; exact Nat.le_refl _), pat_evn xs x xs.length (Nat.le_refl _)]
  have h := evn_cong (f := at_ (scale xs c)) (g := fun i => at_ xs i * c) x xs.length (fun i hi => by rw [scale_tab, tab_at _ _ _ hi]; omega)
  rw [evn_mul] at h
  rw [h]
  exact (mul_cong c (by omega)).symm
theorem pat_two (a x : Int) : pat [a, 1] x = (a + x) % 1009 := by
  have h : pat [a, 1] x = ((((0 * x + 1) % 1009) * x + a) % 1009) := rfl
  rw [h]
  simp
  omega
end Go.Proofs.Ytcnejiflpioaiaa.Poly
end

section
/- What is proved here: the list through given numbers has them as its values at 1, 2, 3, .. modulo 1009. No conditions but on lengths. -/
set_option linter.unusedVariables false
set_option linter.unusedSimpArgs false
namespace Go.Proofs.Ytcnejiflpioaiaa.Poly
open Go.RowKit Go.Proofs.Ytcnejiflpioaiaa.Pf Go.Proofs.YtcnejiflpioaiaaW.PrintWords Go.Proofs.Ytcnejiflpioaiaa.Ints

theorem pmul_two (xs : List Int) (a : Int) (h : xs.length ≤ 64) : (pmul xs [a, 1]).length ≤ xs.length + 2 := by
  rw [pmul, if_neg (by simp; omega)]
  have := trim_length (tab (xs.length + [a, 1].length) (conv xs [a, 1] xs.length))
  rw [tab_length] at this
  exact this
theorem tb_short (i : Int) : ∀ d j t b, t.length + 2 * d ≤ 64 → (tb i d j t b).1.length ≤ 64
  | 0, _, _, _, h => by rw [tb]; omega
  | d + 1, j, t, b, h => by
    rw [tb]
    split
    · exact tb_short i d (j + 1) t b (by omega)
    · have := pmul_two t (-(j + 1)) (by omega)
      exact tb_short i d (j + 1) _ _ (by omega)
theorem tb_same (i : Int) : ∀ d j t b, t.length + 2 * d ≤ 64 → pat t (i + 1) = b % 1009 → pat (tb i d j t b).1 (i + 1) = (tb i d j t b).2 % 1009
  | 0, _, _, _, _, h => by rw [tb]; exact h
  | d + 1, j, t, b, hl, h => by
    rw [tb]
    split
    · exact tb_same i d (j + 1) t b (by omega) h
    · have := pmul_two t (-(j + 1)) (by omega)
      refine tb_same i d (j + 1) _ _ (by omega) ?_
      rw [pat_mul _ _ _ (by omega) (by simp), pat_two, h, show (-(j + 1) + (i + 1)) = i - j by omega, ← Int.mul_emod, Int.emod_emod_of_dvd _ (Int.dvd_refl _)]
theorem tb_keep (i x : Int) : ∀ d j t b, t.length + 2 * d ≤ 64 → pat t x = 0 → pat (tb i d j t b).1 x = 0
  | 0, _, _, _, _, h => by rw [tb]; exact h
  | d + 1, j, t, b, hl, h => by
    rw [tb]
    split
    · exact tb_keep i x d (j + 1) t b (by omega) h
    · have := pmul_two t (-(j + 1)) (by omega)
      refine tb_keep i x d (j + 1) _ _ (by omega) ?_
      rw [pat_mul _ _ _ (by omega) (by simp), h]
      simp
theorem tb_zero (i m : Int) (hne : m ≠ i) : ∀ (d : Nat) (j : Int) (t : List Int) (b : Int), t.length + 2 * d ≤ 64 → j ≤ m → m < j + (d : Int) → pat (tb i d j t b).1 (m + 1) = 0
  | 0, _, _, _, _, h1, h2 => by omega
  | d + 1, j, t, b, hl, h1, h2 => by
    rw [tb]
    split
    · exact tb_zero i m hne d (j + 1) t b (by omega) (by omega) (by omega)
    · have := pmul_two t (-(j + 1)) (by omega)
      by_cases hj : m = j
      · refine tb_keep i (m + 1) d (j + 1) _ _ (by omega) ?_
        rw [pat_mul _ _ _ (by omega) (by simp), pat_two, hj, show (-(j + 1) + (j + 1)) = 0 by omega]
        simp
      · exact tb_zero i m hne d (j + 1) _ _ (by omega) (by omega) (by omega)
theorem mul_ne (b c : Int) (hb : b % 1009 ≠ 0) (hc : c % 1009 ≠ 0) : (b * c) % 1009 ≠ 0 := by
  intro h
  have h1 := sinv_right (c % 1009) (by omega) (by omega)
  apply hb
  have h2 : ((b * c) * sinv (c % 1009)) % 1009 = 0 := by rw [Int.mul_emod, h]; simp
  have h3 : (c * sinv (c % 1009)) % 1009 = 1 := by
    rw [Int.mul_emod] at h1 ⊢
    rwa [Int.emod_emod_of_dvd _ (Int.dvd_refl _)] at h1
  rw [Int.mul_assoc, Int.mul_emod, h3] at h2
  omega
theorem tb_ne (i : Int) : ∀ (d : Nat) (j : Int) (t : List Int) (b : Int), b % 1009 ≠ 0 → 0 ≤ i → i ≤ 16 → 0 ≤ j → j + (d : Int) ≤ 16 → (tb i d j t b).2 % 1009 ≠ 0
  | 0, _, _, _, h, _, _, _, _ => by rw [tb]; exact h
  | d + 1, j, t, b, h, h0, h1, h2, h3 => by
    rw [tb]
    split
    · exact tb_ne i d (j + 1) t b h h0 h1 (by omega) (by omega)
    · refine tb_ne i d (j + 1) _ _ ?_ h0 h1 (by omega) (by omega)
      rw [Int.emod_emod_of_dvd _ (Int.dvd_refl _)]
      exact mul_ne b (i - j) h (by omega)
theorem sinv_mod (b : Int) (h : b % 1009 ≠ 0) (h0 : 0 ≤ b) (h1 : b ≤ 1008) : (b * sinv b) % 1009 = 1 := sinv_right b (by omega) h1
theorem tb_range (i : Int) : ∀ d j t b, 0 ≤ b → b ≤ 1008 → 0 ≤ (tb i d j t b).2 ∧ (tb i d j t b).2 ≤ 1008
  | 0, _, _, _, h0, h1 => by rw [tb]; exact ⟨h0, h1⟩
  | d + 1, j, t, b, h0, h1 => by
    rw [tb]
    split
    · exact tb_range i d (j + 1) t b h0 h1
    · exact tb_range i d (j + 1) _ _ (by omega) (by omega)
theorem thr_at (xs : List Int) (hn : xs.length ≤ 16) (m : Nat) (hm : m < xs.length) : ∀ d i out, i + d = xs.length →
    pat (thr xs d i out) ((m : Int) + 1) = (pat out ((m : Int) + 1) + if i ≤ m then at_ xs m else 0) % 1009
  | 0, i, out, h => by
    have := pat_range out ((m : Int) + 1)
    rw [thr, if_neg (by omega)]
    omega
  | d + 1, i, out, h => by
    have hr := tb_range (i : Int) xs.length 0 [1] 1 (by omega) (by omega)
    have hz := tb_ne (i : Int) xs.length 0 [1] 1 (by decide) (by omega) (by omega) (by omega) (by omega)
    have hi := sinv_mod _ hz hr.1 hr.2
    have hs := tb_same (i : Int) xs.length 0 [1] 1 (by simp; omega) (by simp [pat])
    rw [thr, thr_at xs hn m hm d (i + 1) _ (by omega), pat_add, pat_scale]
    by_cases c : m = i
    · subst c
      rw [hs, if_neg (by omega), if_pos (Nat.le_refl _)]
      generalize (tb (m : Int) xs.length 0 [1] 1).2 = b at *
      have : ((b % 1009) * ((at_ xs m * sinv b) % 1009)) % 1009 = at_ xs m % 1009 := by
        rw [← Int.mul_emod, Int.mul_left_comm, Int.mul_emod, hi]
        omega
      omega
    · have := tb_zero (i : Int) (m : Int) (by omega) xs.length 0 [1] 1 (by simp; omega) (by omega) (by omega)
      rw [this]
      by_cases c2 : i ≤ m
      · rw [if_pos c2, if_pos (by omega)]; simp
      · rw [if_neg c2, if_neg (by omega)]; simp
theorem pthrough_at (xs : List Int) (hn : xs.length ≤ 16) (m : Nat) (hm : m < xs.length) : pat (pthrough xs) ((m : Int) + 1) = at_ xs m % 1009 := by
  rw [pthrough, if_neg (by omega), thr_at xs hn m hm xs.length 0 [] (by omega), if_pos (Nat.zero_le _)]
  have : pat [] ((m : Int) + 1) = 0 := rfl
  omega
end Go.Proofs.Ytcnejiflpioaiaa.Poly
end

section
/- What is proved here: the reference's reader of draws always answers, and its numbers lie where they should. No conditions but that the bytes are no longer than a Go slice can be. -/
set_option linter.unusedVariables false
set_option linter.unusedSimpArgs false
namespace Go.Proofs.Ytcnejiflpioaiaa.Draw
open Go.RowKit Go.Proofs.Ytcnejiflpioaiaa.Pf Go.Proofs.YtcnejiflpioaiaaW.PrintWords

theorem wrapd {i : Int} (h0 : -9223372036854775808 ≤ i) (h : i ≤ 9223372036854775807) : wrap64 i = i := by
  unfold wrap64; omega
theorem Ev.one {α : Type} {g : Nat → Option α} {r : α} (h : ∀ k, g (k + 1) = some r) : Ev g r :=
  ⟨1, fun k hk => by obtain ⟨k, rfl⟩ : ∃ m, k = m + 1 := ⟨k - 1, by omega⟩; exact h k⟩
theorem and_255 (x : Int) : 0 ≤ Go.bits .and .i64 x 255 ∧ Go.bits .and .i64 x 255 ≤ 255 := by
  have h : (BitVec.ofInt (IntKind.bits .i64) 255).toNat = 255 := by decide
  simp only [Go.bits, BitVec.toNat_and, h]
  generalize (BitVec.ofInt _ x).toNat = a
  have : a &&& 255 ≤ 255 := Nat.and_le_right
  rw [IntKind.wrap_i64]
  omega
/-- a reader's state: its place lies in the bytes -/
def Okc (b : List Int) (i : Int) : Prop := 0 ≤ i ∧ i ≤ 9223372036854775807 ∧ b.length ≤ 9223372036854775807
theorem byte_some (b : List Int) (i h : Int) (ho : Okc b i) : ∃ x i' h', spec_l01Byte.f b i h = some (x, i', h') ∧ 0 ≤ x ∧ x ≤ 255 ∧ Okc b i' := by
  obtain ⟨h0, h1, h2⟩ := ho
  unfold spec_l01Byte.f
  by_cases c : i < (b.length : Int)
  · rw [if_pos c, if_pos h0, wrapd (i := i + 1) (by omega) (by omega)]
    exact ⟨_, _, _, rfl, (and_255 _).1, (and_255 _).2, by omega, by omega, h2⟩
  · rw [if_neg c]
    exact ⟨_, _, _, rfl, (and_255 _).1, (and_255 _).2, h0, h1, h2⟩
theorem below_some (b : List Int) (i h n : Int) (ho : Okc b i) (hn : 0 < n) (hn2 : n ≤ 4294967296) : ∃ x i' h', spec_l01Below.f b i h n = some (x, i', h') ∧ 0 ≤ x ∧ x < n ∧ Okc b i' := by
  unfold spec_l01Below.f
  rw [if_neg (by omega)]
  by_cases c : n ≤ 256
  · obtain ⟨x, i1, h1, e1, x0, x1, o1⟩ := byte_some b i h ho
    rw [if_pos c, e1]
    simp only [Option.bind_some]
    rw [if_neg (by omega)]
    exact ⟨_, _, _, rfl, Int.tmod_nonneg _ x0, Int.tmod_lt_of_pos _ hn, o1⟩
  · obtain ⟨x, i1, h1, e1, x0, x1, o1⟩ := byte_some b i h ho
    obtain ⟨y, i2, h2, e2, y0, y1, o2⟩ := byte_some b i1 h1 o1
    obtain ⟨z, i3, h3, e3, z0, z1, o3⟩ := byte_some b i2 h2 o2
    obtain ⟨u, i4, h4, e4, u0, u1, o4⟩ := byte_some b i3 h3 o3
    rw [if_neg c]
    simp only [e1, e2, e3, e4, Option.bind_some]
    rw [if_neg (by omega), wrapd (i := x * 16777216) (by omega) (by omega), wrapd (i := y * 65536) (by omega) (by omega), wrapd (i := z * 256) (by omega) (by omega), wrapd (i := x * 16777216 + y * 65536) (by omega) (by omega), wrapd (i := x * 16777216 + y * 65536 + z * 256) (by omega) (by omega), wrapd (by omega) (by omega)]
    exact ⟨_, _, _, rfl, Int.tmod_nonneg _ (by omega), Int.tmod_lt_of_pos _ hn, o4⟩
theorem new_l0 (b : List Int) (hb : b.length ≤ 9223372036854775807) : ∀ (d i : Nat) (h : Int), i + d = b.length → ∃ h', Ev (fun k => spec_l01New.l0 k b h (i : Int)) (b, 0, h')
  | 0, i, h, hi => ⟨h, Ev.one fun k => by
      simp only [spec_l01New.l0]
      rw [if_neg (by omega)]⟩
  | d + 1, i, h, hi => by
    by_cases c : (i : Int) < 4000
    · obtain ⟨h', he⟩ := new_l0 b hb d (i + 1) (Go.bits .and .i64 (wrap64 ((wrap64 ((wrap64 (h * 131)) + (wrap64 (rd b (i : Int))))) + 7)) 1073741823) (by omega)
      refine ⟨h', Ev.step (fun k => ?_) he⟩
      simp only [spec_l01New.l0]
      rw [if_pos (by omega), if_pos c, if_pos (by omega), wrapd (i := (i : Int) + 1) (by omega) (by omega)]
      rfl
    · refine ⟨h, Ev.one fun k => ?_⟩
      simp only [spec_l01New.l0]
      rw [if_pos (by omega), if_neg c]
theorem new_ev (b : List Int) (hb : b.length ≤ 9223372036854775807) : ∃ h, Ev (fun k => spec_l01New.f k b) (b, 0, h) := by
  obtain ⟨h, he⟩ := new_l0 b hb b.length 0 (wrap64 (76801 + (b.length : Int))) (by omega)
  exact ⟨h, he⟩
theorem ok0 (b : List Int) (hb : b.length ≤ 9223372036854775807) : Okc b 0 := ⟨by omega, by omega, hb⟩
theorem once_some (b : List Int) (i h n : Int) (ho : Okc b i) (hn : 0 < n) (hn2 : n ≤ 4294967296) : ∃ x i' h', spec_l01Once.f b i h n = some (x, i', h') ∧ Okc b i' := by
  obtain ⟨x, i1, h1, e1, _, _, o1⟩ := below_some b i h n ho hn hn2
  exact ⟨x == 0, i1, h1, by simp only [spec_l01Once.f, e1, Option.bind_some], o1⟩
theorem pick_some (b : List Int) (i h : Int) (l : List Int) (ho : Okc b i) (hl : 0 < l.length) (hl2 : l.length ≤ 1000) : ∃ x i' h', spec_l01PickInt.f b i h l = some (x, i', h') ∧ x ∈ l ∧ Okc b i' := by
  obtain ⟨x, i1, h1, e1, x0, x1, o1⟩ := below_some b i h (l.length : Int) ho (by omega) (by omega)
  have hx : x.toNat < l.length := by omega
  refine ⟨rd l x, i1, h1, ?_, ?_, o1⟩
  · simp only [spec_l01PickInt.f, e1, Option.bind_some]
    rw [if_pos x0, if_pos x1]
  · unfold rd
    rw [List.getD_eq_getElem?_getD, List.getElem?_eq_getElem hx, Option.getD_some]
    exact List.getElem_mem hx
theorem places_l0 (b : List Int) : ∀ (d : Nat) (j : Nat) (xs : List Int) (i h : Int), j + d = 12 → xs.length = j → (∀ x ∈ xs, 0 ≤ x ∧ x ≤ 9999) → Okc b i →
    ∃ ys : List Int, ys.length = 12 ∧ (∀ x ∈ ys, 0 ≤ x ∧ x ≤ 9999) ∧ Ev (fun k => spec_DrawPlaces.l0 k xs (j : Int) b i h) ys
  | 0, j, xs, i, h, hj, hl, hx, ho => ⟨xs, by omega, hx, Ev.one fun k => by
      simp only [spec_DrawPlaces.l0]
      rw [if_neg (by omega)]⟩
  | d + 1, j, xs, i, h, hj, hl, hx, ho => by
    obtain ⟨x, i1, h1, e1, x0, x1, o1⟩ := below_some b i h 10000 ho (by decide) (by decide)
    obtain ⟨ys, y1, y2, y3⟩ := places_l0 b d (j + 1) (xs ++ [x]) i1 h1 (by omega) (by simp [hl]) (fun z hz => by
      rcases List.mem_append.1 hz with hz | hz
      · exact hx z hz
      · rw [List.mem_singleton.1 hz]; omega) o1
    refine ⟨ys, y1, y2, Ev.step (fun k => ?_) y3⟩
    simp only [spec_DrawPlaces.l0]
    rw [if_pos (by omega), e1, Option.bind_some, if_pos (by omega), wrapd (by omega) (by omega)]
    rfl
theorem places_ev (b : List Int) (hb : b.length ≤ 9223372036854775807) : ∃ ys : List Int, ys.length = 12 ∧ (∀ x ∈ ys, 0 ≤ x ∧ x ≤ 9999) ∧ Ev (fun k => spec_DrawPlaces.f k b) ys := by
  obtain ⟨h, K1, e1⟩ := new_ev b hb
  obtain ⟨x, i1, h1, e2, _, _, o1⟩ := byte_some b 0 h (ok0 b hb)
  obtain ⟨ys, y1, y2, K2, y3⟩ := places_l0 b 12 0 [] i1 h1 (by omega) rfl (fun z hz => by cases hz) o1
  refine ⟨ys, y1, y2, K1 + K2, fun k hk => ?_⟩
  have g1 := e1 k (by omega)
  have g2 := y3 k (by omega)
  dsimp only at g1 g2 ⊢
  simp only [spec_DrawPlaces.f, g1, Option.bind_some, e2]
  exact g2
end Go.Proofs.Ytcnejiflpioaiaa.Draw
end

section
/- What is proved here: the reference's draws of lists of numbers always answer, and the lists are short. No conditions but that the bytes are no longer than a Go slice can be. -/
set_option linter.unusedVariables false
set_option linter.unusedSimpArgs false
namespace Go.Proofs.Ytcnejiflpioaiaa.Draw
open Go.RowKit Go.Proofs.Ytcnejiflpioaiaa.Pf Go.Proofs.YtcnejiflpioaiaaW.PrintWords

theorem num_some (b : List Int) (i h : Int) (ho : Okc b i) : ∃ x i' h', spec_l06Num.f b i h = some (x, i', h') ∧ Okc b i' := by
  obtain ⟨x, i1, h1, e1, _, _, o1⟩ := below_some b i h 256 ho (by decide) (by decide)
  obtain ⟨y, i2, h2, e2, _, o2⟩ := pick_some b i1 h1 [0, 1, 2, 1008, 1009, 1010, (-1), wrap64 (x * 3), 500, (-9223372036854775808), 9223372036854775807] o1 (by simp) (by simp)
  exact ⟨y, i2, h2, by simp only [spec_l06Num.f, e1, Option.bind_some, e2], o2⟩
theorem poly_l0 (b : List Int) : ∀ (d j : Nat) (xs : List Int) (i h : Int), j + d = 8 → xs.length = j → Okc b i →
    ∃ (ys : List Int) (i' h' : Int), ys.length ≤ 65 ∧ Okc b i' ∧ Ev (fun k => spec_l14Poly.l0 k xs (j : Int) b i h) (ys, i', h') := by
  intro d
  induction d with
  | zero =>
    intro j xs i h hj hl ho
    obtain ⟨x, i1, h1, e1, x0, x1, o1⟩ := below_some b i h 8 ho (by decide) (by decide)
    obtain ⟨y, i2, h2, e2, o2⟩ := once_some b i1 h1 16 o1 (by decide) (by decide)
    cases y with
    | true =>
      obtain ⟨z, i3, h3, e3, z0, z1, o3⟩ := below_some b i2 h2 2 o2 (by decide) (by decide)
      refine ⟨(List.replicate (64 + z).toNat (0 : Int)).set 5 3, i3, h3, by simp; omega, o3, Ev.one fun k => ?_⟩
      simp only [spec_l14Poly.l0, e1, Option.bind_some]
      rw [if_neg (by omega)]
      simp only [e2, Option.bind_some, if_true, e3]
      rw [wrapd (by omega) (by omega), if_pos (by omega), if_pos (by omega), if_pos (by simp; omega)]
      rfl
    | false =>
      refine ⟨xs, i2, h2, by omega, o2, Ev.one fun k => ?_⟩
      simp only [spec_l14Poly.l0, e1, Option.bind_some]
      rw [if_neg (by omega)]
      simp [e2]
  | succ d ih =>
    intro j xs i h hj hl ho
    obtain ⟨x, i1, h1, e1, x0, x1, o1⟩ := below_some b i h 8 ho (by decide) (by decide)
    by_cases c : (j : Int) < x
    · obtain ⟨y, i2, h2, e2, o2⟩ := num_some b i1 h1 o1
      obtain ⟨ys, i', h', r1, r2, r3⟩ := ih (j + 1) (xs ++ [y]) i2 h2 (by omega) (by simp [hl]) o2
      refine ⟨ys, i', h', r1, r2, Ev.step (fun k => ?_) r3⟩
      simp only [spec_l14Poly.l0, e1, Option.bind_some]
      rw [if_pos c]
      simp only [e2, Option.bind_some]
      rw [if_pos (by omega), wrapd (by omega) (by omega)]
      rfl
    · obtain ⟨y, i2, h2, e2, o2⟩ := once_some b i1 h1 16 o1 (by decide) (by decide)
      cases y with
      | true =>
        obtain ⟨z, i3, h3, e3, z0, z1, o3⟩ := below_some b i2 h2 2 o2 (by decide) (by decide)
        refine ⟨(List.replicate (64 + z).toNat (0 : Int)).set 5 3, i3, h3, by simp; omega, o3, Ev.one fun k => ?_⟩
        simp only [spec_l14Poly.l0, e1, Option.bind_some]
        rw [if_neg c]
        simp only [e2, Option.bind_some, if_true, e3]
        rw [wrapd (by omega) (by omega), if_pos (by omega), if_pos (by omega), if_pos (by simp; omega)]
        rfl
      | false =>
        refine ⟨xs, i2, h2, by omega, o2, Ev.one fun k => ?_⟩
        simp only [spec_l14Poly.l0, e1, Option.bind_some]
        rw [if_neg c]
        simp [e2]
theorem poly_ev (b : List Int) (i h : Int) (ho : Okc b i) : ∃ (ys : List Int) (i' h' : Int), ys.length ≤ 65 ∧ Okc b i' ∧ Ev (fun k => spec_l14Poly.f k b i h) (ys, i', h') := poly_l0 b 8 0 [] i h (by omega) rfl ho
theorem pair_ev (b : List Int) (hb : b.length ≤ 9223372036854775807) : ∃ xs ys : List Int, xs.length ≤ 65 ∧ ys.length ≤ 65 ∧ Ev (fun k => spec_l14Pair.f k b) (xs, ys) := by
  obtain ⟨h, K1, e1⟩ := new_ev b hb
  obtain ⟨xs, i1, h1, l1, o1, K2, e2⟩ := poly_ev b 0 h (ok0 b hb)
  obtain ⟨ys, i2, h2, l2, o2, K3, e3⟩ := poly_ev b i1 h1 o1
  refine ⟨xs, ys, l1, l2, K1 + K2 + K3, fun k hk => ?_⟩
  have g1 := e1 k (by omega)
  have g2 := e2 k (by omega)
  have g3 := e3 k (by omega)
  dsimp only at g1 g2 g3 ⊢
  simp only [spec_l14Pair.f, g1, g2, g3, Option.bind_some]
theorem through_ev (b : List Int) (hb : b.length ≤ 9223372036854775807) : ∃ xs : List Int, xs.length ≤ 65 ∧ Ev (fun k => spec_DrawPolyThrough.f k b) xs := by
  obtain ⟨h, K1, e1⟩ := new_ev b hb
  obtain ⟨y, i2, h2, e2, o2⟩ := once_some b 0 h 12 (ok0 b hb) (by decide) (by decide)
  cases y with
  | true =>
    obtain ⟨z, i3, h3, e3, z0, z1, o3⟩ := below_some b i2 h2 2 o2 (by decide) (by decide)
    refine ⟨List.replicate (16 + z).toNat 0, by simp; omega, K1, fun k hk => ?_⟩
    have g1 := e1 k hk
    dsimp only at g1 ⊢
    simp only [spec_DrawPolyThrough.f, g1, e2, e3, Option.bind_some, if_true]
    rw [wrapd (by omega) (by omega), if_pos (by omega), if_pos (by omega)]
  | false =>
    obtain ⟨xs, i1, h1, l1, o1, K2, e3⟩ := poly_ev b i2 h2 o2
    refine ⟨xs, l1, K1 + K2, fun k hk => ?_⟩
    have g1 := e1 k (by omega)
    have g3 := e3 k (by omega)
    dsimp only at g1 g3 ⊢
    simp [spec_DrawPolyThrough.f, g1, e2, g3]
end Go.Proofs.Ytcnejiflpioaiaa.Draw
end

section
/- What is proved here: whatever is drawn, the list through given numbers goes through them, sums and products have the sums and products of the values, and the vanishing list vanishes. No conditions. -/
set_option linter.unusedVariables false
set_option linter.unusedSimpArgs false
namespace Go.Proofs.Ytcnejiflpioaiaa.Pure
open Go.RowKit Go.Proofs.Ytcnejiflpioaiaa.Pf Go.Proofs.YtcnejiflpioaiaaW.PrintWords Go.Proofs.Ytcnejiflpioaiaa.Ints Go.Proofs.Ytcnejiflpioaiaa.Poly

theorem zero5 : (pzero 5).length = 6 := by decide +kernel
theorem zero5_at : pat (pzero 5) 3 = 0 := by decide +kernel

theorem FnPolys : laws_FnPolys.Pure := by
  intro b hb _ _
  unfold maxLen at hb
  by_cases hbig : (b.length : Int) > 1048576
  · exact ⟨0, by simp only [laws_FnPolys.f, laws_big.f, Option.bind_some]; rw [if_pos (decide_eq_true hbig)]⟩
  obtain ⟨xs, ys, hx, hy, K0, h0⟩ := Go.Proofs.Ytcnejiflpioaiaa.Draw.pair_ev b (by omega)
  obtain ⟨zs, hz, K1, h1⟩ := Go.Proofs.Ytcnejiflpioaiaa.Draw.through_ev b (by omega)
  obtain ⟨ps, hp, _, K2, h2⟩ := Go.Proofs.Ytcnejiflpioaiaa.Draw.places_ev b (by omega)
  obtain ⟨K3, h3⟩ := impl_PolyThrough_ev zs
  obtain ⟨K4, h4⟩ := impl_PolyZero_ev 5
  obtain ⟨K5, h5⟩ := impl_PolyMul_ev xs ys
  have hm := pmul_length xs ys
  have ha := padd_length xs ys
  have hz5 := pzero_length 5
  obtain ⟨K6, h6⟩ := impl_PolyAdd_ev xs ys (by omega) (by omega)
  obtain ⟨K7, h7⟩ := impl_PolyAt_ev (pmul xs ys) (rd ps 0) (by omega)
  obtain ⟨K8, h8⟩ := impl_PolyAt_ev (padd xs ys) (rd ps 0) (by omega)
  obtain ⟨K9, h9⟩ := impl_PolyAt_ev xs (rd ps 0) (by omega)
  obtain ⟨K10, h10⟩ := impl_PolyAt_ev ys (rd ps 0) (by omega)
  obtain ⟨K11, h11⟩ := impl_PolyAt_ev (pzero 5) 3 (by omega)
  have hth := pthrough_length zs
  have tail : ∀ k, K0 + K2 + K4 + K5 + K6 + K7 + K8 + K9 + K10 + K11 < k → laws_FnPolys.j1 (k + 2) b zs (pthrough zs) zs.length false = some true := by
    intro k hk
    have g0 := h0 (k + 1) (by omega)
    have g2 := h2 (k + 1) (by omega)
    have g4 := h4 (k + 1) (by omega)
    have g5 := h5 k (by omega)
    have g6 := h6 k (by omega)
    have g7 := h7 k (by omega)
    have g8 := h8 k (by omega)
    have g9 := h9 k (by omega)
    have g10 := h10 k (by omega)
    have g11 := h11 k (by omega)
    dsimp only at g0 g2 g4 g5 g6 g7 g8 g9 g10 g11
    rw [laws_FnPolys.j1, if_neg (by simp)]
    simp only [spec_DrawPolyMul.f, g0, g2, g4, Option.bind_some]
    rw [if_pos (by omega)]
    by_cases c : xs.length > 64 ∨ ys.length > 64
    · have e : pmul xs ys = [] := by rw [pmul, if_pos c]
      have e2 : laws_FnPolys.j2 (k + 1) xs ys (rd ps 0) (pzero 5) true = some true := by
        rw [laws_FnPolys.j2, if_pos rfl, g5, Option.bind_some, e, zero5]
        rfl
      by_cases c1 : (xs.length : Int) > 64
      · rw [if_pos c1]; exact e2
      · rw [if_neg c1, decide_eq_true (by omega)]; exact e2
    · rw [if_neg (by omega), decide_eq_false (by omega), laws_FnPolys.j2, if_neg (by simp)]
      simp only [g5, g6, g7, g8, g9, g10, g11, impl_ScMul_eq, impl_ScAdd_eq, Option.bind_some]
      rw [if_pos (pat_mul xs ys _ (by omega) (by omega)), if_pos (pat_add xs ys _), if_pos (by rw [zero5]; rfl), zero5_at]
      rfl
  by_cases hs : zs.length ≤ 16
  · have loop : ∀ d i : Nat, i + d = zs.length → Ev (fun k => laws_FnPolys.l0 k b zs (pthrough zs) (i : Int)) true := by
      intro d
      induction d with
      | zero =>
        intro i hi
        refine ⟨K0 + K2 + K4 + K5 + K6 + K7 + K8 + K9 + K10 + K11 + 5, fun k hk => ?_⟩
        obtain ⟨k, rfl⟩ : ∃ m, k = m + 3 := ⟨k - 3, by omega⟩
        dsimp only
        rw [laws_FnPolys.l0, if_neg (by omega), show i = zs.length by omega]
        exact tail k (by omega)
      | succ d ih =>
        intro i hi
        obtain ⟨Ka, ia⟩ := ih (i + 1) (by omega)
        obtain ⟨Kb, ib⟩ := impl_PolyAt_ev (pthrough zs) ((i : Int) + 1) (by omega)
        refine ⟨Ka + Kb + 5, fun k hk => ?_⟩
        obtain ⟨k, rfl⟩ : ∃ m, k = m + 2 := ⟨k - 2, by omega⟩
        have ga := ia k (by omega)
        have gb := ib k (by omega)
        dsimp only at ga gb ⊢
        rw [laws_FnPolys.l0, if_pos (by omega), decide_eq_true (by omega), laws_FnPolys.j1, if_pos rfl, wrap_in (by omega) (by omega)]
        simp only [gb, spec_ScOf_eq, Option.bind_some]
        rw [if_pos (by omega), if_pos (by omega), rd_at, if_pos (pthrough_at zs hs i (by omega))]
        exact ga
    obtain ⟨K, hK⟩ := loop zs.length 0 (by omega)
    refine ⟨K0 + K1 + K2 + K3 + K + 5, ?_⟩
    have g1 := h1 (K0 + K1 + K2 + K3 + K + 5) (by omega)
    have g3 := h3 (K0 + K1 + K2 + K3 + K + 5) (by omega)
    have g := hK (K0 + K1 + K2 + K3 + K + 5) (by omega)
    dsimp only at g1 g3 g
    simp only [laws_FnPolys.f, laws_big.f, Option.bind_some, g1, g3]
    rw [if_neg (by simpa using hbig)]
    exact g
  · have loop : Ev (fun k => laws_FnPolys.l0 k b zs (pthrough zs) 0) true := by
      refine ⟨K0 + K2 + K4 + K5 + K6 + K7 + K8 + K9 + K10 + K11 + 5, fun k hk => ?_⟩
      obtain ⟨k, rfl⟩ : ∃ m, k = m + 3 := ⟨k - 3, by omega⟩
      dsimp only
      have t := tail k (by omega)
      have e : laws_FnPolys.j1 (k + 2) b zs (pthrough zs) 0 false = laws_FnPolys.j1 (k + 2) b zs (pthrough zs) zs.length false := by
        rw [laws_FnPolys.j1, laws_FnPolys.j1, if_neg (by simp), if_neg (by simp)]
      rw [laws_FnPolys.l0, if_pos (by omega), decide_eq_false (by omega), e]
      exact t
    obtain ⟨K, hK⟩ := loop
    refine ⟨K0 + K1 + K2 + K3 + K + 5, ?_⟩
    have g1 := h1 (K0 + K1 + K2 + K3 + K + 5) (by omega)
    have g3 := h3 (K0 + K1 + K2 + K3 + K + 5) (by omega)
    have g := hK (K0 + K1 + K2 + K3 + K + 5) (by omega)
    dsimp only at g1 g3 g
    simp only [laws_FnPolys.f, laws_big.f, Option.bind_some, g1, g3]
    rw [if_neg (by simpa using hbig)]
    exact g
end Go.Proofs.Ytcnejiflpioaiaa.Pure
end

section
namespace Go.Proofs.Ytcnejiflpioaiaa.fnPolys
open Go.ChangeShapes Go.WideShapes Go.ChangeAt Go.RowKit
open Go.ChangeMaps (open_string shut_string)
set_option linter.unusedVariables false
theorem own : ownKnob Try.prog.godebug = none := by kernel_rfl
theorem laidOut : laidOutB Try.prog = true := by kernel_rfl
def IsRow (k : IntKind) (w : World) (a : Option Addr) (len cap : Nat) (zs : List Int) : Prop :=
  (a = none ∧ len = 0 ∧ cap = 0 ∧ zs = []) ∨
  ∃ x, a = some x ∧ len ≤ cap ∧ cap ≤ maxLen ∧ zs.length = cap ∧ (∀ i, i < zs.length → w.cell? (x.add i) = some (.int k (zs.getD i 0))) ∧ ∀ n ∈ zs, (Lit.int k n).wf = true
set_option maxRecDepth 100000 in
theorem lifted (os : Os) (started : os.Started) (H : Type) (enc : TypeId × Value → H) :
    ReturnsInHanded {} Try.checked os 11 .any (Rows.fnPolysSpec.pre6 enc Try.prog Try.f11 Rows.fnPolysRow.domain false) (Rows.fnPolysSpec.post enc Try.prog Try.f11 false true false false) := by
  refine returnsInHanded_of_change_sized (C := Try.checked) own started (by kernel_rfl) Try.func11
    (ChangeSpec.witness6 (enc := enc) (C := Try.checked) false ⟨#[], #[.slice none 0 0], []⟩ 8 (by kernel_rfl) (by kernel_rfl) (by kernel_rfl) (by kernel_rfl)) ?_
  intro W base args ds gs before hval0 hW hcnd hsz0 _
  have hsz : (DataW.weightsEach Try.prog (Try.f11.params.toList ++ Rows.fnPolysSpec.plain.varTypes Try.prog) (ds ++ gs)).all (· ≤ reachBytes) = true := hsz0
  have hval : ∀ (j : Nat) t v, Try.f11.params[j]? = some t → args[j]? = some v → Value.okWide Try.prog W .any base t v := hval0
  have hW' := hW
  obtain ⟨p, q, hA0, hV, rfl, hfz, hnd⟩ := hW
  have hA : DataW.TrodAll enc Try.prog W 0 (fun _ => true) true Try.f11.params.toList args.toList ds p := hA0
  rw [Try.params11] at hA hval hsz
  obtain ⟨v0, vs0, d0, ds0, p0, q0, hargs, rfl, rfl, h0, r0⟩ := trodAll_cons hA
  obtain ⟨rfl, rfl, rfl⟩ := trodAll_nil r0
  obtain rfl : args = #[v0] := by cases args; simp_all
  obtain ⟨rfl, rfl⟩ := trodVars_none hV
  obtain ⟨a0, len0, cap0, rfl⟩ := okWide_slice Try.underlying28 (hval 0 28 v0 rfl rfl)
  have k0 := h0
  have lt0 : ∀ x ∈ p0, x.block < W.heap.size := by obtain ⟨m, hm⟩ := k0; exact DataW.trod_lt m _ _ _ hm
  obtain ⟨z0, w0⟩ : ∃ zs, IsRow .u8 W a0 len0 cap0 zs := by
    obtain ⟨fuel, hf⟩ := h0
    rcases open_ints Try.underlying28 Try.underlying5 (by kernel_rfl) hf with ⟨hcs, _⟩ | ⟨x, l, c, zs, hcs, _, hl, hm, hz, _, hcell, hwz⟩
    · simp [Value.cells] at hcs
      obtain ⟨rfl, rfl, rfl⟩ := hcs
      exact ⟨[], .inl ⟨rfl, rfl, rfl, rfl⟩⟩
    · simp [Value.cells] at hcs
      obtain ⟨rfl, rfl, rfl⟩ := hcs
      exact ⟨zs, .inr ⟨_, rfl, hl, hm, by simpa using hz, hcell, hwz⟩⟩
  have y0 : len0 * 1 ≤ 140737488351232 := Go.Proofs.YtcnejiflpioaiaaW.PrintWords.sized_ints hsz (j := 0) (t := 28) rfl rfl Try.underlying28 Try.underlying5 (by kernel_rfl) (by kernel_rfl) h0
  clear hA0 hval0 hsz0 hsz
  refine (Pf.laws_FnPolys.walk Pure.FnPolys a0 len0 cap0 z0 W w0 y0).mono fun e W' ⟨he, bel⟩ => ?_
  subst he
  exact ⟨_, rfl, _, _, _, [], _, [], hW', trodAll_mk1 (shut_bool Try.underlying4 _), (trodAll_cons_mk (Below.trod laidOut (by kernel_rfl) (of_decide_eq_true (by kernel_rfl)) k0 bel lt0) trodAll_mk0), rfl, bel.frame _, fun h => by cases h⟩
theorem over : Rows.fnPolysRow.holds Try.pinned (OpenSpec.ofChange Rows.fnPolysSpec) :=
  OpenClaim.holds_of_wide 11 Try.f11 rfl rfl rfl rfl rfl rfl rfl ⟨rfl, rfl, rfl, rfl, rfl⟩ rfl rfl rfl rfl rfl (by kernel_rfl) Try.func11 (by kernel_rfl)
    (of_decide_eq_true (by kernel_rfl)) (by unfold Func.isWrapper; first | (rw [if_pos (by decide +kernel)]; kernel_rfl) | (rw [if_neg (by decide +kernel)]; exact ⟨rfl, rfl⟩))
    (fun os started H enc _ => lifted os started H enc)
theorem proved : Rows.FnPolysSaid := over
#print axioms proved
end Go.Proofs.Ytcnejiflpioaiaa.fnPolys
namespace Go.Proofs.Ytcnejiflpioaiaa
/-- The row, under a short name, for the claim. -/
theorem fnPolys_holds : Rows.FnPolysSaid := fnPolys.proved
end Go.Proofs.Ytcnejiflpioaiaa
end
