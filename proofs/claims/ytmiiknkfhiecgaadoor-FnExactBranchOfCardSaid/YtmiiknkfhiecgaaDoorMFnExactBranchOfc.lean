/- What is proved here: part 3 of 3 of the proof of the given statement FnExactBranchOf: the contracts of the Go functions that it reaches, the plain facts on lists and numbers, and (in the last part) the statement itself. No conditions beyond the given ones. -/
import Derived.Test.YtmiiknkfhiecgaaDoorMFnExactBranchOfwSlim
import Derived.Test.YtmiiknkfhiecgaaDoorMFnExactBranchOfa
import Derived.Test.YtmiiknkfhiecgaaDoorMFnExactBranchOfb
import Derived.Test.YtmiiknkfhiecgaaDoorMFnExactBranchOfwMore
import Derived.Deep.Slices
import Derived.ChangeArms
import Derived.DataReads
import Derived.ChangeShapes
import Derived.Test.YtmiiknkfhiecgaaDoorRows
import Derived.ProofKit
import Derived.LaidMore
import Derived.OpenShut
import Derived.Stop.Joined
import Derived.Test.YtmiiknkfhiecgaaDoorTie
import Derived.Test.YtmiiknkfhiecgaaDoorCards
import Derived.WalkKit
import Derived.ShutString
import Derived.ChangeOld
import Derived.Below
import Derived.SizedLaws
import Derived.OpenVars
import Derived.SevenTiedAt

section
namespace Go.Proofs.YtmiiknkfhiecgaaDoor.Pf
open Go.RowKit Go.Proofs.YtmiiknkfhiecgaaDoorW.PrintWords Go.Proofs.YtmiiknkfhiecgaaDoorW.PrintLast Go.Proofs.YtmiiknkfhiecgaaDoorW.PrintMore
attribute [local go_sem] max2_int min2_int max_two min_two max_three min_three max_four min_four   -- for this text's walks alone
set_option linter.unusedVariables false
set_option linter.unusedSimpArgs false

/-! ### impl_levelsOfTree: function 55 -/
theorem one_rep {R : List ByteArray → List Value → Prop} {x : List ByteArray} {v : Value} (h : R x [v]) : Reps R 1 [x] [v] := by
  refine ⟨rfl, fun j p hj => ?_⟩
  match j, hj with
  | 0, hj => cases hj; exact h
theorem S_one {α : Type} {d : Kd α} {e : Nat} {w : World} {base : Nat} {ok : Nat → Prop} {v : Value} {x : α} (h : d.R e w base ok v [x]) : Kd.S d e w base ok v [x] := by
  obtain ⟨h0, inner, ho, hr⟩ := h
  refine ⟨fun _ => 0, h0, inner, ho, hr.1, fun j p hj => ?_⟩
  match j, hj with
  | 0, hj => cases hj; exact d.M_mono (fun k hk => ⟨hk, rfl⟩) (hr.2 0 x rfl)
mutual
def impl_levelsOfTree.l0 : Nat → List ByteArray → List ByteArray → Int → Int → Option (List (List ByteArray))
 | 0, _, _, _, _ => none
 | k + 1, x3, x9, x10, x11 => if x11 < x10 then (if 0 ≤ x11 then (if x11 < (x9.length : Int) then ((impl_Digest.f (rdOf ByteArray.empty x9 x11)).bind fun t142 => (if x3.length < 8796093022208 then (impl_levelsOfTree.l0 k (x3 ++ [t142]) x9 x10 (wrap64 (x11 + 1))) else (none))) else (none)) else (none)) else (impl_levelsOfTree.l1 k x3)
def impl_levelsOfTree.l1 : Nat → List ByteArray → Option (List (List ByteArray))
 | 0, _ => none
 | k + 1, x3 => if (x3.length : Int) = 0 then ((impl_Digest.f (⟨#[]⟩ : ByteArray)).bind fun t146 => (if x3.length < 8796093022208 then (impl_levelsOfTree.l1 k (x3 ++ [t146])) else (none))) else (if (Go.bits .and .i64 (x3.length : Int) (wrap64 ((x3.length : Int) - 1))) = 0 then (impl_levelsOfTree.l2 k [x3] x3) else ((impl_Digest.f (⟨#[]⟩ : ByteArray)).bind fun t150 => (if x3.length < 8796093022208 then (impl_levelsOfTree.l1 k (x3 ++ [t150])) else (none))))
def impl_levelsOfTree.l2 : Nat → List (List ByteArray) → List ByteArray → Option (List (List ByteArray))
 | 0, _, _ => none
 | k + 1, x6, x3 => if (x3.length : Int) > 1 then (impl_levelsOfTree.l3 k x6 x3 ([] : List ByteArray) 0) else (some x6)
def impl_levelsOfTree.l3 : Nat → List (List ByteArray) → List ByteArray → List ByteArray → Int → Option (List (List ByteArray))
 | 0, _, _, _, _ => none
 | k + 1, x6, x3, x7, x8 => if x8 < (x3.length : Int) then (if 0 ≤ x8 then (if 0 ≤ (wrap64 (x8 + 1)) then (if (wrap64 (x8 + 1)) < (x3.length : Int) then ((impl_DigestPair.f (rdOf ByteArray.empty x3 x8) (rdOf ByteArray.empty x3 (wrap64 (x8 + 1)))).bind fun t156 => (if x7.length < 8796093022208 then (impl_levelsOfTree.l3 k x6 x3 (x7 ++ [t156]) (wrap64 (x8 + 2))) else (none))) else (none)) else (none)) else (none)) else (if x6.length < 5000000000000 then (impl_levelsOfTree.l2 k (x6 ++ [x7]) x7) else (none))
end
def impl_levelsOfTree.f (k : Nat) (l0 : List ByteArray) : Option (List (List ByteArray)) := impl_levelsOfTree.l0 k ([] : List ByteArray) l0 (l0.length : Int) 0
theorem impl_levelsOfTree.mono_l : ∀ k, (∀ y0 y1 y2 y3, LeO (impl_levelsOfTree.l0 k y0 y1 y2 y3) (impl_levelsOfTree.l0 (k + 1) y0 y1 y2 y3)) ∧ (∀ y0, LeO (impl_levelsOfTree.l1 k y0) (impl_levelsOfTree.l1 (k + 1) y0)) ∧ (∀ y0 y1, LeO (impl_levelsOfTree.l2 k y0 y1) (impl_levelsOfTree.l2 (k + 1) y0 y1)) ∧ (∀ y0 y1 y2 y3, LeO (impl_levelsOfTree.l3 k y0 y1 y2 y3) (impl_levelsOfTree.l3 (k + 1) y0 y1 y2 y3))
 | 0 => ⟨fun _ _ _ _ r h => by simp [impl_levelsOfTree.l0] at h, fun _ r h => by simp [impl_levelsOfTree.l1] at h, fun _ _ r h => by simp [impl_levelsOfTree.l2] at h, fun _ _ _ _ r h => by simp [impl_levelsOfTree.l3] at h⟩
 | k + 1 => by
  obtain ⟨ih0, ih1, ih2, ih3⟩ := impl_levelsOfTree.mono_l k
  refine ⟨?_, ?_, ?_, ?_⟩
  ·intro y0 y1 y2 y3
   unfold impl_levelsOfTree.l0
   repeat' first
   | (with_reducible exact ih0 _ _ _ _)
   | (with_reducible exact ih1 _)
   | (with_reducible exact ih2 _ _)
   | (with_reducible exact ih3 _ _ _ _)
   | (with_reducible exact LeO.refl _)
   | (with_reducible exact LeO.none _)
   | (with_reducible refine LeO.ite ?_ ?_)
   | (with_reducible refine LeO.bind ?_ (fun _ => ?_))
   | exact ih0 _ _ _ _
   | exact ih1 _
   | exact ih2 _ _
   | exact ih3 _ _ _ _
   | exact LeO.none _
   | refine LeO.ite ?_ ?_
   | refine LeO.bind ?_ (fun _ => ?_)
  ·intro y0
   unfold impl_levelsOfTree.l1
   repeat' first
   | (with_reducible exact ih0 _ _ _ _)
   | (with_reducible exact ih1 _)
   | (with_reducible exact ih2 _ _)
   | (with_reducible exact ih3 _ _ _ _)
   | (with_reducible exact LeO.refl _)
   | (with_reducible exact LeO.none _)
   | (with_reducible refine LeO.ite ?_ ?_)
   | (with_reducible refine LeO.bind ?_ (fun _ => ?_))
   | exact ih0 _ _ _ _
   | exact ih1 _
   | exact ih2 _ _
   | exact ih3 _ _ _ _
   | exact LeO.none _
   | refine LeO.ite ?_ ?_
   | refine LeO.bind ?_ (fun _ => ?_)
  ·intro y0 y1
   unfold impl_levelsOfTree.l2
   repeat' first
   | (with_reducible exact ih0 _ _ _ _)
   | (with_reducible exact ih1 _)
   | (with_reducible exact ih2 _ _)
   | (with_reducible exact ih3 _ _ _ _)
   | (with_reducible exact LeO.refl _)
   | (with_reducible exact LeO.none _)
   | (with_reducible refine LeO.ite ?_ ?_)
   | (with_reducible refine LeO.bind ?_ (fun _ => ?_))
   | exact ih0 _ _ _ _
   | exact ih1 _
   | exact ih2 _ _
   | exact ih3 _ _ _ _
   | exact LeO.none _
   | refine LeO.ite ?_ ?_
   | refine LeO.bind ?_ (fun _ => ?_)
  ·intro y0 y1 y2 y3
   unfold impl_levelsOfTree.l3
   repeat' first
   | (with_reducible exact ih0 _ _ _ _)
   | (with_reducible exact ih1 _)
   | (with_reducible exact ih2 _ _)
   | (with_reducible exact ih3 _ _ _ _)
   | (with_reducible exact LeO.refl _)
   | (with_reducible exact LeO.none _)
   | (with_reducible refine LeO.ite ?_ ?_)
   | (with_reducible refine LeO.bind ?_ (fun _ => ?_))
   | exact ih0 _ _ _ _
   | exact ih1 _
   | exact ih2 _ _
   | exact ih3 _ _ _ _
   | exact LeO.none _
   | refine LeO.ite ?_ ?_
   | refine LeO.bind ?_ (fun _ => ?_)
theorem impl_levelsOfTree.mono : ∀ a0 k, LeO (impl_levelsOfTree.f k a0) (impl_levelsOfTree.f (k + 1) a0) := by
 intro a0 k
 obtain ⟨ih0, ih1, ih2, ih3⟩ := impl_levelsOfTree.mono_l k
 unfold impl_levelsOfTree.f
 repeat' first
   | (with_reducible exact ih0 _ _ _ _)
   | (with_reducible exact ih1 _)
   | (with_reducible exact ih2 _ _)
   | (with_reducible exact ih3 _ _ _ _)
   | (with_reducible exact LeO.refl _)
   | (with_reducible exact LeO.none _)
   | (with_reducible refine LeO.ite ?_ ?_)
   | (with_reducible refine LeO.bind ?_ (fun _ => ?_))
   | exact ih0 _ _ _ _
   | exact ih1 _
   | exact ih2 _ _
   | exact ih3 _ _ _ _
   | exact LeO.none _
   | refine LeO.ite ?_ ?_
   | refine LeO.bind ?_ (fun _ => ?_)
def impl_levelsOfTree.T15 : Bool × List (List Nat × List Nat) := (true, [([], []), ([], []), ([], []), ([1, 2], [1, 2]), ([3], [3]), ([], []), ([], []), ([6], [6]), ([5, 7], [5, 7]), ([8], [8]), ([4, 9], [4, 9]), ([10], [10]), ([0, 11, 10], [0, 11]), ([12, 12, 0, 1, 2, 3, 4, 5, 6, 7, 8, 9, 10, 11, 12], [0, 12])])
def impl_levelsOfTree.B15 : List Nat := [0, 0, 0, 6, 14, 0, 0, 64, 224, 480, 1022, 2046, 4095, 8191]
theorem impl_levelsOfTree.tab15 : rtab .any (opsOf Tryd.f55 15) = impl_levelsOfTree.T15 := by kernel_rfl
theorem impl_levelsOfTree.bits15 : waitsOk impl_levelsOfTree.T15.2 impl_levelsOfTree.B15 = true := by kernel_rfl
set_option maxHeartbeats 8000000 in
set_option maxRecDepth 100000 in
theorem impl_levelsOfTree.calls (k : Nat) (A0 : Option Addr) (c0 : Nat) (l0 : List ByteArray) (r : List (List ByteArray)) (w : World) (hr0 : Kd.C Kd.string w A0 l0.length l0) (hc0 : l0.length ≤ c0) (hT : Kp.Tab w) (h : impl_levelsOfTree.f k l0 = some r) :
  Calls Tryd.prog 55 #[.slice A0 l0.length c0] w fun e w' => ∃ v0_ : Value, e = .returned (v0_) ∧ Kd.S (Kd.slice 9 Kd.string) 22 w' w.heap.size (fun _ => True) v0_ r ∧ Below w.heap.size w w' := by
 have HT := Aside0.mk hT
 clear hT
 have HR0 := Aside0.mk hr0
 have HC0 := Aside0.mk hc0
 clear hr0 hc0
 have HB := Aside0.mk (Below.refl w.heap.size w)
 have H : (impl_levelsOfTree.l0 k ([] : List ByteArray) l0 (l0.length : Int) 0) = some r := h
 clear h
 have H' := Aside0.mk H
 clear H
 go_enter Tryd.func55, Tryd.ntmps55
 go_wp2
 go_loopg [3, 11] k (fun kq v3 v11 w' => ∃ (x3_1 : List ByteArray) (x11_1 : Int), v11 = .int .i64 x11_1 ∧ Aside0 (impl_levelsOfTree.l0 kq x3_1 l0 (l0.length : Int) x11_1 = some r) ∧ Aside0 (kq ≤ k) ∧ Aside0 (Kd.R Kd.string 9 w' w.heap.size (fun _ => True) v3 x3_1) ∧ Aside0 (Below w.heap.size w w'))
 case atStart => exact ⟨(([] : List ByteArray)), (0), (by first | rfl | (simp; done) | (simp [*]; done)), H', ⟨Nat.le_refl _⟩, ⟨by first | exact Kd.R_nil _ _ _ _ _ | exact Kd.N_nil _ _ _ _ _ | exact Kd.V_nil _ _ _ _ _ | exact Kd.Q_nil _ _ _ _ _ | exact Kd.S_nil _ _ _ _ _⟩, ⟨bZ HB⟩⟩
 case round =>
  clear H'
  obtain ⟨x3_1, x11_1, rfl, HA, HK1, HO_3, HB⟩ := hrel
  cases gk with
  | zero => exact absurd HA.out (by simp [impl_levelsOfTree.l0])
  | succ k1 =>
   have H := HA.out
   clear HA
   simp only [impl_levelsOfTree.l0] at H
   by_cases c2 : x11_1 < (l0.length : Int)
   ·rw [if_pos c2] at H
    have c2b0 : decide (x11_1 < (l0.length : Int)) = true := decide_eq_true c2
    clear c2
    by_cases c3 : 0 ≤ x11_1
    ·rw [if_pos c3] at H
     have c3b0 : decide (0 ≤ x11_1) = true := decide_eq_true c3
     clear c3
     by_cases c4 : x11_1 < (l0.length : Int)
     ·rw [if_pos c4] at H
      have c4b0 : decide (x11_1 < (l0.length : Int)) = true := decide_eq_true c4
      clear c4
      replace H := Option.bind_eq_some_iff.mp H
      obtain ⟨t142, A50, H⟩ := H
      replace H : (if x3_1.length < 8796093022208 then (impl_levelsOfTree.l0 k1 (x3_1 ++ [t142]) l0 (l0.length : Int) (wrap64 (x11_1 + 1))) else (none)) = some r := H
      have A5 := Aside0.mk A50
      clear A50
      by_cases c6 : x3_1.length < 8796093022208
      ·rw [if_pos c6] at H
       have LMc6 := Aside0.mk c6
       clear c6
       obtain ⟨y143, hy143⟩ : ∃ y_ : List ByteArray, y_ = (x3_1 ++ [t142]) := ⟨_, rfl⟩
       replace H : (impl_levelsOfTree.l0 k1 y143 l0 (l0.length : Int) (wrap64 (x11_1 + 1))) = some r := by first | (rw [hy143]; with_reducible exact H) | (have H2_ := (Option.bind_some _ _).symm.trans H; rw [hy143]; with_reducible exact H2_) | (have H2_ := (Option.bind_some _ _).symm.trans H; with_reducible exact H2_) | with_reducible exact H | (rw [hy143]; exact H) | exact H
       have Ny143 := Aside0.mk hy143
       clear hy143
       have H' := Aside0.mk H
       clear H
       have p141 : 0 ≤ (x11_1 : Int) := of_decide_eq_true (by first | (with_reducible assumption) | assumption)
       have q141 : x11_1 < (l0.length : Int) := of_decide_eq_true (by first | (with_reducible assumption) | assumption)
       obtain ⟨ad141, e141, hx141_0⟩ := Kd.at_string HR0.out x11_1 p141 q141
       cases e141
       replace hx141_0 := (HB.out.cell (World.block_lt_of_cell? w _ hx141_0)).trans hx141_0
       replace p141 := eq_true p141
       replace q141 := eq_true q141
       go_wp2_with (first | ((with_reducible refine gate_callee (f := 51) rfl ?_); refine goesL_ (some 17) rfl rfl Tryd.func51 (by kernel_rfl) rfl #[.string (rdOf ByteArray.empty l0 x11_1)] rfl (by (try simp only [List.map_toArray, List.map_cons, List.map_nil]); first | done | rfl | (simp only [List.length_drop, List.length_take]; rfl)) ?_; (with_reducible refine (impl_Digest.calls (rdOf ByteArray.empty l0 x11_1) t142 _ (Kp.Tab.below HT.out (bZ HB)) A5.out).mono ?_); rintro e w7 ⟨rfl, hb⟩; refine ⟨_, rfl, ?_⟩; replace HO_3 := Aside0.mk (Kd.R_below (by (with_reducible repeat (first | apply Kd.R_alloc | apply Kd.R_drewN | apply Kd.R_drew)); exact HO_3.out) hb); replace HB := bS HB hb; (try clear hb); (try clear hb2); (try clear hk); (try clear hi)) | ((with_reducible refine gate_builtin (b := .append) (xs := #[.tmp 15, .tmp 18]) rfl ?_); (try (refine gate_guard (by rfl) ?_; dsimp only)); at_builtin; refine Kd.R_append Kd.string (w0 := w) w.heap.size rfl (.tmp 15) (.tmp 18) 22 9 (.string ⟨#[]⟩) 16 rfl Tryd.underlying22 info9 rfl (by decide) (by omega) u3 x3_1 t142 [.string t142] (fun _ => True) (fun _ => False) rfl rfl ?aP (fun _ hk => hk.elim) ?aF ?aO ?aB ?aS ?aL ?_; (case aP => exact rfl); (case aB => exact (bZ HB)); (case aF => exact (fun _ _ => trivial)); (case aO => exact (by (with_reducible repeat (first | apply Kd.R_alloc | apply Kd.R_drewN | apply Kd.R_drew)); exact HO_3.out)); (case aS => exact (below_size (bZ HB))); (case aL => have := LMc6.out; omega); intro v144 w8 ho hb hg hat; rw [← Ny143.out] at ho; replace HB := Aside0.mk (hb); have HO145 := Aside0.mk (ho); clear HO_3; clear ho hb hg hat))
       go_roundg k1
       case measure => have := HK1.out; omega
       case rel => exact ⟨(y143), (wrap64 (x11_1 + 1)), (by first | rfl | (simp; done) | (simp [*]; done)), H', ⟨by have := HK1.out; omega⟩, ⟨by (with_reducible repeat (first | apply Kd.R_alloc | apply Kd.R_drewN | apply Kd.R_drew)); exact HO145.out⟩, ⟨bZ HB⟩⟩
      ·rw [if_neg c6] at H
       exact absurd H (by simp)
     ·rw [if_neg c4] at H
      exact absurd H (by simp)
    ·rw [if_neg c3] at H
     exact absurd H (by simp)
   ·rw [if_neg c2] at H
    have c2b0 : decide (x11_1 < (l0.length : Int)) = false := decide_eq_false c2
    clear c2
    have H' := Aside0.mk H
    clear H
    go_wp2
    go_loopg [3] k1 (fun kq v3 w' => ∃ (x3_2 : List ByteArray), Aside0 (impl_levelsOfTree.l1 kq x3_2 = some r) ∧ Aside0 (kq ≤ k1) ∧ Aside0 (Kd.R Kd.string 9 w' w.heap.size (fun _ => True) v3 x3_2) ∧ Aside0 (Below w.heap.size w w'))
    case atStart => exact ⟨(x3_1), H', ⟨Nat.le_refl _⟩, ⟨by (with_reducible repeat (first | apply Kd.R_alloc | apply Kd.R_drewN | apply Kd.R_drew)); exact HO_3.out⟩, ⟨bZ HB⟩⟩
    case round =>
     clear H'
     try clear p1
     try clear q1
     try clear hx1
     try clear c2
     try clear c2b0
     try clear p2
     try clear c3
     try clear c3b0
     try clear c4
     try clear c4b0
     try clear c5
     try clear c6
     try clear p6
     try clear hx141_0
     try clear p141
     try clear q141
     obtain ⟨x3_2, HA, HK2, HO_3, HB⟩ := hrel
     cases gk with
     | zero => exact absurd HA.out (by simp [impl_levelsOfTree.l1])
     | succ k2 =>
      have H := HA.out
      clear HA
      simp only [impl_levelsOfTree.l1] at H
      by_cases c9 : (x3_2.length : Int) = 0
      ·rw [if_pos c9] at H
       have c9b0 : ((x3_2.length : Int) == 0) = true := beq_iff_eq.mpr c9
       have c9b1 : ((x3_2.length : Int) != 0) = false := bne_eq_false_iff_eq.mpr c9
       clear c9
       replace H := Option.bind_eq_some_iff.mp H
       obtain ⟨t146, A100, H⟩ := H
       replace H : (if x3_2.length < 8796093022208 then (impl_levelsOfTree.l1 k2 (x3_2 ++ [t146])) else (none)) = some r := H
       have A10 := Aside0.mk A100
       clear A100
       by_cases c11 : x3_2.length < 8796093022208
       ·rw [if_pos c11] at H
        have LMc11 := Aside0.mk c11
        clear c11
        obtain ⟨y147, hy147⟩ : ∃ y_ : List ByteArray, y_ = (x3_2 ++ [t146]) := ⟨_, rfl⟩
        replace H : (impl_levelsOfTree.l1 k2 y147) = some r := by first | (rw [hy147]; with_reducible exact H) | (have H2_ := (Option.bind_some _ _).symm.trans H; rw [hy147]; with_reducible exact H2_) | (have H2_ := (Option.bind_some _ _).symm.trans H; with_reducible exact H2_) | with_reducible exact H | (rw [hy147]; exact H) | exact H
        have Ny147 := Aside0.mk hy147
        clear hy147
        have H' := Aside0.mk H
        clear H
        obtain ⟨Ao12, co12, eo12⟩ := Kd.R_slice HO_3.out
        subst eo12
        go_wp2_with (first | ((with_reducible refine gate_callee (f := 51) rfl ?_); refine goesL_ (some 34) rfl rfl Tryd.func51 (by kernel_rfl) rfl #[.string (⟨#[]⟩ : ByteArray)] rfl (by (try simp only [List.map_toArray, List.map_cons, List.map_nil]); first | done | rfl | (simp only [List.length_drop, List.length_take]; rfl)) ?_; (with_reducible refine (impl_Digest.calls (⟨#[]⟩ : ByteArray) t146 _ (Kp.Tab.below HT.out (bZ HB)) A10.out).mono ?_); rintro e w13 ⟨rfl, hb⟩; refine ⟨_, rfl, ?_⟩; replace HO_3 := Aside0.mk (Kd.R_below (by (with_reducible repeat (first | apply Kd.R_alloc | apply Kd.R_drewN | apply Kd.R_drew)); exact HO_3.out) hb); replace HB := bS HB hb; (try clear hb); (try clear hb2); (try clear hk); (try clear hi)) | ((with_reducible refine gate_builtin (b := .append) (xs := #[.tmp 33, .tmp 35]) rfl ?_); (try (refine gate_guard (by rfl) ?_; dsimp only)); at_builtin; refine Kd.R_append Kd.string (w0 := w) w.heap.size rfl (.tmp 33) (.tmp 35) 22 9 (.string ⟨#[]⟩) 16 rfl Tryd.underlying22 info9 rfl (by decide) (by omega) (.slice Ao12 x3_2.length co12) x3_2 t146 [.string t146] (fun _ => True) (fun _ => False) rfl rfl ?aP (fun _ hk => hk.elim) ?aF ?aO ?aB ?aS ?aL ?_; (case aP => exact rfl); (case aB => exact (bZ HB)); (case aF => exact (fun _ _ => trivial)); (case aO => exact (by (with_reducible repeat (first | apply Kd.R_alloc | apply Kd.R_drewN | apply Kd.R_drew)); exact HO_3.out)); (case aS => exact (below_size (bZ HB))); (case aL => have := LMc11.out; omega); intro v148 w14 ho hb hg hat; rw [← Ny147.out] at ho; replace HB := Aside0.mk (hb); have HO149 := Aside0.mk (ho); clear HO_3; clear ho hb hg hat))
        go_roundg k2
        case measure => have := HK1.out; have := HK2.out; omega
        case rel => exact ⟨(y147), H', ⟨by have := HK1.out; have := HK2.out; omega⟩, ⟨by (with_reducible repeat (first | apply Kd.R_alloc | apply Kd.R_drewN | apply Kd.R_drew)); exact HO149.out⟩, ⟨bZ HB⟩⟩
       ·rw [if_neg c11] at H
        exact absurd H (by simp)
      ·rw [if_neg c9] at H
       have c9b0 : ((x3_2.length : Int) == 0) = false := beq_eq_false_iff_ne.mpr c9
       have c9b1 : ((x3_2.length : Int) != 0) = true := bne_iff_ne.mpr c9
       have c9b2 : ¬ (x3_2 = []) := fun h_ => c9 (by rw [h_]; rfl)
       by_cases c15 : (Go.bits .and .i64 (x3_2.length : Int) (wrap64 ((x3_2.length : Int) - 1))) = 0
       ·rw [if_pos c15] at H
        have c15b0 : ((Go.bits .and .i64 (x3_2.length : Int) (wrap64 ((x3_2.length : Int) - 1))) == 0) = true := beq_iff_eq.mpr c15
        have c15b1 : ((Go.bits .and .i64 (x3_2.length : Int) (wrap64 ((x3_2.length : Int) - 1))) != 0) = false := bne_eq_false_iff_eq.mpr c15
        clear c15
        have H' := Aside0.mk H
        clear H
        obtain ⟨Ao16, co16, eo16⟩ := Kd.R_slice HO_3.out
        subst eo16
        go_wp2_with (first | ((with_reducible refine gate_dst (N := 38) rfl ?_); refine Kd.R_lit (Kd.slice 9 Kd.string) (w0 := w) w.heap.size 22 ?hg (N := 38) ?hd (xs := [x3_2]) (inner := [.slice Ao16 x3_2.length co16]) (ok := fun _ => True) (okp := fun _ => True) ?hr ?hp (fun _ hk => hk) trivial (bZ HB) (below_size (bZ HB)) (by simp) ?_; (case hd => rfl); (case hg => rfl); (case hr => first | (go_simp; done) | (go_simp; rfl)); (case hp => exact one_rep (Kd.M_row (by (with_reducible repeat (first | apply Kd.R_alloc | apply Kd.R_drewN | apply Kd.R_drew)); exact HO_3.out))); intro v990 w99 ho6 hb hg_ hnew_; replace HO_3 := Aside0.mk (Kd.R_grown (by (with_reducible repeat (first | apply Kd.R_alloc | apply Kd.R_drewN | apply Kd.R_drew)); exact HO_3.out) hg_ (fun k_ _ e_ => by cases e_)); clear hg_ hnew_; clear HB; have HO_6 := Aside0.mk (S_one ho6); have HB := Aside0.mk hb; clear hb ho6))
        go_loopg [3, 6] k2 (fun kq v3 v6 w' => ∃ (x3_3 : List ByteArray) (x6_3 : List (List ByteArray)), Aside0 (impl_levelsOfTree.l2 kq x6_3 x3_3 = some r) ∧ Aside0 (kq ≤ k2) ∧ Aside0 (Kd.R Kd.string 9 w' w.heap.size (fun _ => True) v3 x3_3) ∧ Aside0 (Kd.S (Kd.slice 9 Kd.string) 22 w' w.heap.size (fun _ => True) v6 x6_3) ∧ Aside0 (Below w.heap.size w w'))
        case atStart => exact ⟨(x3_2), ([x3_2]), H', ⟨Nat.le_refl _⟩, ⟨by (with_reducible repeat (first | apply Kd.R_alloc | apply Kd.R_drewN | apply Kd.R_drew)); exact HO_3.out⟩, ⟨by (with_reducible repeat (first | apply Kd.S_alloc | apply Kd.S_drewN | apply Kd.S_drew)); exact HO_6.out⟩, ⟨bZ HB⟩⟩
        case round =>
         clear H'
         try clear c1
         try clear p1
         try clear q1
         try clear hx1
         try clear c2
         try clear c2b0
         try clear p2
         try clear c3
         try clear c3b0
         try clear c4
         try clear c4b0
         try clear c5
         try clear c6
         try clear p6
         try clear c9
         try clear c9b0
         try clear c9b1
         try clear c9b2
         try clear c11
         try clear p14
         try clear q14
         try clear hx14
         try clear c15
         try clear c15b0
         try clear c15b1
         try clear hx141_0
         try clear p1
         try clear p141
         try clear p2
         try clear p6
         try clear q1
         try clear q141
         clear HO_3 HO_6
         obtain ⟨x3_3, x6_3, HA, HK3, HO_3, HO_6, HB⟩ := hrel
         cases gk with
         | zero => exact absurd HA.out (by simp [impl_levelsOfTree.l2])
         | succ k3 =>
          have H := HA.out
          clear HA
          simp only [impl_levelsOfTree.l2] at H
          by_cases c17 : (x3_3.length : Int) > 1
          ·rw [if_pos c17] at H
           have c17b0 : decide (1 < (x3_3.length : Int)) = true := decide_eq_true c17
           have c17b1 : decide (1 < x3_3.length) = true := decide_eq_true (by omega)
           clear c17
           have H' := Aside0.mk H
           clear H
           obtain ⟨Ao18, co18, eo18⟩ := Kd.R_slice HO_3.out
           subst eo18
           go_wp2
           go_loopg [7, 8] k3 (fun kq v7 v8 w' => ∃ (x7_4 : List ByteArray) (x8_4 : Int), v8 = .int .i64 x8_4 ∧ Aside0 (impl_levelsOfTree.l3 kq x6_3 x3_3 x7_4 x8_4 = some r) ∧ Aside0 (kq ≤ k3) ∧ Aside0 (Kd.R Kd.string 9 w' w.heap.size (fun k_ => some k_ ≠ (v7 : Value).ownBlock) (.slice Ao18 x3_3.length co18) x3_3) ∧ Aside0 (Kd.R Kd.string 9 w' w.heap.size (fun k_ => some k_ ≠ ((.slice Ao18 x3_3.length co18) : Value).ownBlock) v7 x7_4) ∧ Aside0 (Kd.S (Kd.slice 9 Kd.string) 22 w' w.heap.size (fun k_ => some k_ ≠ (v7 : Value).ownBlock) u6 x6_3) ∧ Aside0 (Below w.heap.size w w'))
           case atStart => exact ⟨(([] : List ByteArray)), (0), (by first | rfl | (simp; done) | (simp [*]; done)), H', ⟨Nat.le_refl _⟩, ⟨by (with_reducible repeat (first | apply Kd.R_alloc | apply Kd.R_drewN | apply Kd.R_drew)); exact Kd.R_mono HO_3.out (fun _ hk => (by simp [Value.ownBlock]))⟩, ⟨by first | exact Kd.R_nil _ _ _ _ _ | exact Kd.N_nil _ _ _ _ _ | exact Kd.V_nil _ _ _ _ _ | exact Kd.Q_nil _ _ _ _ _ | exact Kd.S_nil _ _ _ _ _⟩, ⟨by (with_reducible repeat (first | apply Kd.S_alloc | apply Kd.S_drewN | apply Kd.S_drew)); exact Kd.S_mono HO_6.out (fun _ hk => (by simp [Value.ownBlock]))⟩, ⟨bZ HB⟩⟩
           case round =>
            clear H'
            try clear c1
            try clear p1
            try clear q1
            try clear hx1
            try clear c2
            try clear c2b0
            try clear p2
            try clear c3
            try clear c3b0
            try clear c4
            try clear c4b0
            try clear c5
            try clear c6
            try clear p6
            try clear c9
            try clear c9b0
            try clear c9b1
            try clear c9b2
            try clear c11
            try clear p14
            try clear q14
            try clear hx14
            try clear c15
            try clear c15b0
            try clear c15b1
            try clear c17
            try clear c17b0
            try clear c17b1
            try clear hx141_0
            try clear p1
            try clear p14
            try clear p141
            try clear p2
            try clear p6
            try clear q1
            try clear q14
            try clear q141
            clear HO_6
            obtain ⟨x7_4, x8_4, rfl, HA, HK4, HO_3, HO_7, HO_6, HB⟩ := hrel
            cases gk with
            | zero => exact absurd HA.out (by simp [impl_levelsOfTree.l3])
            | succ k4 =>
             have H := HA.out
             clear HA
             simp only [impl_levelsOfTree.l3] at H
             by_cases c19 : x8_4 < (x3_3.length : Int)
             ·rw [if_pos c19] at H
              have c19b0 : decide (x8_4 < (x3_3.length : Int)) = true := decide_eq_true c19
              clear c19
              by_cases c20 : 0 ≤ x8_4
              ·rw [if_pos c20] at H
               have c20b0 : decide (0 ≤ x8_4) = true := decide_eq_true c20
               clear c20
               obtain ⟨ji21, hji21⟩ : ∃ j_ : Int, (wrap64 (x8_4 + 1)) = j_ := ⟨_, rfl⟩
               replace H : (if 0 ≤ (ji21) then (if (ji21) < (x3_3.length : Int) then ((impl_DigestPair.f (rdOf ByteArray.empty x3_3 x8_4) (rdOf ByteArray.empty x3_3 (ji21))).bind fun t156 => (if x7_4.length < 8796093022208 then (impl_levelsOfTree.l3 k4 x6_3 x3_3 (x7_4 ++ [t156]) (wrap64 (x8_4 + 2))) else (none))) else (none)) else (none)) = some r := by first | (rw [hji21] at H; exact H) | (simp only [hji21] at H ⊢; exact H)
               have hji21w : (IntKind.i64.wrap (x8_4 + 1)) = ji21 := (i64_w _).trans hji21
               by_cases c22 : 0 ≤ (ji21)
               ·rw [if_pos c22] at H
                have c22b0 : decide (0 ≤ (ji21)) = true := decide_eq_true c22
                clear c22
                by_cases c23 : (ji21) < (x3_3.length : Int)
                ·rw [if_pos c23] at H
                 have c23b0 : decide ((ji21) < (x3_3.length : Int)) = true := decide_eq_true c23
                 clear c23
                 replace H := Option.bind_eq_some_iff.mp H
                 obtain ⟨t156, A240, H⟩ := H
                 replace H : (if x7_4.length < 8796093022208 then (impl_levelsOfTree.l3 k4 x6_3 x3_3 (x7_4 ++ [t156]) (wrap64 (x8_4 + 2))) else (none)) = some r := H
                 have A24 := Aside0.mk A240
                 clear A240
                 by_cases c25 : x7_4.length < 8796093022208
                 ·rw [if_pos c25] at H
                  have LMc25 := Aside0.mk c25
                  clear c25
                  obtain ⟨y157, hy157⟩ : ∃ y_ : List ByteArray, y_ = (x7_4 ++ [t156]) := ⟨_, rfl⟩
                  replace H : (impl_levelsOfTree.l3 k4 x6_3 x3_3 y157 (wrap64 (x8_4 + 2))) = some r := by first | (rw [hy157]; with_reducible exact H) | (have H2_ := (Option.bind_some _ _).symm.trans H; rw [hy157]; with_reducible exact H2_) | (have H2_ := (Option.bind_some _ _).symm.trans H; with_reducible exact H2_) | with_reducible exact H | (rw [hy157]; exact H) | exact H
                  have Ny157 := Aside0.mk hy157
                  clear hy157
                  have H' := Aside0.mk H
                  clear H
                  try go_wp2
                  replace HO_3 := Aside0.mk (Kd.R_drew HO_3.out)
                  replace HO_7 := Aside0.mk (Kd.R_drew HO_7.out)
                  replace HO_6 := Aside0.mk (Kd.S_drew HO_6.out)
                  replace HB := Aside0.mk (below_drew1 HB.out)
                  have p154 : 0 ≤ (x8_4 : Int) := of_decide_eq_true (by first | (with_reducible assumption) | assumption)
                  have q154 : x8_4 < (x3_3.length : Int) := of_decide_eq_true (by first | (with_reducible assumption) | assumption)
                  obtain ⟨ad154, e154, hx154_0⟩ := Kd.at_string (Kd.R_reads' HO_3.out).2.2 x8_4 p154 q154
                  cases e154
                  replace p154 := eq_true p154
                  replace q154 := eq_true q154
                  have p155 : 0 ≤ ((ji21) : Int) := of_decide_eq_true (by first | (with_reducible assumption) | assumption)
                  have q155 : (ji21) < (x3_3.length : Int) := of_decide_eq_true (by first | (with_reducible assumption) | assumption)
                  obtain ⟨ad155, e155, hx155_0⟩ := Kd.at_string (Kd.R_reads' HO_3.out).2.2 (ji21) p155 q155
                  obtain rfl : ad154 = ad155 := (by injection e155)
                  replace p155 := eq_true p155
                  replace q155 := eq_true q155
                  refine start_ (n := 14) (S := fun w' => w'.cell? (ad154.add (x8_4).toNat) = some (.string (rdOf ByteArray.empty x3_3 x8_4)) ∧ w'.cell? (ad154.add ((ji21)).toNat) = some (.string (rdOf ByteArray.empty x3_3 (ji21)))) (ds := [11, 12]) #[false, false, false, false, false, false, false, false, false, false, false, false, false, false] (by kernel_rfl) rfl rfl ⟨hx154_0, hx155_0⟩ (fun hHeld => ?_); refine with_tabW impl_levelsOfTree.tab15 impl_levelsOfTree.bits15 (fun HT_ HW_ => ?_)
                  generalize wr.drew = w26 at HO_3 HO_7 HO_6 HB hx154_0 hx155_0 hHeld ⊢
                  refine pure_ (i := 0) (N := some 48) (v := ?_) (a' := ?_) #[true, false, false, false, false, false, false, false, false, false, false, false, false, false] rfl rfl (any_of HT_.out (by kernel_rfl)) (fun _ _ _ h => h) (Or.inl ⟨by rfl, ?_⟩) ?_ ?_
                  rotate_left
                  ·intro w'
                   go_simp
                   with_reducible rfl
                  rotate_left
                  ·simp only [Act.put, List.setIfInBounds_toArray, List.set_cons_zero, List.set_cons_succ, i64_w, i32_w]
                   rfl
                  refine pure_ (i := 1) (N := some 49) (v := ?_) (a' := ?_) #[true, true, false, false, false, false, false, false, false, false, false, false, false, false] rfl rfl (any_of HT_.out (by kernel_rfl)) (fun _ _ _ h => h) (Or.inl ⟨by rfl, ?_⟩) ?_ ?_
                  rotate_left
                  ·intro w'
                   go_simp
                   with_reducible rfl
                  rotate_left
                  ·simp only [Act.put, List.setIfInBounds_toArray, List.set_cons_zero, List.set_cons_succ, i64_w, i32_w]
                   rfl
                  refine pure_ (i := 2) (N := some 50) (v := ?_) (a' := ?_) #[true, true, true, false, false, false, false, false, false, false, false, false, false, false] rfl rfl (any_of HT_.out (by kernel_rfl)) (fun _ _ _ h => h) (Or.inl ⟨by rfl, ?_⟩) ?_ ?_
                  rotate_left
                  ·intro w'
                   go_simp
                   with_reducible rfl
                  rotate_left
                  ·simp only [Act.put, List.setIfInBounds_toArray, List.set_cons_zero, List.set_cons_succ, i64_w, i32_w]
                   rfl
                  refine pure_ (i := 3) (N := some 51) (v := ?_) (a' := ?_) #[true, true, true, true, false, false, false, false, false, false, false, false, false, false] rfl rfl (any_of HT_.out (by kernel_rfl)) (fun _ _ _ h => h) (Or.inl ⟨by rfl, ?_⟩) ?_ ?_
                  rotate_left
                  ·intro w'
                   go_simp
                   with_reducible rfl
                  rotate_left
                  ·simp only [Act.put, List.setIfInBounds_toArray, List.set_cons_zero, List.set_cons_succ, i64_w, i32_w]
                   rfl
                  refine pure_ (i := 5) (N := some 53) (v := ?_) (a' := ?_) #[true, true, true, true, false, true, false, false, false, false, false, false, false, false] rfl rfl (any_of HT_.out (by kernel_rfl)) (fun _ _ _ h => h) (Or.inl ⟨by rfl, ?_⟩) ?_ ?_
                  rotate_left
                  ·intro w'
                   go_simp
                   with_reducible rfl
                  rotate_left
                  ·simp only [Act.put, List.setIfInBounds_toArray, List.set_cons_zero, List.set_cons_succ, i64_w, i32_w]
                   rfl
                  refine pure_ (i := 6) (N := some 54) (v := ?_) (a' := ?_) #[true, true, true, true, false, true, true, false, false, false, false, false, false, false] rfl rfl (any_of HT_.out (by kernel_rfl)) (fun _ _ _ h => h) (Or.inl ⟨by rfl, ?_⟩) ?_ ?_
                  rotate_left
                  ·intro w'
                   go_simp
                   with_reducible rfl
                  rotate_left
                  ·simp only [Act.put, List.setIfInBounds_toArray, List.set_cons_zero, List.set_cons_succ, i64_w, i32_w]
                   rfl
                  refine pure_ (i := 7) (N := some 55) (v := ?_) (a' := ?_) #[true, true, true, true, false, true, true, true, false, false, false, false, false, false] rfl rfl (any_of HT_.out (by kernel_rfl)) (fun _ _ _ h => h) (Or.inl ⟨by rfl, ?_⟩) ?_ ?_
                  rotate_left
                  ·intro w'
                   go_simp
                   with_reducible rfl
                  rotate_left
                  ·simp only [Act.put, List.setIfInBounds_toArray, List.set_cons_zero, List.set_cons_succ, i64_w, i32_w]
                   rfl
                  refine pure_ (i := 8) (N := some 56) (v := ?_) (a' := ?_) #[true, true, true, true, false, true, true, true, true, false, false, false, false, false] rfl rfl (any_of HT_.out (by kernel_rfl)) (fun _ _ _ h => h) (Or.inl ⟨by rfl, ?_⟩) ?_ ?_
                  rotate_left
                  ·intro w'
                   go_simp
                   with_reducible rfl
                  rotate_left
                  ·simp only [Act.put, List.setIfInBounds_toArray, List.set_cons_zero, List.set_cons_succ, i64_w, i32_w]
                   rfl
                  refine take_ (i := 4) (N := some 52) (v := ?_) (a' := ?_) #[true, true, true, true, true, true, true, true, true, false, false, false, false, false] rfl rfl (take_ofW HT_.out HW_.out (by kernel_rfl)) (fun _ _ _ h => h) (Or.inl ⟨by rfl, ?_⟩) hHeld ?_ ?_
                  rotate_left
                  ·rintro w' ⟨s0, s1⟩
                   go_simp
                   with_reducible rfl
                  rotate_left
                  ·simp only [Act.put, List.setIfInBounds_toArray, List.set_cons_zero, List.set_cons_succ, i64_w, i32_w]
                   rfl
                  refine take_ (i := 9) (N := some 57) (v := ?_) (a' := ?_) #[true, true, true, true, true, true, true, true, true, true, false, false, false, false] rfl rfl (take_ofW HT_.out HW_.out (by kernel_rfl)) (fun _ _ _ h => h) (Or.inl ⟨by rfl, ?_⟩) hHeld ?_ ?_
                  rotate_left
                  ·rintro w' ⟨s0, s1⟩
                   go_simp
                   with_reducible rfl
                  rotate_left
                  ·simp only [Act.put, List.setIfInBounds_toArray, List.set_cons_zero, List.set_cons_succ, i64_w, i32_w]
                   rfl
                  refine one_ (i := 10) (N := some 58) #[true, true, true, true, true, true, true, true, true, true, true, false, false, false] rfl rfl (one_of HT_.out (by kernel_rfl)) (by decide) (fun K hK => ?_)
                  refine goes_ Tryd.func52 (by kernel_rfl) rfl #[.string (rdOf ByteArray.empty x3_3 x8_4), .string (rdOf ByteArray.empty x3_3 (ji21))] (by rfl) rfl rfl (by (try simp only [List.map_toArray, List.map_cons, List.map_nil]); first | done | (simp only [hji21]; rfl) | rfl | (simp only [List.length_drop, List.length_take]; rfl)) ?_
                  with_reducible refine (impl_DigestPair.calls (rdOf ByteArray.empty x3_3 x8_4) (rdOf ByteArray.empty x3_3 (ji21)) t156 _ (Kp.Tab.below HT.out (bZ HB)) A24.out).mono ?_
                  rintro e w27 ⟨rfl, hb⟩
                  have HS0_ := (hb.cell (World.block_lt_of_cell? _ _ (hHeld.1))).trans (hHeld.1)
                  have HS1_ := (hb.cell (World.block_lt_of_cell? _ _ (hHeld.2))).trans (hHeld.2)
                  refine ⟨_, rfl, ?_⟩
                  replace HO_3 := Aside0.mk (Kd.R_below (by (with_reducible repeat (first | apply Kd.R_alloc | apply Kd.R_drewN | apply Kd.R_drew)); exact HO_3.out) hb)
                  replace HO_7 := Aside0.mk (Kd.R_below (by (with_reducible repeat (first | apply Kd.R_alloc | apply Kd.R_drewN | apply Kd.R_drew)); exact HO_7.out) hb)
                  replace HO_6 := Aside0.mk (Kd.S_below (by (with_reducible repeat (first | apply Kd.S_alloc | apply Kd.S_drewN | apply Kd.S_drew)); exact HO_6.out) hb)
                  replace HB := bS HB hb
                  (try clear hb)
                  (try clear hb2)
                  (try clear hk)
                  (try clear hi)
                  refine hK.out _ _ ⟨HS0_, HS1_⟩ (fun hHeld => ?_)
                  clear hK K
                  refine norm_ (a' := ?_) ?_ ?_
                  rotate_left
                  ·show Act.put _ (some 58) _ = _
                   simp only [Act.put, List.setIfInBounds_toArray, List.set_cons_zero, List.set_cons_succ, i64_w, i32_w]
                   rfl
                  refine last_ (i := 11) (N := some 59) #[true, true, true, true, true, true, true, true, true, true, true, true, false, false] rfl rfl (one_of HT_.out (by kernel_rfl)) (by decide) (fun K hK => ?_)
                  refine value_ (w1 := ?_) (v := ?_) (by rfl) rfl ?_ ?_
                  rotate_left 2
                  ·go_simp
                   constructor
                   ·rfl
                   ·rfl
                  refine hK.out _ _ ?_
                  clear hK K
                  refine norm_ (a' := ?_) ?_ ?_
                  rotate_left
                  ·show Act.put _ (some 59) _ = _
                   simp only [Act.put, List.setIfInBounds_toArray, List.set_cons_zero, List.set_cons_succ, i64_w, i32_w]
                   rfl
                  refine last_ (i := 12) (N := some 60) #[true, true, true, true, true, true, true, true, true, true, true, true, true, false] rfl rfl (one_of HT_.out (by kernel_rfl)) (by decide) (fun K hK => ?_)
                  refine Kd.R_append_step Kd.string (w0 := w) w.heap.size (by rfl) (.tmp 48) (.tmp 59) 22 9 (.string ⟨#[]⟩) 16 rfl Tryd.underlying22 info9 rfl (by decide) (by omega) u7 x7_4 t156 [.string t156] (fun k_ => some k_ ≠ (.slice (some ad154) x3_3.length co18 : Value).ownBlock) (fun _ => False) rfl rfl ?aP (fun _ hk => hk.elim) ?aF ?aO ?aB ?aS ?aL ?_
                  (case aP => exact rfl)
                  (case aB => exact (bZ HB))
                  (case aF => exact (fun k_ hk => Kd.fresh' (Kd.R_lt (by (with_reducible repeat (first | apply Kd.R_alloc | apply Kd.R_drewN | apply Kd.R_drew)); exact HO_3.out)) k_ hk))
                  (case aO => exact (by (with_reducible repeat (first | apply Kd.R_alloc | apply Kd.R_drewN | apply Kd.R_drew)); exact HO_7.out))
                  (case aS => exact (below_size (bZ HB)))
                  (case aL => have := LMc25.out; omega)
                  intro v158 w28 ho hb hg hat
                  rw [← Ny157.out] at ho
                  replace HO_3 := Aside0.mk (Kd.R_after (ok := (fun _ => True)) (by (with_reducible repeat (first | apply Kd.R_alloc | apply Kd.R_drewN | apply Kd.R_drew)); exact Kd.R_mono HO_3.out (fun _ hk => ⟨trivial, hk⟩)) hg hat)
                  replace HO_6 := Aside0.mk (Kd.S_after (ok := (fun _ => True)) (by (with_reducible repeat (first | apply Kd.S_alloc | apply Kd.S_drewN | apply Kd.S_drew)); exact Kd.S_mono HO_6.out (fun _ hk => ⟨trivial, hk⟩)) hg hat)
                  replace HB := Aside0.mk (hb)
                  have HO159 := Aside0.mk (ho)
                  clear HO_7
                  clear ho hb hg hat
                  refine hK.out _ _ ?_
                  clear hK K
                  refine norm_ (a' := ?_) ?_ ?_
                  rotate_left
                  ·show Act.put _ (some 60) _ = _
                   simp only [Act.put, List.setIfInBounds_toArray, List.set_cons_zero, List.set_cons_succ, i64_w, i32_w]
                   rfl
                  refine pure_ (i := 13) (N := some 7) (v := ?_) (a' := ?_) #[true, true, true, true, true, true, true, true, true, true, true, true, true, true] rfl rfl (any_of HT_.out (by kernel_rfl)) (fun _ _ _ h => h) (Or.inl ⟨by rfl, ?_⟩) ?_ ?_
                  rotate_left
                  ·intro w'
                   go_simp
                   with_reducible rfl
                  rotate_left
                  ·simp only [Act.put, List.setIfInBounds_toArray, List.set_cons_zero, List.set_cons_succ, i64_w, i32_w]
                   rfl
                  refine done_ (done_of HT_.out (by kernel_rfl)) ?_
                  try go_wp2
                  go_roundg k4
                  case measure => have := HK1.out; have := HK2.out; have := HK3.out; have := HK4.out; omega
                  case rel => exact ⟨(y157), (wrap64 (x8_4 + 2)), (by first | rfl | (simp; done) | (simp [*]; done)), H', ⟨by have := HK1.out; have := HK2.out; have := HK3.out; have := HK4.out; omega⟩, ⟨by (with_reducible repeat (first | apply Kd.R_alloc | apply Kd.R_drewN | apply Kd.R_drew)); exact Kd.R_mono HO_3.out (fun _ hk => hk.2)⟩, ⟨by (with_reducible repeat (first | apply Kd.R_alloc | apply Kd.R_drewN | apply Kd.R_drew)); exact HO159.out⟩, ⟨by (with_reducible repeat (first | apply Kd.S_alloc | apply Kd.S_drewN | apply Kd.S_drew)); exact Kd.S_mono HO_6.out (fun _ hk => hk.2)⟩, ⟨bZ HB⟩⟩
                 ·rw [if_neg c25] at H
                  exact absurd H (by simp)
                ·rw [if_neg c23] at H
                 exact absurd H (by simp)
               ·rw [if_neg c22] at H
                exact absurd H (by simp)
              ·rw [if_neg c20] at H
               exact absurd H (by simp)
             ·rw [if_neg c19] at H
              have c19b0 : decide (x8_4 < (x3_3.length : Int)) = false := decide_eq_false c19
              clear c19
              by_cases c991 : x6_3.length < 5000000000000
              case neg => rw [if_neg c991] at H; exact absurd H (by simp)
              rw [if_pos c991] at H
              have LMc991 := Aside0.mk c991
              clear c991
              obtain ⟨Ao993, co993, eo993⟩ := Kd.R_slice HO_7.out
              subst eo993
              have HO_77 : Aside0 (Kd.R Kd.string 9 wr w.heap.size (fun k_ => some k_ ≠ (u6 : Value).ownBlock) (.slice Ao993 x7_4.length co993) x7_4) := ⟨Kd.R_mono (Kd.R_apartR HO_7.out (Kd.S_R HO_6.out) (by decide)) (fun _ hk => hk.2)⟩
              have H' := Aside0.mk H
              clear H
              go_wp2_with (first | ((with_reducible refine gate_builtin (b := .append) (xs := #[.tmp 61, .tmp 63]) rfl ?_); (try (refine gate_guard (by rfl) ?_; dsimp only)); at_builtin; refine Kd.S_append (Kd.slice 9 Kd.string) (w0 := w) w.heap.size rfl (.tmp 61) (.tmp 63) 65 22 (.slice none 0 0) 24 rfl Tryd.underlying65 info22 rfl (by decide) (by omega) u6 x6_3 x7_4 [(.slice Ao993 x7_4.length co993)] (fun _ => True) (fun k_ => some k_ = ((.slice Ao993 x7_4.length co993) : Value).ownBlock) rfl rfl ?aP ?aK ?aF ?aO ?aB ?aS ?aL ?_; (case aP => exact Kd.M_row (Kd.R_tight rfl (by (with_reducible repeat (first | apply Kd.R_alloc | apply Kd.R_drewN | apply Kd.R_drew)); exact HO_7.out))); (case aK => exact fun k_ e_ => ⟨trivial, HO_77.out.1 k_ e_.symm⟩); (case aF => exact (fun _ _ => trivial)); (case aO => exact (by (with_reducible repeat (first | apply Kd.S_alloc | apply Kd.S_drewN | apply Kd.S_drew)); exact Kd.S_mono HO_6.out (fun _ hk => ⟨trivial, hk⟩))); (case aB => exact (bZ HB)); (case aS => exact (below_size (bZ HB))); (case aL => have := LMc991.out; omega); intro v992 w992 ho hb hg hat; have n0_ := Aside0.mk (Kd.R_grown (ok := fun k_ => some k_ ≠ (u6 : Value).ownBlock) (by (with_reducible repeat (first | apply Kd.R_alloc | apply Kd.R_drewN | apply Kd.R_drew)); exact HO_77.out) hg (fun _ hk => hk)); clear HO_3 HO_7 HO_77 HO_6; clear HB; have HO_7 := Aside0.mk (Kd.R_mono (ok' := fun _ => True) n0_.out (fun _ _ => trivial)); have HO_6 := Aside0.mk ho; have HB := Aside0.mk hb; clear n0_; clear ho hb hg hat))
              go_roundg k4
              case measure => have := HK1.out; have := HK2.out; have := HK3.out; have := HK4.out; omega
              case rel => exact ⟨(x7_4), (x6_3 ++ [x7_4]), H', ⟨by have := HK1.out; have := HK2.out; have := HK3.out; have := HK4.out; omega⟩, ⟨by (with_reducible repeat (first | apply Kd.R_alloc | apply Kd.R_drewN | apply Kd.R_drew)); exact Kd.R_mono HO_7.out (fun _ hk => trivial)⟩, ⟨by (with_reducible repeat (first | apply Kd.S_alloc | apply Kd.S_drewN | apply Kd.S_drew)); exact HO_6.out⟩, ⟨bZ HB⟩⟩
          ·rw [if_neg c17] at H
           have c17b0 : decide (1 < (x3_3.length : Int)) = false := decide_eq_false c17
           have c17b1 : decide (1 < x3_3.length) = false := decide_eq_false (by omega)
           clear c17
           obtain rfl := Option.some.inj H
           obtain ⟨Ao29, co29, eo29⟩ := Kd.R_slice HO_3.out
           subst eo29
           go_wp2
           go_ret
           exact ⟨_, by first | rfl | (simp [errW_none, errW_some] <;> rfl) | (simp [*, errW_none, errW_some] <;> rfl), by (with_reducible repeat (first | apply Kd.S_alloc | apply Kd.S_drewN | apply Kd.S_drew)); exact HO_6.out, bZ HB⟩
       ·rw [if_neg c15] at H
        have c15b0 : ((Go.bits .and .i64 (x3_2.length : Int) (wrap64 ((x3_2.length : Int) - 1))) == 0) = false := beq_eq_false_iff_ne.mpr c15
        have c15b1 : ((Go.bits .and .i64 (x3_2.length : Int) (wrap64 ((x3_2.length : Int) - 1))) != 0) = true := bne_iff_ne.mpr c15
        replace H := Option.bind_eq_some_iff.mp H
        obtain ⟨t150, A300, H⟩ := H
        replace H : (if x3_2.length < 8796093022208 then (impl_levelsOfTree.l1 k2 (x3_2 ++ [t150])) else (none)) = some r := H
        have A30 := Aside0.mk A300
        clear A300
        by_cases c31 : x3_2.length < 8796093022208
        ·rw [if_pos c31] at H
         have LMc31 := Aside0.mk c31
         clear c31
         obtain ⟨y151, hy151⟩ : ∃ y_ : List ByteArray, y_ = (x3_2 ++ [t150]) := ⟨_, rfl⟩
         replace H : (impl_levelsOfTree.l1 k2 y151) = some r := by first | (rw [hy151]; with_reducible exact H) | (have H2_ := (Option.bind_some _ _).symm.trans H; rw [hy151]; with_reducible exact H2_) | (have H2_ := (Option.bind_some _ _).symm.trans H; with_reducible exact H2_) | with_reducible exact H | (rw [hy151]; exact H) | exact H
         have Ny151 := Aside0.mk hy151
         clear hy151
         have H' := Aside0.mk H
         clear H
         obtain ⟨Ao32, co32, eo32⟩ := Kd.R_slice HO_3.out
         subst eo32
         go_wp2_with (first | ((with_reducible refine gate_callee (f := 51) rfl ?_); refine goesL_ (some 34) rfl rfl Tryd.func51 (by kernel_rfl) rfl #[.string (⟨#[]⟩ : ByteArray)] rfl (by (try simp only [List.map_toArray, List.map_cons, List.map_nil]); first | done | rfl | (simp only [List.length_drop, List.length_take]; rfl)) ?_; (with_reducible refine (impl_Digest.calls (⟨#[]⟩ : ByteArray) t150 _ (Kp.Tab.below HT.out (bZ HB)) A30.out).mono ?_); rintro e w33 ⟨rfl, hb⟩; refine ⟨_, rfl, ?_⟩; replace HO_3 := Aside0.mk (Kd.R_below (by (with_reducible repeat (first | apply Kd.R_alloc | apply Kd.R_drewN | apply Kd.R_drew)); exact HO_3.out) hb); replace HB := bS HB hb; (try clear hb); (try clear hb2); (try clear hk); (try clear hi)) | ((with_reducible refine gate_builtin (b := .append) (xs := #[.tmp 33, .tmp 35]) rfl ?_); (try (refine gate_guard (by rfl) ?_; dsimp only)); at_builtin; refine Kd.R_append Kd.string (w0 := w) w.heap.size rfl (.tmp 33) (.tmp 35) 22 9 (.string ⟨#[]⟩) 16 rfl Tryd.underlying22 info9 rfl (by decide) (by omega) (.slice Ao32 x3_2.length co32) x3_2 t150 [.string t150] (fun _ => True) (fun _ => False) rfl rfl ?aP (fun _ hk => hk.elim) ?aF ?aO ?aB ?aS ?aL ?_; (case aP => exact rfl); (case aB => exact (bZ HB)); (case aF => exact (fun _ _ => trivial)); (case aO => exact (by (with_reducible repeat (first | apply Kd.R_alloc | apply Kd.R_drewN | apply Kd.R_drew)); exact HO_3.out)); (case aS => exact (below_size (bZ HB))); (case aL => have := LMc31.out; omega); intro v152 w34 ho hb hg hat; rw [← Ny151.out] at ho; replace HB := Aside0.mk (hb); have HO153 := Aside0.mk (ho); clear HO_3; clear ho hb hg hat))
         go_roundg k2
         case measure => have := HK1.out; have := HK2.out; omega
         case rel => exact ⟨(y151), H', ⟨by have := HK1.out; have := HK2.out; omega⟩, ⟨by (with_reducible repeat (first | apply Kd.R_alloc | apply Kd.R_drewN | apply Kd.R_drew)); exact HO153.out⟩, ⟨bZ HB⟩⟩
        ·rw [if_neg c31] at H
         exact absurd H (by simp)



end Go.Proofs.YtmiiknkfhiecgaaDoor.Pf
end
section
namespace Go.Proofs.YtmiiknkfhiecgaaDoor.Pf
open Go.RowKit Go.Proofs.YtmiiknkfhiecgaaDoorW.PrintWords Go.Proofs.YtmiiknkfhiecgaaDoorW.PrintLast Go.Proofs.YtmiiknkfhiecgaaDoorW.PrintMore
attribute [local go_sem] max2_int min2_int max_two min_two max_three min_three max_four min_four   -- for this text's walks alone
set_option linter.unusedVariables false
set_option linter.unusedSimpArgs false

/-! ### impl_BranchOf: function 23 -/
mutual
def impl_BranchOf.j0 : Nat → List ByteArray → Int → Bool → Option (List ByteArray)
 | 0, _, _, _ => none
 | k + 1, x0, x1, x21 => if x21 = true then (some ([] : List ByteArray)) else ((impl_levelsOfTree.f k x0).bind fun t248 => (if 0 ≤ (wrap64 ((t248.length : Int) - 1)) then (if (wrap64 ((t248.length : Int) - 1)) ≤ (t248.length : Int) then ((some (t248.take ((wrap64 ((t248.length : Int) - 1)) : Int).toNat : List (List ByteArray))).bind fun y251 => (impl_BranchOf.l0 k x1 ([] : List ByteArray) y251 (y251.length : Int) 0)) else (none)) else (none)))
def impl_BranchOf.l0 : Nat → Int → List ByteArray → List (List ByteArray) → Int → Int → Option (List ByteArray)
 | 0, _, _, _, _, _ => none
 | k + 1, x1, x5, x28, x29, x30 => if x30 < x29 then (if 0 ≤ x30 then (if x30 < (x28.length : Int) then (if 0 ≤ (Go.bits .xor .i64 x1 1) then (if (Go.bits .xor .i64 x1 1) < ((rd_L2 x28 x30).length : Int) then (if x5.length < 8796093022208 then (impl_BranchOf.l0 k (wrap64 (Int.tdiv x1 2)) (x5 ++ [rdOf ByteArray.empty (rd_L2 x28 x30) (Go.bits .xor .i64 x1 1)]) x28 x29 (wrap64 (x30 + 1))) else (none)) else (none)) else (none)) else (none)) else (none)) else (some x5)
end
def impl_BranchOf.f (k : Nat) (l0 : List ByteArray) (a1 : Int) : Option (List ByteArray) := if (l0.length : Int) > 32 then (impl_BranchOf.j0 k l0 a1 true) else (if a1 < 0 then (impl_BranchOf.j0 k l0 a1 true) else (impl_BranchOf.j0 k l0 a1 (decide (a1 ≥ (l0.length : Int)))))
theorem impl_BranchOf.mono_l : ∀ k, (∀ y0 y1 y2, LeO (impl_BranchOf.j0 k y0 y1 y2) (impl_BranchOf.j0 (k + 1) y0 y1 y2)) ∧ (∀ y0 y1 y2 y3 y4, LeO (impl_BranchOf.l0 k y0 y1 y2 y3 y4) (impl_BranchOf.l0 (k + 1) y0 y1 y2 y3 y4))
 | 0 => ⟨fun _ _ _ r h => by simp [impl_BranchOf.j0] at h, fun _ _ _ _ _ r h => by simp [impl_BranchOf.l0] at h⟩
 | k + 1 => by
  obtain ⟨ih0, ih1⟩ := impl_BranchOf.mono_l k
  refine ⟨?_, ?_⟩
  ·intro y0 y1 y2
   unfold impl_BranchOf.j0
   repeat' first
   | (with_reducible exact ih0 _ _ _)
   | (with_reducible exact ih1 _ _ _ _ _)
   | (with_reducible exact impl_levelsOfTree.mono _ _)
   | (with_reducible exact LeO.refl _)
   | (with_reducible exact LeO.none _)
   | (with_reducible refine LeO.ite ?_ ?_)
   | (with_reducible refine LeO.bind ?_ (fun _ => ?_))
   | exact ih0 _ _ _
   | exact ih1 _ _ _ _ _
   | exact impl_levelsOfTree.mono _ _
   | exact LeO.none _
   | refine LeO.ite ?_ ?_
   | refine LeO.bind ?_ (fun _ => ?_)
  ·intro y0 y1 y2 y3 y4
   unfold impl_BranchOf.l0
   repeat' first
   | (with_reducible exact ih0 _ _ _)
   | (with_reducible exact ih1 _ _ _ _ _)
   | (with_reducible exact impl_levelsOfTree.mono _ _)
   | (with_reducible exact LeO.refl _)
   | (with_reducible exact LeO.none _)
   | (with_reducible refine LeO.ite ?_ ?_)
   | (with_reducible refine LeO.bind ?_ (fun _ => ?_))
   | exact ih0 _ _ _
   | exact ih1 _ _ _ _ _
   | exact impl_levelsOfTree.mono _ _
   | exact LeO.none _
   | refine LeO.ite ?_ ?_
   | refine LeO.bind ?_ (fun _ => ?_)
theorem impl_BranchOf.mono : ∀ a0 a1 k, LeO (impl_BranchOf.f k a0 a1) (impl_BranchOf.f (k + 1) a0 a1) := by
 intro a0 a1 k
 obtain ⟨ih0, ih1⟩ := impl_BranchOf.mono_l k
 unfold impl_BranchOf.f
 repeat' first
   | (with_reducible exact ih0 _ _ _)
   | (with_reducible exact ih1 _ _ _ _ _)
   | (with_reducible exact impl_levelsOfTree.mono _ _)
   | (with_reducible exact LeO.refl _)
   | (with_reducible exact LeO.none _)
   | (with_reducible refine LeO.ite ?_ ?_)
   | (with_reducible refine LeO.bind ?_ (fun _ => ?_))
   | exact ih0 _ _ _
   | exact ih1 _ _ _ _ _
   | exact impl_levelsOfTree.mono _ _
   | exact LeO.none _
   | refine LeO.ite ?_ ?_
   | refine LeO.bind ?_ (fun _ => ?_)
set_option maxHeartbeats 8000000 in
set_option maxRecDepth 100000 in
theorem impl_BranchOf.calls (k : Nat) (A0 : Option Addr) (c0 : Nat) (l0 : List ByteArray) (a1 : Int) (r : List ByteArray) (w : World) (hr0 : Kd.C Kd.string w A0 l0.length l0) (hc0 : l0.length ≤ c0) (hT : Kp.Tab w) (h : impl_BranchOf.f k l0 a1 = some r) :
  Calls Tryd.prog 23 #[.slice A0 l0.length c0, .int .i64 a1] w fun e w' => ∃ v0_ : Value, e = .returned (v0_) ∧ Kd.R Kd.string 9 w' w.heap.size (fun _ => True) v0_ r ∧ Below w.heap.size w w' := by
 have HT := Aside0.mk hT
 clear hT
 have HR0 := Aside0.mk hr0
 have HC0 := Aside0.mk hc0
 clear hr0 hc0
 have HB := Aside0.mk (Below.refl w.heap.size w)
 have H : (if (l0.length : Int) > 32 then (impl_BranchOf.j0 k l0 a1 true) else (if a1 < 0 then (impl_BranchOf.j0 k l0 a1 true) else (impl_BranchOf.j0 k l0 a1 (decide (a1 ≥ (l0.length : Int)))))) = some r := h
 clear h
 have HC3 := Aside0.mk H
 clear H
 go_enter Tryd.func23, Tryd.ntmps23
 go_upto_region 1 with (fail)
 go_cut [21] (fun v21 wc => ∃ (kq : Nat) (x21_2 : Bool), v21 = .bool x21_2 ∧ Aside0 (impl_BranchOf.j0 kq l0 a1 x21_2 = some r) ∧ Aside0 (kq ≤ k) ∧ Aside0 (Below w.heap.size w wc))
 case first =>
  have H := HC3.out
  clear HC3
  by_cases c4 : (l0.length : Int) > 32
  ·rw [if_pos c4] at H
   have c4b0 : decide (32 < (l0.length : Int)) = true := decide_eq_true c4
   have c4b1 : decide (32 < l0.length) = true := decide_eq_true (by omega)
   clear c4
   (first | rw [c4b0] | (simp only [i64_w, i32_w]; rw [c4b0]) | rw [c4b1] | skip)
   have H' := Aside0.mk H
   clear H
   go_wp2
   go_meet
   case rel => exact ⟨_, (true), (by first | rfl | (simp; done) | (simp [*]; done)), H', ⟨by first | omega | exact Nat.le_refl _⟩, ⟨bZ HB⟩⟩
  ·rw [if_neg c4] at H
   have c4b0 : decide (32 < (l0.length : Int)) = false := decide_eq_false c4
   have c4b1 : decide (32 < l0.length) = false := decide_eq_false (by omega)
   clear c4
   (first | rw [c4b0] | (simp only [i64_w, i32_w]; rw [c4b0]) | rw [c4b1] | skip)
   by_cases c5 : a1 < 0
   ·rw [if_pos c5] at H
    have c5b0 : decide (a1 < 0) = true := decide_eq_true c5
    clear c5
    have H' := Aside0.mk H
    clear H
    go_wp2
    go_meet
    case rel => exact ⟨_, (true), (by first | rfl | (simp; done) | (simp [*]; done)), H', ⟨by first | omega | exact Nat.le_refl _⟩, ⟨bZ HB⟩⟩
   ·rw [if_neg c5] at H
    have c5b0 : decide (a1 < 0) = false := decide_eq_false c5
    clear c5
    have H' := Aside0.mk H
    clear H
    go_wp2
    go_meet
    case rel => exact ⟨_, (decide (a1 ≥ (l0.length : Int))), (by first | rfl | (simp; done) | (simp [*]; done)), H', ⟨by first | omega | exact Nat.le_refl _⟩, ⟨bZ HB⟩⟩
 case rest =>
  clear HC3
  try clear c2
  try clear p2
  try clear c4
  try clear c4b0
  try clear c4b1
  try clear c5
  try clear c5b0
  obtain ⟨kq, x21_2, rfl, HA, HJ2, HB⟩ := hcut
  cases kq with
  | zero => exact absurd HA.out (by simp [impl_BranchOf.j0])
  | succ kj2 =>
   have H := HA.out
   clear HA
   simp only [impl_BranchOf.j0] at H
   by_cases c6 : x21_2 = true
   ·subst c6
    have H1 : (some ([] : List ByteArray)) = some r := by rw [if_pos rfl] at H; exact H
    clear H
    have H := H1
    clear H1
    obtain rfl := Option.some.inj H
    go_wp2
    go_ret
    exact ⟨_, by first | rfl | (simp [errW_none, errW_some] <;> rfl) | (simp [*, errW_none, errW_some] <;> rfl), by first | exact Kd.R_nil _ _ _ _ _ | exact Kd.N_nil _ _ _ _ _ | exact Kd.V_nil _ _ _ _ _ | exact Kd.Q_nil _ _ _ _ _ | exact Kd.S_nil _ _ _ _ _, bZ HB⟩
   ·replace c6 := Bool.eq_false_iff.mpr c6
    subst c6
    have H1 : ((impl_levelsOfTree.f kj2 l0).bind fun t248 => (if 0 ≤ (wrap64 ((t248.length : Int) - 1)) then (if (wrap64 ((t248.length : Int) - 1)) ≤ (t248.length : Int) then ((some (t248.take ((wrap64 ((t248.length : Int) - 1)) : Int).toNat : List (List ByteArray))).bind fun y251 => (impl_BranchOf.l0 kj2 a1 ([] : List ByteArray) y251 (y251.length : Int) 0)) else (none)) else (none))) = some r := by rw [if_neg (show ¬ (false = true) by decide)] at H; exact H
    clear H
    have H := H1
    clear H1
    replace H := Option.bind_eq_some_iff.mp H
    obtain ⟨t248, A70, H⟩ := H
    replace H : (if 0 ≤ (wrap64 ((t248.length : Int) - 1)) then (if (wrap64 ((t248.length : Int) - 1)) ≤ (t248.length : Int) then ((some (t248.take ((wrap64 ((t248.length : Int) - 1)) : Int).toNat : List (List ByteArray))).bind fun y251 => (impl_BranchOf.l0 kj2 a1 ([] : List ByteArray) y251 (y251.length : Int) 0)) else (none)) else (none)) = some r := H
    have A7 := Aside0.mk A70
    clear A70
    obtain ⟨ji8, hji8⟩ : ∃ j_ : Int, (wrap64 ((t248.length : Int) - 1)) = j_ := ⟨_, rfl⟩
    replace H : (if 0 ≤ (ji8) then (if (ji8) ≤ (t248.length : Int) then ((some (t248.take ((ji8) : Int).toNat : List (List ByteArray))).bind fun y251 => (impl_BranchOf.l0 kj2 a1 ([] : List ByteArray) y251 (y251.length : Int) 0)) else (none)) else (none)) = some r := by first | (rw [hji8] at H; exact H) | (simp only [hji8] at H ⊢; exact H)
    (try rw [hji8] at A7)
    have hji8w : (IntKind.i64.wrap ((t248.length : Int) - 1)) = ji8 := (i64_w _).trans hji8
    by_cases c9 : 0 ≤ (ji8)
    ·rw [if_pos c9] at H
     have c9b0 := eq_true c9
     have c9b1 : decide (0 ≤ (ji8)) = true := decide_eq_true c9
     clear c9
     by_cases c10 : (ji8) ≤ (t248.length : Int)
     ·rw [if_pos c10] at H
      have c10b0 := eq_true c10
      have c10b1 : decide ((ji8) ≤ (t248.length : Int)) = true := decide_eq_true c10
      clear c10
      obtain ⟨y251, hy251⟩ : ∃ y_ : List (List ByteArray), y_ = (t248.take ((ji8) : Int).toNat) := ⟨_, rfl⟩
      replace H : (impl_BranchOf.l0 kj2 a1 ([] : List ByteArray) y251 (y251.length : Int) 0) = some r := by first | (rw [hy251]; with_reducible exact H) | (have H2_ := (Option.bind_some _ _).symm.trans H; rw [hy251]; with_reducible exact H2_) | (have H2_ := (Option.bind_some _ _).symm.trans H; with_reducible exact H2_) | with_reducible exact H | (rw [hy251]; exact H) | exact H
      have Ny251 := Aside0.mk hy251
      clear hy251
      have H' := Aside0.mk H
      clear H
      go_wp2_with (first | ((with_reducible refine gate_callee (f := 55) rfl ?_); refine goesL_ (some 23) rfl rfl Tryd.func55 (by kernel_rfl) rfl #[.slice A0 l0.length c0] rfl (by (try simp only [List.map_toArray, List.map_cons, List.map_nil]); first | done | rfl | (simp only [List.length_drop, List.length_take]; rfl)) ?_; (with_reducible refine (impl_levelsOfTree.calls kj2 _ _ l0 t248 _ ?side1 ?side2 (Kp.Tab.below HT.out (bZ HB)) A7.out).mono ?_); (case side1 => repeat (first | exact (Kd.C_below HR0.out HB.out) | (with_reducible refine Kd.C_alloc ?_ _) | (with_reducible refine Kd.C_drewN ?_ _) | (with_reducible refine Kd.C_drew ?_))); (case side2 => exact HC0.out); rintro e w11 ⟨v249, rfl, ho0, hb⟩; refine ⟨_, rfl, ?_⟩; have HO250 := Aside0.mk (Kd.S_lower ho0 (below_size (bZ HB))); replace HB := bS HB hb; (try clear hb); (try clear hb2); (try clear hk); (try clear hi); (try clear ho0); obtain ⟨Ao12, co12, eo12⟩ := Kd.S_slice HO250.out; subst eo12; have q13 : ((ji8) : Int) ≤ ((t248.length : Int) : Int) := of_decide_eq_true (by first | (with_reducible assumption) | assumption); obtain ⟨i013, hi013, _, hsz13, _⟩ := info_parts info22; have hroom13 : t248.length ≤ co12 := (Kd.S_reads' HO250.out).2.1; have hC13 : Kd.C (Kd.slice 9 Kd.string) _ Ao12 t248.length t248 := (Kd.S_reads' HO250.out).2.2; have hcut13 := cut_to (P := Tryd.prog) 65 22 .i64 Tryd.underlying65 hi013 Ao12 t248.length co12 (ji8) (of_decide_eq_true (by first | (with_reducible assumption) | assumption)) q13 hroom13; have hr13 := Kd.C_take (m := ((ji8) : Int).toNat) hC13 (by omega); have hy13 : y251.length = ((ji8) : Int).toNat := (by rw [Ny251.out, List.length_take]; omega); rw [← Ny251.out] at hr13; rw [← hy13] at hcut13; have HR254 := Aside0.mk hr13; have HC254 := Aside0.mk (show y251.length ≤ co12 from by omega); clear hr13 hC13 hroom13 hi013 hsz13; have KY13 := Aside0.mk hy13; clear hy13; have KL13 := Aside0.mk (show ((ji8) : Int).toNat ≤ t248.length from by omega); replace q13 := eq_true q13))
      have HB11 := HB
      have HBW := Aside0.mk (Below.refl w11.heap.size w11)
      go_loopg [1, 5, 30] kj2 (fun kq v1 v5 v30 w' => ∃ (x1_2 : Int) (x5_2 : List ByteArray) (x30_2 : Int), v1 = .int .i64 x1_2 ∧ v30 = .int .i64 x30_2 ∧ Aside0 (impl_BranchOf.l0 kq x1_2 x5_2 y251 (y251.length : Int) x30_2 = some r) ∧ Aside0 (kq ≤ kj2) ∧ Aside0 (Kd.R Kd.string 9 w' w11.heap.size (fun _ => True) v5 x5_2) ∧ Aside0 (Below w.heap.size w w') ∧ Aside0 (Below w11.heap.size w11 w'))
      case atStart => exact ⟨(a1), (([] : List ByteArray)), (0), (by first | rfl | (simp; done) | (simp [*]; done)), (by first | rfl | (simp; done) | (simp [*]; done)), H', ⟨Nat.le_refl _⟩, ⟨by first | exact Kd.R_nil _ _ _ _ _ | exact Kd.N_nil _ _ _ _ _ | exact Kd.V_nil _ _ _ _ _ | exact Kd.Q_nil _ _ _ _ _ | exact Kd.S_nil _ _ _ _ _⟩, ⟨bZ HB⟩, ⟨by repeat (first | (with_reducible first | exact HBW.out | apply below_alloc | apply pw_below_drewN | apply below_drew1) | exact HBW.out)⟩⟩
      case round =>
       clear H' HBW
       try clear c1
       try clear q1
       try clear c2
       try clear p2
       try clear c4
       try clear c4b0
       try clear c4b1
       try clear c5
       try clear c5b0
       try clear c6
       try clear p6
       try clear c9
       try clear c9b0
       try clear c9b1
       try clear c10
       try clear c10b0
       try clear c10b1
       try clear q13
       try clear p2
       try clear q13
       obtain ⟨x1_2, x5_2, x30_2, rfl, rfl, HA, HK2, HO_5, HB, HBW⟩ := hrel
       cases gk with
       | zero => exact absurd HA.out (by simp [impl_BranchOf.l0])
       | succ k2 =>
        have H := HA.out
        clear HA
        simp only [impl_BranchOf.l0] at H
        by_cases c14 : x30_2 < (y251.length : Int)
        ·rw [if_pos c14] at H
         have c14b0 : decide (x30_2 < (y251.length : Int)) = true := decide_eq_true c14
         clear c14
         by_cases c15 : 0 ≤ x30_2
         ·rw [if_pos c15] at H
          have c15b0 : decide (0 ≤ x30_2) = true := decide_eq_true c15
          clear c15
          by_cases c16 : x30_2 < (y251.length : Int)
          ·rw [if_pos c16] at H
           have c16b0 : decide (x30_2 < (y251.length : Int)) = true := decide_eq_true c16
           clear c16
           by_cases c17 : 0 ≤ (Go.bits .xor .i64 x1_2 1)
           ·rw [if_pos c17] at H
            have c17b0 : decide (0 ≤ (Go.bits .xor .i64 x1_2 1)) = true := decide_eq_true c17
            clear c17
            by_cases c18 : (Go.bits .xor .i64 x1_2 1) < ((rd_L2 y251 x30_2).length : Int)
            ·rw [if_pos c18] at H
             have c18b0 : decide ((Go.bits .xor .i64 x1_2 1) < ((rd_L2 y251 x30_2).length : Int)) = true := decide_eq_true c18
             clear c18
             by_cases c19 : x5_2.length < 8796093022208
             ·rw [if_pos c19] at H
              have LMc19 := Aside0.mk c19
              clear c19
              obtain ⟨y257, hy257⟩ : ∃ y_ : List ByteArray, y_ = (x5_2 ++ [rdOf ByteArray.empty (rd_L2 y251 x30_2) (Go.bits .xor .i64 x1_2 1)]) := ⟨_, rfl⟩
              replace H : (impl_BranchOf.l0 k2 (wrap64 (Int.tdiv x1_2 2)) y257 y251 (y251.length : Int) (wrap64 (x30_2 + 1))) = some r := by first | (rw [hy257]; with_reducible exact H) | (have H2_ := (Option.bind_some _ _).symm.trans H; rw [hy257]; with_reducible exact H2_) | (have H2_ := (Option.bind_some _ _).symm.trans H; with_reducible exact H2_) | with_reducible exact H | (rw [hy257]; exact H) | exact H
              have Ny257 := Aside0.mk hy257
              clear hy257
              have H' := Aside0.mk H
              clear H
              have p255 : 0 ≤ (x30_2 : Int) := of_decide_eq_true (by first | (with_reducible assumption) | assumption)
              have q255 : x30_2 < (y251.length : Int) := of_decide_eq_true (by first | (with_reducible assumption) | assumption)
              obtain ⟨ad255, A255_0, c255_0, e255, hx255_0, hl255_0, hi255_0⟩ := at_L2 HR254.out x30_2 p255 q255
              cases e255
              replace hx255_0 := (HBW.out.cell (World.block_lt_of_cell? w11 _ hx255_0)).trans hx255_0
              have HR255_0 := Aside0.mk hi255_0
              have HC255_0 := Aside0.mk hl255_0
              clear hi255_0 hl255_0
              replace p255 := eq_true p255
              replace q255 := eq_true q255
              have p256 : 0 ≤ ((Go.bits .xor .i64 x1_2 1) : Int) := of_decide_eq_true (by first | (with_reducible assumption) | assumption)
              have q256 : (Go.bits .xor .i64 x1_2 1) < ((rd_L2 y251 x30_2).length : Int) := of_decide_eq_true (by first | (with_reducible assumption) | assumption)
              obtain ⟨ad256, e256, hx256_0⟩ := Kd.at_string HR255_0.out (Go.bits .xor .i64 x1_2 1) p256 q256
              cases e256
              replace hx256_0 := (HBW.out.cell (World.block_lt_of_cell? w11 _ hx256_0)).trans hx256_0
              replace p256 := eq_true p256
              replace q256 := eq_true q256
              go_wp2_with (first | ((with_reducible refine gate_builtin (b := .append) (xs := #[.tmp 34, .tmp 40]) rfl ?_); (try (refine gate_guard (by rfl) ?_; dsimp only)); at_builtin; refine Kd.R_append Kd.string (w0 := w11) w11.heap.size rfl (.tmp 34) (.tmp 40) 22 9 (.string ⟨#[]⟩) 16 rfl Tryd.underlying22 info9 rfl (by decide) (by omega) u5 x5_2 (rdOf ByteArray.empty (rd_L2 y251 x30_2) (Go.bits .xor .i64 x1_2 1)) [.string (rdOf ByteArray.empty (rd_L2 y251 x30_2) (Go.bits .xor .i64 x1_2 1))] (fun _ => True) (fun _ => False) rfl rfl ?aP (fun _ hk => hk.elim) ?aF ?aO ?aB ?aS ?aL ?_; (case aP => exact rfl); (case aB => exact (by repeat (first | (with_reducible first | exact HBW.out | apply below_alloc | apply pw_below_drewN | apply below_drew1) | exact HBW.out))); (case aF => exact (fun _ _ => trivial)); (case aO => exact (by (with_reducible repeat (first | apply Kd.R_alloc | apply Kd.R_drewN | apply Kd.R_drew)); exact HO_5.out)); (case aS => exact (below_size (by repeat (first | (with_reducible first | exact HBW.out | apply below_alloc | apply pw_below_drewN | apply below_drew1) | exact HBW.out)))); (case aL => have := LMc19.out; omega); intro v258 w20 ho hb hg hat; rw [← Ny257.out] at ho; have n0_ := Aside0.mk (below_step HB11.out hb); have HBW_ := Aside0.mk (hb); have n1_ := Aside0.mk (ho); clear HB; clear HBW; have HBW := HBW_; clear HBW_; clear HO_5; have HB := n0_; have HO259 := n1_; clear n0_ n1_; clear ho hb hg hat))
              go_roundg k2
              case measure => have := HJ2.out; have := HK2.out; omega
              case rel => exact ⟨(wrap64 (Int.tdiv x1_2 2)), (y257), (wrap64 (x30_2 + 1)), (by first | rfl | (simp; done) | (simp [*]; done)), (by first | rfl | (simp; done) | (simp [*]; done)), H', ⟨by have := HJ2.out; have := HK2.out; omega⟩, ⟨by (with_reducible repeat (first | apply Kd.R_alloc | apply Kd.R_drewN | apply Kd.R_drew)); exact HO259.out⟩, ⟨bZ HB⟩, ⟨by repeat (first | (with_reducible first | exact HBW.out | apply below_alloc | apply pw_below_drewN | apply below_drew1) | exact HBW.out)⟩⟩
             ·rw [if_neg c19] at H
              exact absurd H (by simp)
            ·rw [if_neg c18] at H
             exact absurd H (by simp)
           ·rw [if_neg c17] at H
            exact absurd H (by simp)
          ·rw [if_neg c16] at H
           exact absurd H (by simp)
         ·rw [if_neg c15] at H
          exact absurd H (by simp)
        ·rw [if_neg c14] at H
         have c14b0 : decide (x30_2 < (y251.length : Int)) = false := decide_eq_false c14
         clear c14
         obtain rfl := Option.some.inj H
         go_wp2
         go_ret
         exact ⟨_, by first | rfl | (simp [errW_none, errW_some] <;> rfl) | (simp only [← hji8]; first | rfl | (simp [errW_none, errW_some] <;> rfl)) | (simp [*, errW_none, errW_some] <;> rfl), by (with_reducible repeat (first | apply Kd.R_alloc | apply Kd.R_drewN | apply Kd.R_drew)); exact Kd.R_lower HO_5.out (below_size HB11.out), bZ HB⟩
     ·rw [if_neg c10] at H
      exact absurd H (by simp)
    ·rw [if_neg c9] at H
     exact absurd H (by simp)

end Go.Proofs.YtmiiknkfhiecgaaDoor.Pf
end
section
namespace Go.Proofs.YtmiiknkfhiecgaaDoor.Pf
open Go.RowKit Go.Proofs.YtmiiknkfhiecgaaDoorW.PrintWords Go.Proofs.YtmiiknkfhiecgaaDoorW.PrintLast Go.Proofs.YtmiiknkfhiecgaaDoorW.PrintMore
attribute [local go_sem] max2_int min2_int max_two min_two max_three min_three max_four min_four   -- for this text's walks alone
set_option linter.unusedVariables false
set_option linter.unusedSimpArgs false
/-! ### laws_markText: function 58 -/
def laws_markText.l0 : Nat → Int → ByteArray → Option (ByteArray)
 | 0, _, _ => none
 | k + 1, x0, x3 => if x0 > 0 then ((some (([(wrap64 (48 + (Int.tmod x0 10))) % 256] : List Int) : List Int)).bind fun y260 => (if (strOfNums y260).size + x3.size ≤ 9223372036854775807 then (laws_markText.l0 k (wrap64 (Int.tdiv x0 10)) ((strOfNums y260) ++ x3)) else (none))) else (if 1 + x3.size ≤ 9223372036854775807 then (some ((⟨#[109]⟩ : ByteArray) ++ x3)) else (none))
def laws_markText.f (k : Nat) (a0 : Int) : Option (ByteArray) := if a0 ≤ 0 then (some (⟨#[109, 48]⟩ : ByteArray)) else (laws_markText.l0 k a0 (⟨#[]⟩ : ByteArray))
theorem laws_markText.mono_l : ∀ k, (∀ y0 y1, LeO (laws_markText.l0 k y0 y1) (laws_markText.l0 (k + 1) y0 y1))
 | 0 => fun _ _ r h => by simp [laws_markText.l0] at h
 | k + 1 => by
  have ih0 := laws_markText.mono_l k
  ·intro y0 y1
   unfold laws_markText.l0
   repeat' first
   | (with_reducible exact ih0 _ _)
   | (with_reducible exact LeO.refl _)
   | (with_reducible exact LeO.none _)
   | (with_reducible refine LeO.ite ?_ ?_)
   | (with_reducible refine LeO.bind ?_ (fun _ => ?_))
   | exact ih0 _ _
   | exact LeO.none _
   | refine LeO.ite ?_ ?_
   | refine LeO.bind ?_ (fun _ => ?_)
theorem laws_markText.mono : ∀ a0 k, LeO (laws_markText.f k a0) (laws_markText.f (k + 1) a0) := by
 intro a0 k
 have ih0 := laws_markText.mono_l k
 unfold laws_markText.f
 repeat' first
   | (with_reducible exact ih0 _ _)
   | (with_reducible exact LeO.refl _)
   | (with_reducible exact LeO.none _)
   | (with_reducible refine LeO.ite ?_ ?_)
   | (with_reducible refine LeO.bind ?_ (fun _ => ?_))
   | exact ih0 _ _
   | exact LeO.none _
   | refine LeO.ite ?_ ?_
   | refine LeO.bind ?_ (fun _ => ?_)
set_option maxHeartbeats 8000000 in
set_option maxRecDepth 100000 in
theorem laws_markText.calls (k : Nat) (a0 : Int) (r : ByteArray) (w : World) (h : laws_markText.f k a0 = some r) :
  Calls Tryd.prog 58 #[.int .i64 a0] w fun e w' => e = .returned (.string r) ∧ Below w.heap.size w w' := by
 have HB := Aside0.mk (Below.refl w.heap.size w)
 have H : (if a0 ≤ 0 then (some (⟨#[109, 48]⟩ : ByteArray)) else (laws_markText.l0 k a0 (⟨#[]⟩ : ByteArray))) = some r := h
 clear h
 by_cases c2 : a0 ≤ 0
 ·rw [if_pos c2] at H
  have c2b0 : decide (a0 ≤ 0) = true := decide_eq_true c2
  clear c2
  obtain rfl := Option.some.inj H
  go_enter Tryd.func58, Tryd.ntmps58
  go_wp2
  go_ret
  exact ⟨by first | rfl | (simp [errW_none, errW_some] <;> rfl) | (simp [*, errW_none, errW_some] <;> rfl), bZ HB⟩
 ·rw [if_neg c2] at H
  have c2b0 : decide (a0 ≤ 0) = false := decide_eq_false c2
  clear c2
  have H' := Aside0.mk H
  clear H
  go_enter Tryd.func58, Tryd.ntmps58
  go_wp2
  go_loopg [0, 3] k (fun kq v0 v3 w' => ∃ (x0_1 : Int) (x3_1 : ByteArray), v0 = .int .i64 x0_1 ∧ v3 = .string x3_1 ∧ Aside0 (laws_markText.l0 kq x0_1 x3_1 = some r) ∧ Aside0 (kq ≤ k) ∧ Aside0 (Below w.heap.size w w'))
  case atStart => exact ⟨(a0), ((⟨#[]⟩ : ByteArray)), (by first | rfl | (simp; done) | (simp [*]; done)), (by first | rfl | (simp; done) | (simp [*]; done)), H', ⟨Nat.le_refl _⟩, ⟨bZ HB⟩⟩
  case round =>
   clear H'
   try clear c2
   try clear c2b0
   try clear p2
   obtain ⟨x0_1, x3_1, rfl, rfl, HA, HK1, HB⟩ := hrel
   cases gk with
   | zero => exact absurd HA.out (by simp [laws_markText.l0])
   | succ k1 =>
    have H := HA.out
    clear HA
    simp only [laws_markText.l0] at H
    by_cases c3 : x0_1 > 0
    ·rw [if_pos c3] at H
     have c3b0 : decide (0 < x0_1) = true := decide_eq_true c3
     clear c3
     obtain ⟨y260, hy260⟩ : ∃ y_ : List Int, y_ = (([(wrap64 (48 + (Int.tmod x0_1 10))) % 256] : List Int)) := ⟨_, rfl⟩
     replace H : (if (strOfNums y260).size + x3_1.size ≤ 9223372036854775807 then (laws_markText.l0 k1 (wrap64 (Int.tdiv x0_1 10)) ((strOfNums y260) ++ x3_1)) else (none)) = some r := by first | (rw [hy260]; with_reducible exact H) | (have H2_ := (Option.bind_some _ _).symm.trans H; rw [hy260]; with_reducible exact H2_) | (have H2_ := (Option.bind_some _ _).symm.trans H; with_reducible exact H2_) | with_reducible exact H | (rw [hy260]; exact H) | exact H
     have Ny260 := Aside0.mk hy260
     clear hy260
     by_cases c4 : (strOfNums y260).size + x3_1.size ≤ 9223372036854775807
     ·rw [if_pos c4] at H
      have c4b0 := eq_true c4
      have c4b1 : decide ((strOfNums y260).size + x3_1.size ≤ 9223372036854775807) = true := decide_eq_true c4
      try have c4b2 : (9223372036854775807 < (strOfNums y260).size + x3_1.size) = False := eq_false (Nat.not_lt.2 c4)
      try simp only [ByteArray.size_append] at c4b2
      have H' := Aside0.mk H
      clear H
      go_wp2_with (first | ((with_reducible refine gate_dst (N := 12) rfl ?_); refine Kd.R_lit (Kd.int .u8) _ 5 ?hg (N := 12) ?hd (xs := ([(wrap64 (48 + (Int.tmod x0_1 10))) % 256] : List Int)) (inner := [.int .u8 ((wrap64 (48 + (Int.tmod x0_1 10))) % 256)]) (ok := fun _ => True) (okp := fun _ => True) ?hr ?hp (fun _ hk => hk) trivial (Below.refl _ _) (Nat.le_refl _) (by simp) ?_; (case hd => rfl); (case hg => rfl); (case hr => first | (go_simp; done) | (go_simp; rfl)); (case hp => exact (Reps.one (show Kd.M (Kd.int .u8) _ _ _ ((wrap64 (48 + (Int.tmod x0_1 10))) % 256) [.int .u8 ((wrap64 (48 + (Int.tmod x0_1 10))) % 256)] from rfl) (Reps.none _ _))); intro v261 w5 ho6 hb hg_ hnew_; clear hg_ hnew_; (first | rw [← Ny260.out] at ho6 | (simp only [Int.reduceToNat] at ho6; rw [← Ny260.out] at ho6)); have HO262 := Aside0.mk (Kd.R_lower ho6 (below_size (bZ HB))); replace HB := bS HB hb; clear hb ho6; have hcv7 := own_string (P := Tryd.prog) Tryd.underlying39 Tryd.underlying5 Tryd.underlying9 (Kd.own_of_R HO262.out)))
      go_roundg k1
      case measure => have := HK1.out; omega
      case rel => exact ⟨(wrap64 (Int.tdiv x0_1 10)), ((strOfNums y260) ++ x3_1), (by first | rfl | (simp; done) | (simp [*]; done)), (by first | rfl | (simp; done) | (simp [*]; done)), H', ⟨by have := HK1.out; omega⟩, ⟨bZ HB⟩⟩
     ·rw [if_neg c4] at H
      exact absurd H (by simp)
    ·rw [if_neg c3] at H
     have c3b0 : decide (0 < x0_1) = false := decide_eq_false c3
     clear c3
     by_cases c8 : 1 + x3_1.size ≤ 9223372036854775807
     ·rw [if_pos c8] at H
      have c8b0 := eq_true c8
      have c8b1 : decide (1 + x3_1.size ≤ 9223372036854775807) = true := decide_eq_true c8
      try have c8b2 : (9223372036854775807 < 1 + x3_1.size) = False := eq_false (Nat.not_lt.2 c8)
      try simp only [ByteArray.size_append] at c8b2
      obtain rfl := Option.some.inj H
      go_wp2
      go_ret
      exact ⟨by first | rfl | (simp [errW_none, errW_some] <;> rfl) | (simp [*, errW_none, errW_some] <;> rfl), bZ HB⟩
     ·rw [if_neg c8] at H
      exact absurd H (by simp)
/-! ### laws_markStringS: function 24 -/
def laws_markStringS.l0 : Nat → List ByteArray → Int → Int → Option (Int × List ByteArray)
 | 0, _, _, _ => none
 | k + 1, x0, x1, x5 => if x5 < (x0.length : Int) then ((laws_markText.f k x1).bind fun t263 => (if 0 ≤ x5 then (laws_markStringS.l0 k (x0.set (x5 : Int).toNat t263) (wrap64 (x1 + 1)) (wrap64 (x5 + 1))) else (none))) else (some (x1, x0))
def laws_markStringS.f (k : Nat) (l0 : List ByteArray) (a1 : Int) : Option (Int × List ByteArray) := laws_markStringS.l0 k l0 a1 0
theorem laws_markStringS.mono_l : ∀ k, (∀ y0 y1 y2, LeO (laws_markStringS.l0 k y0 y1 y2) (laws_markStringS.l0 (k + 1) y0 y1 y2))
 | 0 => fun _ _ _ r h => by simp [laws_markStringS.l0] at h
 | k + 1 => by
  have ih0 := laws_markStringS.mono_l k
  ·intro y0 y1 y2
   unfold laws_markStringS.l0
   repeat' first
   | (with_reducible exact ih0 _ _ _)
   | (with_reducible exact laws_markText.mono _ _)
   | (with_reducible exact LeO.refl _)
   | (with_reducible exact LeO.none _)
   | (with_reducible refine LeO.ite ?_ ?_)
   | (with_reducible refine LeO.bind ?_ (fun _ => ?_))
   | exact ih0 _ _ _
   | exact laws_markText.mono _ _
   | exact LeO.none _
   | refine LeO.ite ?_ ?_
   | refine LeO.bind ?_ (fun _ => ?_)
theorem laws_markStringS.mono : ∀ a0 a1 k, LeO (laws_markStringS.f k a0 a1) (laws_markStringS.f (k + 1) a0 a1) := by
 intro a0 a1 k
 have ih0 := laws_markStringS.mono_l k
 unfold laws_markStringS.f
 repeat' first
   | (with_reducible exact ih0 _ _ _)
   | (with_reducible exact laws_markText.mono _ _)
   | (with_reducible exact LeO.refl _)
   | (with_reducible exact LeO.none _)
   | (with_reducible refine LeO.ite ?_ ?_)
   | (with_reducible refine LeO.bind ?_ (fun _ => ?_))
   | exact ih0 _ _ _
   | exact laws_markText.mono _ _
   | exact LeO.none _
   | refine LeO.ite ?_ ?_
   | refine LeO.bind ?_ (fun _ => ?_)
set_option maxHeartbeats 8000000 in
set_option maxRecDepth 100000 in
theorem laws_markStringS.calls (k : Nat) (P0_ : Nat → Prop) (u9000_ : Value) (l0 : List ByteArray) (a1 : Int) (r1 : Int) (r2 : List ByteArray) (w0 w : World) (hB : Below w0.heap.size w0 w) (ho0 : Kd.R Kd.string 9 w w0.heap.size P0_ u9000_ l0) (h : laws_markStringS.f k l0 a1 = some (r1, r2)) :
  Calls Tryd.prog 24 #[u9000_, .int .i64 a1] w fun e w' => e = .returned (.int .i64 r1) ∧ Kd.R Kd.string 9 w' w0.heap.size (fun k_ => (P0_ k_ ∨ w.heap.size ≤ k_)) u9000_ r2 ∧ Below w0.heap.size w0 w' ∧ Kept w w' (fun k_ => P0_ k_) := by
 have HO0 := Aside0.mk (show Kd.R Kd.string 9 w w0.heap.size (fun k_ => (P0_ k_ ∨ w.heap.size ≤ k_)) u9000_ l0 from Kd.R_mono ho0 (fun k_ hk => (.inl hk)))
 have HK := Aside0.mk (Kept.refl w (fun k_ => P0_ k_))
 have HW0 := Aside0.mk hB.size
 have HB := Aside0.mk hB
 clear hB
 have H : (laws_markStringS.l0 k l0 a1 0) = some (r1, r2) := h
 clear h
 have H' := Aside0.mk H
 clear H
 go_enter Tryd.func24, Tryd.ntmps24
 go_wp2
 go_loopg [1, 5] k (fun kq v1 v5 w' => ∃ (x0_1 : List ByteArray) (x1_1 : Int) (x5_1 : Int), v1 = .int .i64 x1_1 ∧ v5 = .int .i64 x5_1 ∧ Aside0 (laws_markStringS.l0 kq x0_1 x1_1 x5_1 = some (r1, r2)) ∧ Aside0 (kq ≤ k) ∧ Aside0 (Kd.R Kd.string 9 w' w0.heap.size (fun k_ => (P0_ k_ ∨ w.heap.size ≤ k_)) u9000_ x0_1) ∧ Aside0 (Kept w w' (fun k_ => P0_ k_)) ∧ Aside0 (Below w0.heap.size w0 w'))
 case atStart => exact ⟨(l0), (a1), (0), (by first | rfl | (simp; done) | (simp [*]; done)), (by first | rfl | (simp; done) | (simp [*]; done)), H', ⟨Nat.le_refl _⟩, ⟨by (with_reducible repeat (first | apply Kd.R_alloc | apply Kd.R_drewN | apply Kd.R_drew)); exact HO0.out⟩, ⟨by repeat (first | (with_reducible first | exact HK.out | apply Kept.alloc | apply Kept.drewN | apply Kept.drew) | exact HK.out)⟩, ⟨bZ HB⟩⟩
 case round =>
  clear H'
  try clear c2
  try clear p2
  obtain ⟨x0_1, x1_1, x5_1, rfl, rfl, HA, HK1, HO_0, HK, HB⟩ := hrel
  cases gk with
  | zero => exact absurd HA.out (by simp [laws_markStringS.l0])
  | succ k1 =>
   have H := HA.out
   clear HA
   simp only [laws_markStringS.l0] at H
   by_cases c3 : x5_1 < (x0_1.length : Int)
   ·rw [if_pos c3] at H
    have c3b0 : decide (x5_1 < (x0_1.length : Int)) = true := decide_eq_true c3
    clear c3
    replace H := Option.bind_eq_some_iff.mp H
    obtain ⟨t263, A40, H⟩ := H
    replace H : (if 0 ≤ x5_1 then (laws_markStringS.l0 k1 (x0_1.set (x5_1 : Int).toNat t263) (wrap64 (x1_1 + 1)) (wrap64 (x5_1 + 1))) else (none)) = some (r1, r2) := H
    have A4 := Aside0.mk A40
    clear A40
    by_cases c5 : 0 ≤ x5_1
    ·rw [if_pos c5] at H
     have c5b0 : decide (0 ≤ x5_1) = true := decide_eq_true c5
     clear c5
     obtain ⟨y264, hy264⟩ : ∃ y_ : List ByteArray, y_ = (x0_1.set (x5_1 : Int).toNat t263) := ⟨_, rfl⟩
     replace H : (laws_markStringS.l0 k1 y264 (wrap64 (x1_1 + 1)) (wrap64 (x5_1 + 1))) = some (r1, r2) := by first | (rw [hy264]; with_reducible exact H) | (have H2_ := (Option.bind_some _ _).symm.trans H; rw [hy264]; with_reducible exact H2_) | (have H2_ := (Option.bind_some _ _).symm.trans H; with_reducible exact H2_) | with_reducible exact H | (rw [hy264]; exact H) | exact H
     have Ny264 := Aside0.mk hy264
     clear hy264
     have H' := Aside0.mk H
     clear H
     obtain ⟨Ao7, co7, eo7⟩ := Kd.R_slice HO_0.out
     subst eo7
     go_wp2_with (first | ((with_reducible refine gate_callee (f := 58) rfl ?_); refine goesL_ (some 15) rfl rfl Tryd.func58 (by kernel_rfl) rfl #[.int .i64 x1_1] rfl (by (try simp only [List.map_toArray, List.map_cons, List.map_nil]); first | done | rfl | (simp only [List.length_drop, List.length_take]; rfl)) ?_; (with_reducible refine (laws_markText.calls k1 x1_1 t263 _ A4.out).mono ?_); rintro e w8 ⟨rfl, hb⟩; refine ⟨_, rfl, ?_⟩; replace HO_0 := Aside0.mk (Kd.R_below (by (with_reducible repeat (first | apply Kd.R_alloc | apply Kd.R_drewN | apply Kd.R_drew)); exact HO_0.out) hb); replace HK := Aside0.mk (Kept.below (S := (fun k_ => P0_ k_)) (by repeat (first | (with_reducible first | exact HK.out | apply Kept.alloc | apply Kept.drewN | apply Kept.drew) | exact HK.out)) hb); replace HB := bS HB hb; (try clear hb); (try clear hb2); (try clear hk); (try clear hi); have p6 : 0 ≤ (x5_1 : Int) := of_decide_eq_true (by first | (with_reducible assumption) | assumption); have q6 : (x5_1 : Int) < ((x0_1.length : Int) : Int) := of_decide_eq_true (by first | (with_reducible assumption) | assumption); obtain ⟨go6, co6, eo6, gb6, gl6, cl6, HG6⟩ := Kd.R_form HO_0.out (by omega); (first | cases eo6 | (injection eo6 with ea_ en_ ec_; (first | subst ea_ | (injection ea_ with ea_; subst ea_)); subst ec_; clear en_)); have GB6 := Aside0.mk gb6; have GG6 := Aside0.mk HG6; clear gb6 gl6 HG6; have HMgo6 := Aside0.mk (show (P0_ go6 ∨ w.heap.size ≤ go6) from (HO_0.out.1 _ rfl)); obtain ⟨hx6_0, hf6_0⟩ := Kd.R_celln (⟨#[]⟩ : ByteArray) HO_0.out (x5_1 : Int) p6 q6; replace p6 := eq_true p6; replace q6 := eq_true q6; obtain ⟨hy9_, hz9_⟩ := Kd.R_celln (⟨#[]⟩ : ByteArray) HO_0.out (x5_1 : Int) (of_decide_eq_true (by first | (with_reducible assumption) | assumption)) (of_decide_eq_true (by first | (with_reducible assumption) | assumption)); have HP9 := Kd.R_putg HO_0.out (x5_1 : Int) t263) | ((with_reducible refine gate_store (t := 9) (p := 16) rfl ?_); refine store_event (t := 9) (p := 16) (v := ?vo_w10) (w1 := (w8.setCell ⟨go6, (x5_1 : Int).toNat, none⟩ (.string t263))) ?hg ?ho ?hn ?hr ?_; (case ho => rfl); (case hg => rfl); (case hn => rfl); (case hr => first | (go_simp; done) | (go_simp; rfl)); intro w10 hw; have hg : w8.grownBy w10 (some go6) := (by rw [hw]; exact HP9.2); have hp_ : Kd.R Kd.string 9 w10 w0.heap.size (fun k_ => (P0_ k_ ∨ w.heap.size ≤ k_)) (.slice (some ⟨go6, 0, none⟩) x0_1.length co7) y264 := (by rw [hw, Ny264.out]; exact HP9.1); clear HP9; replace HB := Aside0.mk ((by rw [hw]; exact below_set (HB.out) GB6.out : Below w0.heap.size w0 w10)); replace HK := Aside0.mk (Kept.of_grown (S := (fun k_ => P0_ k_)) hg (by repeat (first | (with_reducible first | exact HK.out | apply Kept.alloc | apply Kept.drewN | apply Kept.drew) | exact HK.out)) (fun k_ e_ => (HO_0.out.1 k_ e_))); replace HO_0 := Aside0.mk (hp_); clear hg hw hp_))
     go_roundg k1
     case measure => have := HK1.out; omega
     case rel => exact ⟨(y264), (wrap64 (x1_1 + 1)), (wrap64 (x5_1 + 1)), (by first | rfl | (simp; done) | (simp [*]; done)), (by first | rfl | (simp; done) | (simp [*]; done)), H', ⟨by have := HK1.out; omega⟩, ⟨by (with_reducible repeat (first | apply Kd.R_alloc | apply Kd.R_drewN | apply Kd.R_drew)); exact HO_0.out⟩, ⟨by repeat (first | (with_reducible first | exact HK.out | apply Kept.alloc | apply Kept.drewN | apply Kept.drew) | exact HK.out)⟩, ⟨bZ HB⟩⟩
    ·rw [if_neg c5] at H
     exact absurd H (by simp)
   ·rw [if_neg c3] at H
    have c3b0 : decide (x5_1 < (x0_1.length : Int)) = false := decide_eq_false c3
    clear c3
    simp only [Option.some.injEq, Prod.mk.injEq] at H
    obtain ⟨rfl, rfl⟩ := H
    obtain ⟨Ao11, co11, eo11⟩ := Kd.R_slice HO_0.out
    subst eo11
    go_wp2
    go_ret
    exact ⟨by first | rfl | (simp [errW_none, errW_some] <;> rfl) | (simp [*, errW_none, errW_some] <;> rfl), by (with_reducible repeat (first | apply Kd.R_alloc | apply Kd.R_drewN | apply Kd.R_drew)); exact HO_0.out, bZ HB, by repeat (first | (with_reducible first | exact HK.out | apply Kept.alloc | apply Kept.drewN | apply Kept.drew) | exact HK.out)⟩
/-! ### laws_heldStringS: function 25 -/
def laws_heldStringS.l0 : Nat → List ByteArray → Int → Int → Option (Int)
 | 0, _, _, _ => none
 | k + 1, x0, x1, x5 => if x5 < (x0.length : Int) then (if 0 ≤ x5 then ((laws_markText.f k x1).bind fun t266 => (if (rdOf ByteArray.empty x0 x5).toList = t266.toList then (laws_heldStringS.l0 k x0 (wrap64 (x1 + 1)) (wrap64 (x5 + 1))) else (some (-1)))) else (none)) else (some x1)
def laws_heldStringS.f (k : Nat) (l0 : List ByteArray) (a1 : Int) : Option (Int) := laws_heldStringS.l0 k l0 a1 0
theorem laws_heldStringS.mono_l : ∀ k, (∀ y0 y1 y2, LeO (laws_heldStringS.l0 k y0 y1 y2) (laws_heldStringS.l0 (k + 1) y0 y1 y2))
 | 0 => fun _ _ _ r h => by simp [laws_heldStringS.l0] at h
 | k + 1 => by
  have ih0 := laws_heldStringS.mono_l k
  ·intro y0 y1 y2
   unfold laws_heldStringS.l0
   repeat' first
   | (with_reducible exact ih0 _ _ _)
   | (with_reducible exact laws_markText.mono _ _)
   | (with_reducible exact LeO.refl _)
   | (with_reducible exact LeO.none _)
   | (with_reducible refine LeO.ite ?_ ?_)
   | (with_reducible refine LeO.bind ?_ (fun _ => ?_))
   | exact ih0 _ _ _
   | exact laws_markText.mono _ _
   | exact LeO.none _
   | refine LeO.ite ?_ ?_
   | refine LeO.bind ?_ (fun _ => ?_)
theorem laws_heldStringS.mono : ∀ a0 a1 k, LeO (laws_heldStringS.f k a0 a1) (laws_heldStringS.f (k + 1) a0 a1) := by
 intro a0 a1 k
 have ih0 := laws_heldStringS.mono_l k
 unfold laws_heldStringS.f
 repeat' first
   | (with_reducible exact ih0 _ _ _)
   | (with_reducible exact laws_markText.mono _ _)
   | (with_reducible exact LeO.refl _)
   | (with_reducible exact LeO.none _)
   | (with_reducible refine LeO.ite ?_ ?_)
   | (with_reducible refine LeO.bind ?_ (fun _ => ?_))
   | exact ih0 _ _ _
   | exact laws_markText.mono _ _
   | exact LeO.none _
   | refine LeO.ite ?_ ?_
   | refine LeO.bind ?_ (fun _ => ?_)
set_option maxHeartbeats 8000000 in
set_option maxRecDepth 100000 in
theorem laws_heldStringS.calls (k : Nat) (A0 : Option Addr) (c0 : Nat) (l0 : List ByteArray) (a1 : Int) (r : Int) (w : World) (hr0 : Kd.C Kd.string w A0 l0.length l0) (hc0 : l0.length ≤ c0) (h : laws_heldStringS.f k l0 a1 = some r) :
  Calls Tryd.prog 25 #[.slice A0 l0.length c0, .int .i64 a1] w fun e w' => e = .returned (.int .i64 r) ∧ Below w.heap.size w w' := by
 have HR0 := Aside0.mk hr0
 have HC0 := Aside0.mk hc0
 clear hr0 hc0
 have HB := Aside0.mk (Below.refl w.heap.size w)
 have H : (laws_heldStringS.l0 k l0 a1 0) = some r := h
 clear h
 have H' := Aside0.mk H
 clear H
 go_enter Tryd.func25, Tryd.ntmps25
 go_wp2
 go_loopg [1, 5] k (fun kq v1 v5 w' => ∃ (x1_1 : Int) (x5_1 : Int), v1 = .int .i64 x1_1 ∧ v5 = .int .i64 x5_1 ∧ Aside0 (laws_heldStringS.l0 kq l0 x1_1 x5_1 = some r) ∧ Aside0 (kq ≤ k) ∧ Aside0 (Below w.heap.size w w'))
 case atStart => exact ⟨(a1), (0), (by first | rfl | (simp; done) | (simp [*]; done)), (by first | rfl | (simp; done) | (simp [*]; done)), H', ⟨Nat.le_refl _⟩, ⟨bZ HB⟩⟩
 case round =>
  clear H'
  try clear c2
  try clear p2
  obtain ⟨x1_1, x5_1, rfl, rfl, HA, HK1, HB⟩ := hrel
  cases gk with
  | zero => exact absurd HA.out (by simp [laws_heldStringS.l0])
  | succ k1 =>
   have H := HA.out
   clear HA
   simp only [laws_heldStringS.l0] at H
   by_cases c3 : x5_1 < (l0.length : Int)
   ·rw [if_pos c3] at H
    have c3b0 : decide (x5_1 < (l0.length : Int)) = true := decide_eq_true c3
    clear c3
    by_cases c4 : 0 ≤ x5_1
    ·rw [if_pos c4] at H
     have c4b0 : decide (0 ≤ x5_1) = true := decide_eq_true c4
     clear c4
     replace H := Option.bind_eq_some_iff.mp H
     obtain ⟨t266, A50, H⟩ := H
     replace H : (if (rdOf ByteArray.empty l0 x5_1).toList = t266.toList then (laws_heldStringS.l0 k1 l0 (wrap64 (x1_1 + 1)) (wrap64 (x5_1 + 1))) else (some (-1))) = some r := H
     have A5 := Aside0.mk A50
     clear A50
     by_cases c6 : (rdOf ByteArray.empty l0 x5_1).toList = t266.toList
     ·rw [if_pos c6] at H
      have c6b0 : ((rdOf ByteArray.empty l0 x5_1).toList == t266.toList) = true := beq_iff_eq.mpr c6
      have c6b1 : ((rdOf ByteArray.empty l0 x5_1).toList != t266.toList) = false := bne_eq_false_iff_eq.mpr c6
      clear c6
      have H' := Aside0.mk H
      clear H
      try go_wp2
      replace HB := Aside0.mk (below_drew1 HB.out)
      have p265 : 0 ≤ (x5_1 : Int) := of_decide_eq_true (by first | (with_reducible assumption) | assumption)
      have q265 : x5_1 < (l0.length : Int) := of_decide_eq_true (by first | (with_reducible assumption) | assumption)
      obtain ⟨ad265, e265, hx265_0⟩ := Kd.at_string HR0.out x5_1 p265 q265
      have hw265_0 := hx265_0
      cases e265
      replace hx265_0 := (HB.out.cell (World.block_lt_of_cell? w _ hx265_0)).trans hx265_0
      replace p265 := eq_true p265
      replace q265 := eq_true q265
      refine start_ (n := 7) (S := fun w' => w'.cell? (ad265.add (x5_1).toNat) = some (.string (rdOf ByteArray.empty l0 x5_1))) (ds := []) #[false, false, false, false, false, false, false] (by kernel_rfl) rfl rfl (((HB.out.cell (World.block_lt_of_cell? w _ hw265_0)).trans hw265_0)) (fun hHeld => ?_)
      generalize wr.drew = w7 at HB hx265_0 hHeld ⊢
      refine pure_ (i := 0) (N := some 12) (v := ?_) (a' := ?_) #[true, false, false, false, false, false, false] rfl rfl (by kernel_rfl) (fun _ _ _ h => h) (Or.inl ⟨by rfl, ?_⟩) ?_ ?_
      rotate_left
      ·intro w'
       go_simp
       with_reducible rfl
      rotate_left
      ·simp only [Act.put, List.setIfInBounds_toArray, List.set_cons_zero, List.set_cons_succ, i64_w, i32_w]
       rfl
      refine pure_ (i := 1) (N := some 13) (v := ?_) (a' := ?_) #[true, true, false, false, false, false, false] rfl rfl (by kernel_rfl) (fun _ _ _ h => h) (Or.inl ⟨by rfl, ?_⟩) ?_ ?_
      rotate_left
      ·intro w'
       go_simp
       with_reducible rfl
      rotate_left
      ·simp only [Act.put, List.setIfInBounds_toArray, List.set_cons_zero, List.set_cons_succ, i64_w, i32_w]
       rfl
      refine pure_ (i := 2) (N := some 14) (v := ?_) (a' := ?_) #[true, true, true, false, false, false, false] rfl rfl (by kernel_rfl) (fun _ _ _ h => h) (Or.inl ⟨by rfl, ?_⟩) ?_ ?_
      rotate_left
      ·intro w'
       go_simp
       with_reducible rfl
      rotate_left
      ·simp only [Act.put, List.setIfInBounds_toArray, List.set_cons_zero, List.set_cons_succ, i64_w, i32_w]
       rfl
      refine pure_ (i := 4) (N := some 16) (v := ?_) (a' := ?_) #[true, true, true, false, true, false, false] rfl rfl (by kernel_rfl) (fun _ _ _ h => h) (Or.inl ⟨by rfl, ?_⟩) ?_ ?_
      rotate_left
      ·intro w'
       go_simp
       with_reducible rfl
      rotate_left
      ·simp only [Act.put, List.setIfInBounds_toArray, List.set_cons_zero, List.set_cons_succ, i64_w, i32_w]
       rfl
      refine take_ (i := 3) (N := some 15) (v := ?_) (a' := ?_) #[true, true, true, true, true, false, false] rfl rfl (by kernel_rfl) (fun _ _ _ h => h) (Or.inl ⟨by rfl, ?_⟩) hHeld ?_ ?_
      rotate_left
      ·intro w' s0
       go_simp
       with_reducible rfl
      rotate_left
      ·simp only [Act.put, List.setIfInBounds_toArray, List.set_cons_zero, List.set_cons_succ, i64_w, i32_w]
       rfl
      refine one_ (i := 5) (N := some 17) #[true, true, true, true, true, true, false] rfl rfl (by kernel_rfl) (by decide) (fun K hK => ?_)
      refine goes_ Tryd.func58 (by kernel_rfl) rfl #[.int .i64 x1_1] (by rfl) rfl rfl (by (try simp only [List.map_toArray, List.map_cons, List.map_nil]); first | done | rfl | (simp only [List.length_drop, List.length_take]; rfl)) ?_
      with_reducible refine (laws_markText.calls k1 x1_1 t266 _ A5.out).mono ?_
      rintro e w8 ⟨rfl, hb⟩
      refine ⟨_, rfl, ?_⟩
      replace HB := bS HB hb
      (try clear hb)
      (try clear hb2)
      (try clear hk)
      (try clear hi)
      refine hK.out _ _ (((HB.out.cell (World.block_lt_of_cell? w _ hw265_0)).trans hw265_0)) (fun hHeld => ?_)
      clear hK K
      refine norm_ (a' := ?_) ?_ ?_
      rotate_left
      ·show Act.put _ (some 17) _ = _
       simp only [Act.put, List.setIfInBounds_toArray, List.set_cons_zero, List.set_cons_succ, i64_w, i32_w]
       rfl
      refine pure_ (i := 6) (N := some 18) (v := ?_) (a' := ?_) #[true, true, true, true, true, true, true] rfl rfl (by kernel_rfl) (fun _ _ _ h => h) (Or.inl ⟨by rfl, ?_⟩) ?_ ?_
      rotate_left
      ·intro w'
       go_simp
       with_reducible rfl
      rotate_left
      ·simp only [Act.put, List.setIfInBounds_toArray, List.set_cons_zero, List.set_cons_succ, i64_w, i32_w]
       rfl
      refine done_ (by kernel_rfl) ?_
      try go_wp2
      go_roundg k1
      case measure => have := HK1.out; omega
      case rel => exact ⟨(wrap64 (x1_1 + 1)), (wrap64 (x5_1 + 1)), (by first | rfl | (simp; done) | (simp [*]; done)), (by first | rfl | (simp; done) | (simp [*]; done)), H', ⟨by have := HK1.out; omega⟩, ⟨bZ HB⟩⟩
     ·rw [if_neg c6] at H
      have c6b0 : ((rdOf ByteArray.empty l0 x5_1).toList == t266.toList) = false := beq_eq_false_iff_ne.mpr c6
      have c6b1 : ((rdOf ByteArray.empty l0 x5_1).toList != t266.toList) = true := bne_iff_ne.mpr c6
      obtain rfl := Option.some.inj H
      try go_wp2
      replace HB := Aside0.mk (below_drew1 HB.out)
      have p265 : 0 ≤ (x5_1 : Int) := of_decide_eq_true (by first | (with_reducible assumption) | assumption)
      have q265 : x5_1 < (l0.length : Int) := of_decide_eq_true (by first | (with_reducible assumption) | assumption)
      obtain ⟨ad265, e265, hx265_0⟩ := Kd.at_string HR0.out x5_1 p265 q265
      have hw265_0 := hx265_0
      cases e265
      replace hx265_0 := (HB.out.cell (World.block_lt_of_cell? w _ hx265_0)).trans hx265_0
      replace p265 := eq_true p265
      replace q265 := eq_true q265
      refine start_ (n := 7) (S := fun w' => w'.cell? (ad265.add (x5_1).toNat) = some (.string (rdOf ByteArray.empty l0 x5_1))) (ds := []) #[false, false, false, false, false, false, false] (by kernel_rfl) rfl rfl (((HB.out.cell (World.block_lt_of_cell? w _ hw265_0)).trans hw265_0)) (fun hHeld => ?_)
      generalize wr.drew = w9 at HB hx265_0 hHeld ⊢
      refine pure_ (i := 0) (N := some 12) (v := ?_) (a' := ?_) #[true, false, false, false, false, false, false] rfl rfl (by kernel_rfl) (fun _ _ _ h => h) (Or.inl ⟨by rfl, ?_⟩) ?_ ?_
      rotate_left
      ·intro w'
       go_simp
       with_reducible rfl
      rotate_left
      ·simp only [Act.put, List.setIfInBounds_toArray, List.set_cons_zero, List.set_cons_succ, i64_w, i32_w]
       rfl
      refine pure_ (i := 1) (N := some 13) (v := ?_) (a' := ?_) #[true, true, false, false, false, false, false] rfl rfl (by kernel_rfl) (fun _ _ _ h => h) (Or.inl ⟨by rfl, ?_⟩) ?_ ?_
      rotate_left
      ·intro w'
       go_simp
       with_reducible rfl
      rotate_left
      ·simp only [Act.put, List.setIfInBounds_toArray, List.set_cons_zero, List.set_cons_succ, i64_w, i32_w]
       rfl
      refine pure_ (i := 2) (N := some 14) (v := ?_) (a' := ?_) #[true, true, true, false, false, false, false] rfl rfl (by kernel_rfl) (fun _ _ _ h => h) (Or.inl ⟨by rfl, ?_⟩) ?_ ?_
      rotate_left
      ·intro w'
       go_simp
       with_reducible rfl
      rotate_left
      ·simp only [Act.put, List.setIfInBounds_toArray, List.set_cons_zero, List.set_cons_succ, i64_w, i32_w]
       rfl
      refine pure_ (i := 4) (N := some 16) (v := ?_) (a' := ?_) #[true, true, true, false, true, false, false] rfl rfl (by kernel_rfl) (fun _ _ _ h => h) (Or.inl ⟨by rfl, ?_⟩) ?_ ?_
      rotate_left
      ·intro w'
       go_simp
       with_reducible rfl
      rotate_left
      ·simp only [Act.put, List.setIfInBounds_toArray, List.set_cons_zero, List.set_cons_succ, i64_w, i32_w]
       rfl
      refine take_ (i := 3) (N := some 15) (v := ?_) (a' := ?_) #[true, true, true, true, true, false, false] rfl rfl (by kernel_rfl) (fun _ _ _ h => h) (Or.inl ⟨by rfl, ?_⟩) hHeld ?_ ?_
      rotate_left
      ·intro w' s0
       go_simp
       with_reducible rfl
      rotate_left
      ·simp only [Act.put, List.setIfInBounds_toArray, List.set_cons_zero, List.set_cons_succ, i64_w, i32_w]
       rfl
      refine one_ (i := 5) (N := some 17) #[true, true, true, true, true, true, false] rfl rfl (by kernel_rfl) (by decide) (fun K hK => ?_)
      refine goes_ Tryd.func58 (by kernel_rfl) rfl #[.int .i64 x1_1] (by rfl) rfl rfl (by (try simp only [List.map_toArray, List.map_cons, List.map_nil]); first | done | rfl | (simp only [List.length_drop, List.length_take]; rfl)) ?_
      with_reducible refine (laws_markText.calls k1 x1_1 t266 _ A5.out).mono ?_
      rintro e w10 ⟨rfl, hb⟩
      refine ⟨_, rfl, ?_⟩
      replace HB := bS HB hb
      (try clear hb)
      (try clear hb2)
      (try clear hk)
      (try clear hi)
      refine hK.out _ _ (((HB.out.cell (World.block_lt_of_cell? w _ hw265_0)).trans hw265_0)) (fun hHeld => ?_)
      clear hK K
      refine norm_ (a' := ?_) ?_ ?_
      rotate_left
      ·show Act.put _ (some 17) _ = _
       simp only [Act.put, List.setIfInBounds_toArray, List.set_cons_zero, List.set_cons_succ, i64_w, i32_w]
       rfl
      refine pure_ (i := 6) (N := some 18) (v := ?_) (a' := ?_) #[true, true, true, true, true, true, true] rfl rfl (by kernel_rfl) (fun _ _ _ h => h) (Or.inl ⟨by rfl, ?_⟩) ?_ ?_
      rotate_left
      ·intro w'
       go_simp
       with_reducible rfl
      rotate_left
      ·simp only [Act.put, List.setIfInBounds_toArray, List.set_cons_zero, List.set_cons_succ, i64_w, i32_w]
       rfl
      refine done_ (by kernel_rfl) ?_
      try go_wp2
      go_ret
      exact ⟨by first | rfl | (simp [errW_none, errW_some] <;> rfl) | (simp [*, errW_none, errW_some] <;> rfl), bZ HB⟩
    ·rw [if_neg c4] at H
     exact absurd H (by simp)
   ·rw [if_neg c3] at H
    have c3b0 : decide (x5_1 < (l0.length : Int)) = false := decide_eq_false c3
    clear c3
    obtain rfl := Option.some.inj H
    go_wp2
    go_ret
    exact ⟨by first | rfl | (simp [errW_none, errW_some] <;> rfl) | (simp [*, errW_none, errW_some] <;> rfl), bZ HB⟩
/-! ### laws_FnExactBranchOf: function 6 -/
def laws_FnExactBranchOf.j0 : Nat → List ByteArray → Int → List ByteArray → List ByteArray → Bool → Option (Bool)
 | 0, _, _, _, _, _ => none
 | k + 1, x0, x1, x6, x8, x46 => if x46 = true then (some false) else ((laws_markStringS.f k x8 1).bind fun bt288 => ((laws_heldStringS.f k bt288.2 1).bind fun t290 => (if t290 < 0 then (some false) else (if t290 = bt288.1 then ((laws_toStringS.f k x0).bind fun t291 => ((impl_BranchOf.f k t291 x1).bind fun t294 => ((laws_eqStringS.f k t294 x6).bind fun t297 => (if t297 = true then ((laws_heldStringS.f k bt288.2 1).bind fun t298 => (if t298 < 0 then (some false) else (if t298 = bt288.1 then (some true) else (some false)))) else (some false))))) else (some false)))))
def laws_FnExactBranchOf.f (k : Nat) (l0 : List ByteArray) (a1 : Int) : Option (Bool) := (laws_szStringS.f k l0 1048576).bind fun t267 => (if t267 < 0 then (some true) else ((laws_toStringS.f k l0).bind fun t268 => ((spec_BranchOf.f k t268 a1).bind fun t271 => ((laws_toStringS.f k l0).bind fun t274 => ((impl_BranchOf.f k t274 a1).bind fun t277 => ((laws_eqStringS.f k t277 t271).bind fun t280 => (if t280 = true then ((laws_toStringS.f k l0).bind fun t281 => ((laws_eqStringS.f k t274 t281).bind fun t284 => (if t284 = true then ((laws_markStringS.f k t274 1).bind fun bt285 => (if bt285.1 < 0 then (laws_FnExactBranchOf.j0 k l0 a1 t271 t277 true) else ((laws_eqStringS.f k t277 t271).bind fun t287 => (laws_FnExactBranchOf.j0 k l0 a1 t271 t277 (!t287))))) else (some false)))) else (some false))))))))
theorem laws_FnExactBranchOf.mono_l : ∀ k, (∀ y0 y1 y2 y3 y4, LeO (laws_FnExactBranchOf.j0 k y0 y1 y2 y3 y4) (laws_FnExactBranchOf.j0 (k + 1) y0 y1 y2 y3 y4))
 | 0 => fun _ _ _ _ _ r h => by simp [laws_FnExactBranchOf.j0] at h
 | k + 1 => by
  have ih0 := laws_FnExactBranchOf.mono_l k
  ·intro y0 y1 y2 y3 y4
   unfold laws_FnExactBranchOf.j0
   repeat' first
   | (with_reducible exact ih0 _ _ _ _ _)
   | (with_reducible exact impl_BranchOf.mono _ _ _)
   | (with_reducible exact laws_eqStringS.mono _ _ _)
   | (with_reducible exact laws_heldStringS.mono _ _ _)
   | (with_reducible exact laws_markStringS.mono _ _ _)
   | (with_reducible exact laws_szStringS.mono _ _ _)
   | (with_reducible exact laws_toStringS.mono _ _)
   | (with_reducible exact spec_BranchOf.mono _ _ _)
   | (with_reducible exact LeO.refl _)
   | (with_reducible exact LeO.none _)
   | (with_reducible refine LeO.ite ?_ ?_)
   | (with_reducible refine LeO.bind ?_ (fun _ => ?_))
   | exact ih0 _ _ _ _ _
   | exact impl_BranchOf.mono _ _ _
   | exact laws_eqStringS.mono _ _ _
   | exact laws_heldStringS.mono _ _ _
   | exact laws_markStringS.mono _ _ _
   | exact laws_szStringS.mono _ _ _
   | exact laws_toStringS.mono _ _
   | exact spec_BranchOf.mono _ _ _
   | exact LeO.none _
   | refine LeO.ite ?_ ?_
   | refine LeO.bind ?_ (fun _ => ?_)
theorem laws_FnExactBranchOf.mono : ∀ a0 a1 k, LeO (laws_FnExactBranchOf.f k a0 a1) (laws_FnExactBranchOf.f (k + 1) a0 a1) := by
 intro a0 a1 k
 have ih0 := laws_FnExactBranchOf.mono_l k
 unfold laws_FnExactBranchOf.f
 repeat' first
   | (with_reducible exact ih0 _ _ _ _ _)
   | (with_reducible exact impl_BranchOf.mono _ _ _)
   | (with_reducible exact laws_eqStringS.mono _ _ _)
   | (with_reducible exact laws_heldStringS.mono _ _ _)
   | (with_reducible exact laws_markStringS.mono _ _ _)
   | (with_reducible exact laws_szStringS.mono _ _ _)
   | (with_reducible exact laws_toStringS.mono _ _)
   | (with_reducible exact spec_BranchOf.mono _ _ _)
   | (with_reducible exact LeO.refl _)
   | (with_reducible exact LeO.none _)
   | (with_reducible refine LeO.ite ?_ ?_)
   | (with_reducible refine LeO.bind ?_ (fun _ => ?_))
   | exact ih0 _ _ _ _ _
   | exact impl_BranchOf.mono _ _ _
   | exact laws_eqStringS.mono _ _ _
   | exact laws_heldStringS.mono _ _ _
   | exact laws_markStringS.mono _ _ _
   | exact laws_szStringS.mono _ _ _
   | exact laws_toStringS.mono _ _
   | exact spec_BranchOf.mono _ _ _
   | exact LeO.none _
   | refine LeO.ite ?_ ?_
   | refine LeO.bind ?_ (fun _ => ?_)
set_option maxHeartbeats 8000000 in
set_option maxRecDepth 100000 in
theorem laws_FnExactBranchOf.calls (k : Nat) (A0 : Option Addr) (c0 : Nat) (l0 : List ByteArray) (a1 : Int) (r : Bool) (w : World) (hr0 : Kd.C Kd.string w A0 l0.length l0) (hc0 : l0.length ≤ c0) (hT : Kp.Tab w) (htrue : Aside0 (r = true)) (h : laws_FnExactBranchOf.f k l0 a1 = some r) :
  Calls Tryd.prog 6 #[.slice A0 l0.length c0, .int .i64 a1] w fun e w' => e = .returned (.bool r) ∧ Below w.heap.size w w' := by
 have HT := Aside0.mk hT
 clear hT
 have HR0 := Aside0.mk hr0
 have HC0 := Aside0.mk hc0
 clear hr0 hc0
 have HB := Aside0.mk (Below.refl w.heap.size w)
 have H : ((laws_szStringS.f k l0 1048576).bind fun t267 => (if t267 < 0 then (some true) else ((laws_toStringS.f k l0).bind fun t268 => ((spec_BranchOf.f k t268 a1).bind fun t271 => ((laws_toStringS.f k l0).bind fun t274 => ((impl_BranchOf.f k t274 a1).bind fun t277 => ((laws_eqStringS.f k t277 t271).bind fun t280 => (if t280 = true then ((laws_toStringS.f k l0).bind fun t281 => ((laws_eqStringS.f k t274 t281).bind fun t284 => (if t284 = true then ((laws_markStringS.f k t274 1).bind fun bt285 => (if bt285.1 < 0 then (laws_FnExactBranchOf.j0 k l0 a1 t271 t277 true) else ((laws_eqStringS.f k t277 t271).bind fun t287 => (laws_FnExactBranchOf.j0 k l0 a1 t271 t277 (!t287))))) else (some false)))) else (some false))))))))) = some r := h
 clear h
 replace H := Option.bind_eq_some_iff.mp H
 obtain ⟨t267, A30, H⟩ := H
 replace H : (if t267 < 0 then (some true) else ((laws_toStringS.f k l0).bind fun t268 => ((spec_BranchOf.f k t268 a1).bind fun t271 => ((laws_toStringS.f k l0).bind fun t274 => ((impl_BranchOf.f k t274 a1).bind fun t277 => ((laws_eqStringS.f k t277 t271).bind fun t280 => (if t280 = true then ((laws_toStringS.f k l0).bind fun t281 => ((laws_eqStringS.f k t274 t281).bind fun t284 => (if t284 = true then ((laws_markStringS.f k t274 1).bind fun bt285 => (if bt285.1 < 0 then (laws_FnExactBranchOf.j0 k l0 a1 t271 t277 true) else ((laws_eqStringS.f k t277 t271).bind fun t287 => (laws_FnExactBranchOf.j0 k l0 a1 t271 t277 (!t287))))) else (some false)))) else (some false)))))))) = some r := H
 have A3 := Aside0.mk A30
 clear A30
 by_cases c4 : t267 < 0
 ·rw [if_pos c4] at H
  have c4b0 : decide (t267 < 0) = true := decide_eq_true c4
  clear c4
  obtain rfl := Option.some.inj H
  go_enter Tryd.func6, Tryd.ntmps6
  go_wp2_with (first | ((with_reducible refine gate_callee (f := 11) rfl ?_); refine goesL_ (some 15) rfl rfl Tryd.func11 (by kernel_rfl) rfl #[.slice A0 l0.length c0, .int .i64 1048576] rfl (by (try simp only [List.map_toArray, List.map_cons, List.map_nil]); first | done | rfl | (simp only [List.length_drop, List.length_take]; rfl)) ?_; (with_reducible refine (laws_szStringS.calls k _ _ l0 1048576 t267 _ ?side1 ?side2 A3.out).mono ?_); (case side1 => repeat (first | exact HR0.out | (with_reducible refine Kd.C_alloc ?_ _) | (with_reducible refine Kd.C_drewN ?_ _) | (with_reducible refine Kd.C_drew ?_))); (case side2 => exact HC0.out); rintro e w' ⟨rfl, ⟨nd, rfl⟩⟩; refine ⟨_, rfl, ?_⟩))
  go_ret
  exact ⟨by first | rfl | (simp [errW_none, errW_some] <;> rfl) | (simp [*, errW_none, errW_some] <;> rfl), bZ HB⟩
 ·rw [if_neg c4] at H
  have c4b0 : decide (t267 < 0) = false := decide_eq_false c4
  clear c4
  replace H := Option.bind_eq_some_iff.mp H
  obtain ⟨t268, A50, H⟩ := H
  replace H : ((spec_BranchOf.f k t268 a1).bind fun t271 => ((laws_toStringS.f k l0).bind fun t274 => ((impl_BranchOf.f k t274 a1).bind fun t277 => ((laws_eqStringS.f k t277 t271).bind fun t280 => (if t280 = true then ((laws_toStringS.f k l0).bind fun t281 => ((laws_eqStringS.f k t274 t281).bind fun t284 => (if t284 = true then ((laws_markStringS.f k t274 1).bind fun bt285 => (if bt285.1 < 0 then (laws_FnExactBranchOf.j0 k l0 a1 t271 t277 true) else ((laws_eqStringS.f k t277 t271).bind fun t287 => (laws_FnExactBranchOf.j0 k l0 a1 t271 t277 (!t287))))) else (some false)))) else (some false)))))) = some r := H
  have A5 := Aside0.mk A50
  clear A50
  replace H := Option.bind_eq_some_iff.mp H
  obtain ⟨t271, A60, H⟩ := H
  replace H : ((laws_toStringS.f k l0).bind fun t274 => ((impl_BranchOf.f k t274 a1).bind fun t277 => ((laws_eqStringS.f k t277 t271).bind fun t280 => (if t280 = true then ((laws_toStringS.f k l0).bind fun t281 => ((laws_eqStringS.f k t274 t281).bind fun t284 => (if t284 = true then ((laws_markStringS.f k t274 1).bind fun bt285 => (if bt285.1 < 0 then (laws_FnExactBranchOf.j0 k l0 a1 t271 t277 true) else ((laws_eqStringS.f k t277 t271).bind fun t287 => (laws_FnExactBranchOf.j0 k l0 a1 t271 t277 (!t287))))) else (some false)))) else (some false))))) = some r := H
  have A6 := Aside0.mk A60
  clear A60
  replace H := Option.bind_eq_some_iff.mp H
  obtain ⟨t274, A70, H⟩ := H
  replace H : ((impl_BranchOf.f k t274 a1).bind fun t277 => ((laws_eqStringS.f k t277 t271).bind fun t280 => (if t280 = true then ((laws_toStringS.f k l0).bind fun t281 => ((laws_eqStringS.f k t274 t281).bind fun t284 => (if t284 = true then ((laws_markStringS.f k t274 1).bind fun bt285 => (if bt285.1 < 0 then (laws_FnExactBranchOf.j0 k l0 a1 t271 t277 true) else ((laws_eqStringS.f k t277 t271).bind fun t287 => (laws_FnExactBranchOf.j0 k l0 a1 t271 t277 (!t287))))) else (some false)))) else (some false)))) = some r := H
  have A7 := Aside0.mk A70
  clear A70
  have et274_ : t268 = t274 := Option.some.inj (A5.out.symm.trans A7.out)
  subst et274_
  replace H := Option.bind_eq_some_iff.mp H
  obtain ⟨t277, A80, H⟩ := H
  replace H : ((laws_eqStringS.f k t277 t271).bind fun t280 => (if t280 = true then ((laws_toStringS.f k l0).bind fun t281 => ((laws_eqStringS.f k t268 t281).bind fun t284 => (if t284 = true then ((laws_markStringS.f k t268 1).bind fun bt285 => (if bt285.1 < 0 then (laws_FnExactBranchOf.j0 k l0 a1 t271 t277 true) else ((laws_eqStringS.f k t277 t271).bind fun t287 => (laws_FnExactBranchOf.j0 k l0 a1 t271 t277 (!t287))))) else (some false)))) else (some false))) = some r := H
  have A8 := Aside0.mk A80
  clear A80
  replace H := Option.bind_eq_some_iff.mp H
  obtain ⟨t280, A90, H⟩ := H
  replace H : (if t280 = true then ((laws_toStringS.f k l0).bind fun t281 => ((laws_eqStringS.f k t268 t281).bind fun t284 => (if t284 = true then ((laws_markStringS.f k t268 1).bind fun bt285 => (if bt285.1 < 0 then (laws_FnExactBranchOf.j0 k l0 a1 t271 t277 true) else ((laws_eqStringS.f k t277 t271).bind fun t287 => (laws_FnExactBranchOf.j0 k l0 a1 t271 t277 (!t287))))) else (some false)))) else (some false)) = some r := H
  have A9 := Aside0.mk A90
  clear A90
  by_cases c10 : t280 = true
  ·subst c10
   have H1 : ((laws_toStringS.f k l0).bind fun t281 => ((laws_eqStringS.f k t268 t281).bind fun t284 => (if t284 = true then ((laws_markStringS.f k t268 1).bind fun bt285 => (if bt285.1 < 0 then (laws_FnExactBranchOf.j0 k l0 a1 t271 t277 true) else ((laws_eqStringS.f k t277 t271).bind fun t287 => (laws_FnExactBranchOf.j0 k l0 a1 t271 t277 (!t287))))) else (some false)))) = some r := by rw [if_pos rfl] at H; exact H
   clear H
   have H := H1
   clear H1
   replace H := Option.bind_eq_some_iff.mp H
   obtain ⟨t281, A110, H⟩ := H
   replace H : ((laws_eqStringS.f k t268 t281).bind fun t284 => (if t284 = true then ((laws_markStringS.f k t268 1).bind fun bt285 => (if bt285.1 < 0 then (laws_FnExactBranchOf.j0 k l0 a1 t271 t277 true) else ((laws_eqStringS.f k t277 t271).bind fun t287 => (laws_FnExactBranchOf.j0 k l0 a1 t271 t277 (!t287))))) else (some false))) = some r := H
   have A11 := Aside0.mk A110
   clear A110
   have et281_ : t268 = t281 := Option.some.inj (A5.out.symm.trans A11.out)
   subst et281_
   replace H := Option.bind_eq_some_iff.mp H
   obtain ⟨t284, A120, H⟩ := H
   replace H : (if t284 = true then ((laws_markStringS.f k t268 1).bind fun bt285 => (if bt285.1 < 0 then (laws_FnExactBranchOf.j0 k l0 a1 t271 t277 true) else ((laws_eqStringS.f k t277 t271).bind fun t287 => (laws_FnExactBranchOf.j0 k l0 a1 t271 t277 (!t287))))) else (some false)) = some r := H
   have A12 := Aside0.mk A120
   clear A120
   by_cases c13 : t284 = true
   ·subst c13
    have H1 : ((laws_markStringS.f k t268 1).bind fun bt285 => (if bt285.1 < 0 then (laws_FnExactBranchOf.j0 k l0 a1 t271 t277 true) else ((laws_eqStringS.f k t277 t271).bind fun t287 => (laws_FnExactBranchOf.j0 k l0 a1 t271 t277 (!t287))))) = some r := by rw [if_pos rfl] at H; exact H
    clear H
    have H := H1
    clear H1
    replace H := Option.bind_eq_some_iff.mp H
    obtain ⟨⟨t285, t286⟩, A140, H⟩ := H
    replace H : (if t285 < 0 then (laws_FnExactBranchOf.j0 k l0 a1 t271 t277 true) else ((laws_eqStringS.f k t277 t271).bind fun t287 => (laws_FnExactBranchOf.j0 k l0 a1 t271 t277 (!t287)))) = some r := H
    have A14 := Aside0.mk A140
    clear A140
    have HC15 := Aside0.mk H
    clear H
    go_enter Tryd.func6, Tryd.ntmps6
    go_upto_region 14 with (first | ((with_reducible refine gate_callee (f := 11) rfl ?_); refine goesL_ (some 15) rfl rfl Tryd.func11 (by kernel_rfl) rfl #[.slice A0 l0.length c0, .int .i64 1048576] rfl (by (try simp only [List.map_toArray, List.map_cons, List.map_nil]); first | done | rfl | (simp only [List.length_drop, List.length_take]; rfl)) ?_; (with_reducible refine (laws_szStringS.calls k _ _ l0 1048576 t267 _ ?side1 ?side2 A3.out).mono ?_); (case side1 => repeat (first | exact HR0.out | (with_reducible refine Kd.C_alloc ?_ _) | (with_reducible refine Kd.C_drewN ?_ _) | (with_reducible refine Kd.C_drew ?_))); (case side2 => exact HC0.out); rintro e w' ⟨rfl, ⟨nd, rfl⟩⟩; refine ⟨_, rfl, ?_⟩) | ((with_reducible refine gate_callee (f := 13) rfl ?_); refine goesL_ (some 19) rfl rfl Tryd.func13 (by kernel_rfl) rfl #[.slice A0 l0.length c0] rfl (by (try simp only [List.map_toArray, List.map_cons, List.map_nil]); first | done | rfl | (simp only [List.length_drop, List.length_take]; rfl)) ?_; (with_reducible refine (laws_toStringS.calls k _ _ l0 t268 _ ?side1 ?side2 A5.out).mono ?_); (case side1 => repeat (first | exact HR0.out | (with_reducible refine Kd.C_alloc ?_ _) | (with_reducible refine Kd.C_drewN ?_ _) | (with_reducible refine Kd.C_drew ?_))); (case side2 => exact HC0.out); rintro e w16 ⟨v269, rfl, ho0, hb⟩; refine ⟨_, rfl, ?_⟩; have HO270 := Aside0.mk (Kd.R_lower ho0 (below_size (bZ HB))); replace HB := bS HB hb; (try clear hb); (try clear hb2); (try clear hk); (try clear hi); (try clear ho0); obtain ⟨Ao17, co17, eo17⟩ := Kd.R_slice HO270.out; subst eo17) | ((with_reducible refine gate_callee (f := 22) rfl ?_); refine goesL_ (some 21) rfl rfl Tryd.func22 (by kernel_rfl) rfl #[.slice Ao17 t268.length co17, .int .i64 a1] rfl (by (try simp only [List.map_toArray, List.map_cons, List.map_nil]); first | done | rfl | (simp only [List.length_drop, List.length_take]; rfl)) ?_; (with_reducible refine (spec_BranchOf.calls k _ _ t268 a1 t271 _ ?side1 ?side2 A6.out).mono ?_); (case side1 => repeat (first | exact (Kd.R_reads' HO270.out).2.2 | (with_reducible refine Kd.C_alloc ?_ _) | (with_reducible refine Kd.C_drewN ?_ _) | (with_reducible refine Kd.C_drew ?_))); (case side2 => exact (Kd.R_reads' HO270.out).2.1); rintro e w18 ⟨v272, rfl, ho0, hb⟩; refine ⟨_, rfl, ?_⟩; have HO273 := Aside0.mk (Kd.R_lower (Kd.R_new' ho0 (Kd.R_lt (by (with_reducible repeat (first | apply Kd.R_alloc | apply Kd.R_drewN | apply Kd.R_drew)); exact HO270.out))) (below_size (bZ HB))); replace HO270 := Aside0.mk (Kd.R_elder' (by (with_reducible repeat (first | apply Kd.R_alloc | apply Kd.R_drewN | apply Kd.R_drew)); exact HO270.out) (Kd.R_base ho0) hb); replace HB := bS HB hb; (try clear hb); (try clear hb2); (try clear hk); (try clear hi); (try clear ho0)) | ((with_reducible refine gate_callee (f := 13) rfl ?_); refine goesL_ (some 23) rfl rfl Tryd.func13 (by kernel_rfl) rfl #[.slice A0 l0.length c0] rfl (by (try simp only [List.map_toArray, List.map_cons, List.map_nil]); first | done | rfl | (simp only [List.length_drop, List.length_take]; rfl)) ?_; (with_reducible refine (laws_toStringS.calls k _ _ l0 t268 _ ?side1 ?side2 A7.out).mono ?_); (case side1 => repeat (first | exact (Kd.C_below HR0.out HB.out) | (with_reducible refine Kd.C_alloc ?_ _) | (with_reducible refine Kd.C_drewN ?_ _) | (with_reducible refine Kd.C_drew ?_))); (case side2 => exact HC0.out); rintro e w19 ⟨v275, rfl, ho0, hb⟩; refine ⟨_, rfl, ?_⟩; have HO276 := Aside0.mk (Kd.R_lower (Kd.R_new' (Kd.R_new' ho0 (Kd.R_lt (by (with_reducible repeat (first | apply Kd.R_alloc | apply Kd.R_drewN | apply Kd.R_drew)); exact HO270.out))) (Kd.R_lt (by (with_reducible repeat (first | apply Kd.R_alloc | apply Kd.R_drewN | apply Kd.R_drew)); exact HO273.out))) (below_size (bZ HB))); replace HO270 := Aside0.mk (Kd.R_elder' (by (with_reducible repeat (first | apply Kd.R_alloc | apply Kd.R_drewN | apply Kd.R_drew)); exact HO270.out) (Kd.R_base ho0) hb); replace HO273 := Aside0.mk (Kd.R_elder' (by (with_reducible repeat (first | apply Kd.R_alloc | apply Kd.R_drewN | apply Kd.R_drew)); exact HO273.out) (Kd.R_base ho0) hb); replace HB := bS HB hb; (try clear hb); (try clear hb2); (try clear hk); (try clear hi); (try clear ho0); obtain ⟨Ao20, co20, eo20⟩ := Kd.R_slice HO276.out; subst eo20) | ((with_reducible refine gate_callee (f := 23) rfl ?_); refine goesL_ (some 26) rfl rfl Tryd.func23 (by kernel_rfl) rfl #[.slice Ao20 t268.length co20, .int .i64 a1] rfl (by (try simp only [List.map_toArray, List.map_cons, List.map_nil]); first | done | rfl | (simp only [List.length_drop, List.length_take]; rfl)) ?_; (with_reducible refine (impl_BranchOf.calls k _ _ t268 a1 t277 _ ?side1 ?side2 (Kp.Tab.below HT.out (bZ HB)) A8.out).mono ?_); (case side1 => repeat (first | exact (Kd.R_reads' HO276.out).2.2 | (with_reducible refine Kd.C_alloc ?_ _) | (with_reducible refine Kd.C_drewN ?_ _) | (with_reducible refine Kd.C_drew ?_))); (case side2 => exact (Kd.R_reads' HO276.out).2.1); rintro e w21 ⟨v278, rfl, ho0, hb⟩; refine ⟨_, rfl, ?_⟩; have HO279 := Aside0.mk (Kd.R_lower (Kd.R_new' (Kd.R_new' (Kd.R_new' ho0 (Kd.R_lt (by (with_reducible repeat (first | apply Kd.R_alloc | apply Kd.R_drewN | apply Kd.R_drew)); exact HO270.out))) (Kd.R_lt (by (with_reducible repeat (first | apply Kd.R_alloc | apply Kd.R_drewN | apply Kd.R_drew)); exact HO273.out))) (Kd.R_lt (by (with_reducible repeat (first | apply Kd.R_alloc | apply Kd.R_drewN | apply Kd.R_drew)); exact HO276.out))) (below_size (bZ HB))); replace HO270 := Aside0.mk (Kd.R_elder' (by (with_reducible repeat (first | apply Kd.R_alloc | apply Kd.R_drewN | apply Kd.R_drew)); exact HO270.out) (Kd.R_base ho0) hb); replace HO273 := Aside0.mk (Kd.R_elder' (by (with_reducible repeat (first | apply Kd.R_alloc | apply Kd.R_drewN | apply Kd.R_drew)); exact HO273.out) (Kd.R_base ho0) hb); replace HO276 := Aside0.mk (Kd.R_elder' (by (with_reducible repeat (first | apply Kd.R_alloc | apply Kd.R_drewN | apply Kd.R_drew)); exact HO276.out) (Kd.R_base ho0) hb); replace HB := bS HB hb; (try clear hb); (try clear hb2); (try clear hk); (try clear hi); (try clear ho0); obtain ⟨Ao22, co22, eo22⟩ := Kd.R_slice HO279.out; subst eo22; obtain ⟨Ao23, co23, eo23⟩ := Kd.R_slice HO273.out; subst eo23) | ((with_reducible refine gate_callee (f := 15) rfl ?_); refine goesL_ (some 29) rfl rfl Tryd.func15 (by kernel_rfl) rfl #[.slice Ao22 t277.length co22, .slice Ao23 t271.length co23] rfl (by (try simp only [List.map_toArray, List.map_cons, List.map_nil]); first | done | rfl | (simp only [List.length_drop, List.length_take]; rfl)) ?_; (with_reducible refine (laws_eqStringS.calls k _ _ t277 _ _ t271 true _ ?side1 ?side2 ?side3 ?side4 A9.out).mono ?_); (case side1 => repeat (first | exact (Kd.R_reads' HO279.out).2.2 | (with_reducible refine Kd.C_alloc ?_ _) | (with_reducible refine Kd.C_drewN ?_ _) | (with_reducible refine Kd.C_drew ?_))); (case side2 => exact (Kd.R_reads' HO279.out).2.1); (case side3 => repeat (first | exact (Kd.R_reads' HO273.out).2.2 | (with_reducible refine Kd.C_alloc ?_ _) | (with_reducible refine Kd.C_drewN ?_ _) | (with_reducible refine Kd.C_drew ?_))); (case side4 => exact (Kd.R_reads' HO273.out).2.1); rintro e w' ⟨rfl, ⟨nd, rfl⟩⟩; refine ⟨_, rfl, ?_⟩) | ((with_reducible refine gate_callee (f := 13) rfl ?_); refine goesL_ (some 33) rfl rfl Tryd.func13 (by kernel_rfl) rfl #[.slice A0 l0.length c0] rfl (by (try simp only [List.map_toArray, List.map_cons, List.map_nil]); first | done | rfl | (simp only [List.length_drop, List.length_take]; rfl)) ?_; (with_reducible refine (laws_toStringS.calls k _ _ l0 t268 _ ?side1 ?side2 A11.out).mono ?_); (case side1 => repeat (first | exact (Kd.C_below HR0.out (bZ HB)) | (with_reducible refine Kd.C_alloc ?_ _) | (with_reducible refine Kd.C_drewN ?_ _) | (with_reducible refine Kd.C_drew ?_))); (case side2 => exact HC0.out); rintro e w24 ⟨v282, rfl, ho0, hb⟩; refine ⟨_, rfl, ?_⟩; have HO283 := Aside0.mk (Kd.R_lower (Kd.R_new' (Kd.R_new' (Kd.R_new' (Kd.R_new' ho0 (Kd.R_lt (by (with_reducible repeat (first | apply Kd.R_alloc | apply Kd.R_drewN | apply Kd.R_drew)); exact HO270.out))) (Kd.R_lt (by (with_reducible repeat (first | apply Kd.R_alloc | apply Kd.R_drewN | apply Kd.R_drew)); exact HO273.out))) (Kd.R_lt (by (with_reducible repeat (first | apply Kd.R_alloc | apply Kd.R_drewN | apply Kd.R_drew)); exact HO276.out))) (Kd.R_lt (by (with_reducible repeat (first | apply Kd.R_alloc | apply Kd.R_drewN | apply Kd.R_drew)); exact HO279.out))) (below_size (bZ HB))); replace HO270 := Aside0.mk (Kd.R_elder' (by (with_reducible repeat (first | apply Kd.R_alloc | apply Kd.R_drewN | apply Kd.R_drew)); exact HO270.out) (Kd.R_base ho0) hb); replace HO273 := Aside0.mk (Kd.R_elder' (by (with_reducible repeat (first | apply Kd.R_alloc | apply Kd.R_drewN | apply Kd.R_drew)); exact HO273.out) (Kd.R_base ho0) hb); replace HO276 := Aside0.mk (Kd.R_elder' (by (with_reducible repeat (first | apply Kd.R_alloc | apply Kd.R_drewN | apply Kd.R_drew)); exact HO276.out) (Kd.R_base ho0) hb); replace HO279 := Aside0.mk (Kd.R_elder' (by (with_reducible repeat (first | apply Kd.R_alloc | apply Kd.R_drewN | apply Kd.R_drew)); exact HO279.out) (Kd.R_base ho0) hb); replace HB := bS HB hb; (try clear hb); (try clear hb2); (try clear hk); (try clear hi); (try clear ho0); obtain ⟨Ao25, co25, eo25⟩ := Kd.R_slice HO283.out; subst eo25) | ((with_reducible refine gate_callee (f := 15) rfl ?_); refine goesL_ (some 34) rfl rfl Tryd.func15 (by kernel_rfl) rfl #[.slice Ao20 t268.length co20, .slice Ao25 t268.length co25] rfl (by (try simp only [List.map_toArray, List.map_cons, List.map_nil]); first | done | rfl | (simp only [List.length_drop, List.length_take]; rfl)) ?_; (with_reducible refine (laws_eqStringS.calls k _ _ t268 _ _ t268 true _ ?side1 ?side2 ?side3 ?side4 A12.out).mono ?_); (case side1 => repeat (first | exact (Kd.R_reads' HO276.out).2.2 | (with_reducible refine Kd.C_alloc ?_ _) | (with_reducible refine Kd.C_drewN ?_ _) | (with_reducible refine Kd.C_drew ?_))); (case side2 => exact (Kd.R_reads' HO276.out).2.1); (case side3 => repeat (first | exact (Kd.R_reads' HO283.out).2.2 | (with_reducible refine Kd.C_alloc ?_ _) | (with_reducible refine Kd.C_drewN ?_ _) | (with_reducible refine Kd.C_drew ?_))); (case side4 => exact (Kd.R_reads' HO283.out).2.1); rintro e w' ⟨rfl, ⟨nd, rfl⟩⟩; refine ⟨_, rfl, ?_⟩) | ((with_reducible refine gate_callee (f := 24) rfl ?_); refine goesL_ (some 38) rfl rfl Tryd.func24 (by kernel_rfl) rfl #[.slice Ao20 t268.length co20, .int .i64 1] rfl (by (try simp only [List.map_toArray, List.map_cons, List.map_nil]); first | done | rfl | (simp only [List.length_drop, List.length_take]; rfl)) ?_; (with_reducible refine (laws_markStringS.calls k (fun k_ => some k_ = (.slice Ao20 t268.length co20 : Value).ownBlock) (.slice Ao20 t268.length co20) t268 1 t285 t286 w _ ?side1 ?side2 A14.out).mono ?_); (case side1 => repeat (first | (with_reducible first | exact HB.out | apply below_alloc | apply pw_below_drewN | apply below_drew1) | exact HB.out)); (case side2 => exact Kd.R_tight rfl HO276.out); rintro e w26 ⟨rfl, hy0, hb, hkp⟩; refine ⟨_, rfl, ?_⟩; replace HO270 := Aside0.mk (Kd.R_mono (ok' := fun k_ => some k_ ≠ (.slice Ao23 t271.length co23 : Value).ownBlock ∧ some k_ ≠ (.slice Ao20 t268.length co20 : Value).ownBlock ∧ some k_ ≠ (.slice Ao22 t277.length co22 : Value).ownBlock ∧ some k_ ≠ (.slice Ao25 t268.length co25 : Value).ownBlock) (Kd.R_keptB (HO270.out) hkp (fun k_ hk_ hs_ => (hk_.1.1.2) hs_)) (fun k_ hk_ => ⟨hk_.1.1.1.1.2, hk_.1.1.1.2, hk_.1.1.2, hk_.1.2⟩)); replace HO273 := Aside0.mk (Kd.R_mono (ok' := fun k_ => some k_ ≠ (.slice Ao17 t268.length co17 : Value).ownBlock ∧ some k_ ≠ (.slice Ao20 t268.length co20 : Value).ownBlock ∧ some k_ ≠ (.slice Ao22 t277.length co22 : Value).ownBlock ∧ some k_ ≠ (.slice Ao25 t268.length co25 : Value).ownBlock) (Kd.R_keptB (HO273.out) hkp (fun k_ hk_ hs_ => (hk_.1.1.2) hs_)) (fun k_ hk_ => ⟨hk_.1.1.1.1.2, hk_.1.1.1.2, hk_.1.1.2, hk_.1.2⟩)); replace HO276 := Aside0.mk (Kd.R_reok rfl hy0 (fun k_ e_ => HO276.out.1 k_ e_)); replace HO279 := Aside0.mk (Kd.R_mono (ok' := fun k_ => some k_ ≠ (.slice Ao17 t268.length co17 : Value).ownBlock ∧ some k_ ≠ (.slice Ao23 t271.length co23 : Value).ownBlock ∧ some k_ ≠ (.slice Ao20 t268.length co20 : Value).ownBlock ∧ some k_ ≠ (.slice Ao25 t268.length co25 : Value).ownBlock) (Kd.R_keptB (HO279.out) hkp (fun k_ hk_ hs_ => (hk_.1.2) hs_)) (fun k_ hk_ => ⟨hk_.1.1.1.1.2, hk_.1.1.1.2, hk_.1.1.2, hk_.1.2⟩)); replace HO283 := Aside0.mk (Kd.R_mono (ok' := fun k_ => some k_ ≠ (.slice Ao17 t268.length co17 : Value).ownBlock ∧ some k_ ≠ (.slice Ao23 t271.length co23 : Value).ownBlock ∧ some k_ ≠ (.slice Ao20 t268.length co20 : Value).ownBlock ∧ some k_ ≠ (.slice Ao22 t277.length co22 : Value).ownBlock) (Kd.R_keptB (HO283.out) hkp (fun k_ hk_ hs_ => (hk_.1.2) hs_)) (fun k_ hk_ => ⟨hk_.1.1.1.1.2, hk_.1.1.1.2, hk_.1.1.2, hk_.1.2⟩)); replace HB := Aside0.mk (hb); (try clear hb); (try clear hkp); (try clear hy0)))
    (try simp only [Act.put, List.setIfInBounds_toArray, List.set_cons_zero, List.set_cons_succ])
    go_cut [46] (fun v46 wc => ∃ (kq : Nat) (x46_14 : Bool), v46 = .bool x46_14 ∧ Aside0 (laws_FnExactBranchOf.j0 kq l0 a1 t271 t277 x46_14 = some r) ∧ Aside0 (kq ≤ k) ∧ Aside0 (Kd.R Kd.string 9 wc w.heap.size (fun k_ => some k_ ≠ ((.slice Ao22 t277.length co22) : Value).ownBlock) (.slice Ao23 t271.length co23) t271) ∧ Aside0 (Kd.R Kd.string 9 wc w.heap.size (fun k_ => some k_ ≠ ((.slice Ao23 t271.length co23) : Value).ownBlock) (.slice Ao22 t277.length co22) t277) ∧ Aside0 (Below w.heap.size w wc))
    case first =>
     have H := HC15.out
     clear HC15
     by_cases c27 : t285 < 0
     ·rw [if_pos c27] at H
      have c27b0 : decide (t285 < 0) = true := decide_eq_true c27
      clear c27
      (first | rw [c27b0] | (simp only [i64_w, i32_w]; rw [c27b0]) | rw [c27b1] | skip)
      have H' := Aside0.mk H
      clear H
      go_wp2
      go_meet
      case rel => exact ⟨_, (true), (by first | rfl | (simp; done) | (simp [*]; done)), H', ⟨by first | omega | exact Nat.le_refl _⟩, ⟨by (with_reducible repeat (first | apply Kd.R_alloc | apply Kd.R_drewN | apply Kd.R_drew)); exact Kd.R_mono HO273.out (fun _ hk => hk.2.2.1)⟩, ⟨by (with_reducible repeat (first | apply Kd.R_alloc | apply Kd.R_drewN | apply Kd.R_drew)); exact Kd.R_mono HO279.out (fun _ hk => hk.2.1)⟩, ⟨bZ HB⟩⟩
     ·rw [if_neg c27] at H
      have c27b0 : decide (t285 < 0) = false := decide_eq_false c27
      clear c27
      (first | rw [c27b0] | (simp only [i64_w, i32_w]; rw [c27b0]) | rw [c27b1] | skip)
      replace H := Option.bind_eq_some_iff.mp H
      obtain ⟨t287, A280, H⟩ := H
      replace H : (laws_FnExactBranchOf.j0 k l0 a1 t271 t277 (!t287)) = some r := H
      have A28 := Aside0.mk A280
      clear A280
      have H' := Aside0.mk H
      clear H
      go_wp2_with (first | (go_at_call 15; (with_reducible refine (laws_eqStringS.calls k _ _ t277 _ _ t271 t287 _ ?side1 ?side2 ?side3 ?side4 A28.out).mono ?_); (case side1 => repeat (first | exact (Kd.R_reads' HO279.out).2.2 | (with_reducible refine Kd.C_alloc ?_ _) | (with_reducible refine Kd.C_drewN ?_ _) | (with_reducible refine Kd.C_drew ?_))); (case side2 => exact (Kd.R_reads' HO279.out).2.1); (case side3 => repeat (first | exact (Kd.R_reads' HO273.out).2.2 | (with_reducible refine Kd.C_alloc ?_ _) | (with_reducible refine Kd.C_drewN ?_ _) | (with_reducible refine Kd.C_drew ?_))); (case side4 => exact (Kd.R_reads' HO273.out).2.1); rintro e w' ⟨rfl, ⟨nd, rfl⟩⟩))
      go_meet
      case rel => exact ⟨_, (!t287), (by first | rfl | (simp; done) | (simp [*]; done)), H', ⟨by first | omega | exact Nat.le_refl _⟩, ⟨by (with_reducible repeat (first | apply Kd.R_alloc | apply Kd.R_drewN | apply Kd.R_drew)); exact Kd.R_mono HO273.out (fun _ hk => hk.2.2.1)⟩, ⟨by (with_reducible repeat (first | apply Kd.R_alloc | apply Kd.R_drewN | apply Kd.R_drew)); exact Kd.R_mono HO279.out (fun _ hk => hk.2.1)⟩, ⟨bZ HB⟩⟩
    case rest =>
     clear HC15
     try clear c1
     try clear c2
     try clear p2
     try clear c4
     try clear c4b0
     try clear c6
     try clear c10
     try clear c11
     try clear c13
     try clear c15
     try clear c22
     try clear c23
     try clear c24
     try clear c27
     try clear c27b0
     obtain ⟨kq, x46_14, rfl, HA, HJ14, HO_6, HO_8, HB⟩ := hcut
     cases kq with
     | zero => exact absurd HA.out (by simp [laws_FnExactBranchOf.j0])
     | succ kj14 =>
      have H := HA.out
      clear HA
      simp only [laws_FnExactBranchOf.j0] at H
      by_cases c29 : x46_14 = true
      ·subst c29
       have H1 : (some false) = some r := by rw [if_pos rfl] at H; exact H
       clear H
       have H := H1
       clear H1
       exact absurd (Option.some.inj H) (by rw [htrue.out]; exact Bool.false_ne_true)
      ·replace c29 := Bool.eq_false_iff.mpr c29
       subst c29
       have H1 : ((laws_markStringS.f kj14 t277 1).bind fun bt288 => ((laws_heldStringS.f kj14 bt288.2 1).bind fun t290 => (if t290 < 0 then (some false) else (if t290 = bt288.1 then ((laws_toStringS.f kj14 l0).bind fun t291 => ((impl_BranchOf.f kj14 t291 a1).bind fun t294 => ((laws_eqStringS.f kj14 t294 t271).bind fun t297 => (if t297 = true then ((laws_heldStringS.f kj14 bt288.2 1).bind fun t298 => (if t298 < 0 then (some false) else (if t298 = bt288.1 then (some true) else (some false)))) else (some false))))) else (some false))))) = some r := by rw [if_neg (show ¬ (false = true) by decide)] at H; exact H
       clear H
       have H := H1
       clear H1
       replace H := Option.bind_eq_some_iff.mp H
       obtain ⟨⟨t288, t289⟩, A300, H⟩ := H
       replace H : ((laws_heldStringS.f kj14 t289 1).bind fun t290 => (if t290 < 0 then (some false) else (if t290 = t288 then ((laws_toStringS.f kj14 l0).bind fun t291 => ((impl_BranchOf.f kj14 t291 a1).bind fun t294 => ((laws_eqStringS.f kj14 t294 t271).bind fun t297 => (if t297 = true then ((laws_heldStringS.f kj14 t289 1).bind fun t298 => (if t298 < 0 then (some false) else (if t298 = t288 then (some true) else (some false)))) else (some false))))) else (some false)))) = some r := H
       have A30 := Aside0.mk A300
       clear A300
       replace H := Option.bind_eq_some_iff.mp H
       obtain ⟨t290, A310, H⟩ := H
       replace H : (if t290 < 0 then (some false) else (if t290 = t288 then ((laws_toStringS.f kj14 l0).bind fun t291 => ((impl_BranchOf.f kj14 t291 a1).bind fun t294 => ((laws_eqStringS.f kj14 t294 t271).bind fun t297 => (if t297 = true then ((laws_heldStringS.f kj14 t289 1).bind fun t298 => (if t298 < 0 then (some false) else (if t298 = t288 then (some true) else (some false)))) else (some false))))) else (some false))) = some r := H
       have A31 := Aside0.mk A310
       clear A310
       by_cases c32 : t290 < 0
       ·rw [if_pos c32] at H
        have c32b0 : decide (t290 < 0) = true := decide_eq_true c32
        clear c32
        exact absurd (Option.some.inj H) (by rw [htrue.out]; exact Bool.false_ne_true)
       ·rw [if_neg c32] at H
        have c32b0 : decide (t290 < 0) = false := decide_eq_false c32
        clear c32
        by_cases c33 : t290 = t288
        ·rw [if_pos c33] at H
         have c33b0 : (t290 == t288) = true := beq_iff_eq.mpr c33
         have c33b1 : (t290 != t288) = false := bne_eq_false_iff_eq.mpr c33
         clear c33
         replace H := Option.bind_eq_some_iff.mp H
         obtain ⟨t291, A340, H⟩ := H
         replace H : ((impl_BranchOf.f kj14 t291 a1).bind fun t294 => ((laws_eqStringS.f kj14 t294 t271).bind fun t297 => (if t297 = true then ((laws_heldStringS.f kj14 t289 1).bind fun t298 => (if t298 < 0 then (some false) else (if t298 = t288 then (some true) else (some false)))) else (some false)))) = some r := H
         have A34 := Aside0.mk A340
         clear A340
         replace H := Option.bind_eq_some_iff.mp H
         obtain ⟨t294, A350, H⟩ := H
         replace H : ((laws_eqStringS.f kj14 t294 t271).bind fun t297 => (if t297 = true then ((laws_heldStringS.f kj14 t289 1).bind fun t298 => (if t298 < 0 then (some false) else (if t298 = t288 then (some true) else (some false)))) else (some false))) = some r := H
         have A35 := Aside0.mk A350
         clear A350
         replace H := Option.bind_eq_some_iff.mp H
         obtain ⟨t297, A360, H⟩ := H
         replace H : (if t297 = true then ((laws_heldStringS.f kj14 t289 1).bind fun t298 => (if t298 < 0 then (some false) else (if t298 = t288 then (some true) else (some false)))) else (some false)) = some r := H
         have A36 := Aside0.mk A360
         clear A360
         by_cases c37 : t297 = true
         ·subst c37
          have H1 : ((laws_heldStringS.f kj14 t289 1).bind fun t298 => (if t298 < 0 then (some false) else (if t298 = t288 then (some true) else (some false)))) = some r := by rw [if_pos rfl] at H; exact H
          clear H
          have H := H1
          clear H1
          replace H := Option.bind_eq_some_iff.mp H
          obtain ⟨t298, A380, H⟩ := H
          replace H : (if t298 < 0 then (some false) else (if t298 = t288 then (some true) else (some false))) = some r := H
          have A38 := Aside0.mk A380
          clear A380
          have et298_ : t290 = t298 := Option.some.inj (A31.out.symm.trans A38.out)
          subst et298_
          by_cases c39 : t290 < 0
          ·rw [if_pos c39] at H
           have c39b0 : decide (t290 < 0) = true := decide_eq_true c39
           clear c39
           exact absurd (Option.some.inj H) (by rw [htrue.out]; exact Bool.false_ne_true)
          ·rw [if_neg c39] at H
           have c39b0 : decide (t290 < 0) = false := decide_eq_false c39
           clear c39
           by_cases c40 : t290 = t288
           ·rw [if_pos c40] at H
            have c40b0 : (t290 == t288) = true := beq_iff_eq.mpr c40
            have c40b1 : (t290 != t288) = false := bne_eq_false_iff_eq.mpr c40
            clear c40
            obtain rfl := Option.some.inj H
            go_wp2_with (first | ((with_reducible refine gate_callee (f := 24) rfl ?_); refine goesL_ (some 49) rfl rfl Tryd.func24 (by kernel_rfl) rfl #[.slice Ao22 t277.length co22, .int .i64 1] rfl (by (try simp only [List.map_toArray, List.map_cons, List.map_nil]); first | done | rfl | (simp only [List.length_drop, List.length_take]; rfl)) ?_; (with_reducible refine (laws_markStringS.calls kj14 (fun k_ => some k_ = (.slice Ao22 t277.length co22 : Value).ownBlock) (.slice Ao22 t277.length co22) t277 1 t288 t289 w _ ?side1 ?side2 A30.out).mono ?_); (case side1 => repeat (first | (with_reducible first | exact HB.out | apply below_alloc | apply pw_below_drewN | apply below_drew1) | exact HB.out)); (case side2 => exact Kd.R_tight rfl HO_8.out); rintro e w41 ⟨rfl, hy0, hb, hkp⟩; refine ⟨_, rfl, ?_⟩; replace HO_6 := Aside0.mk (Kd.R_mono (ok' := fun k_ => some k_ ≠ (.slice Ao22 t277.length co22 : Value).ownBlock) (Kd.R_keptB (HO_6.out) hkp (fun k_ hk_ hs_ => (hk_) hs_)) (fun k_ hk_ => hk_.1)); replace HO_8 := Aside0.mk (Kd.R_reok rfl hy0 (fun k_ e_ => HO_8.out.1 k_ e_)); replace HB := Aside0.mk (hb); (try clear hb); (try clear hkp); (try clear hy0)) | ((with_reducible refine gate_callee (f := 25) rfl ?_); refine goesL_ (some 52) rfl rfl Tryd.func25 (by kernel_rfl) rfl #[.slice Ao22 t289.length co22, .int .i64 1] rfl (by (try simp only [List.map_toArray, List.map_cons, List.map_nil]); first | done | (rw [show t289.length = t277.length from (Kd.R_reads' HO_8.out).1.symm] <;> rfl) | rfl | (simp only [List.length_drop, List.length_take]; rfl)) ?_; (with_reducible refine (laws_heldStringS.calls kj14 _ _ t289 1 t290 _ ?side1 ?side2 A31.out).mono ?_); (case side1 => repeat (first | exact (Kd.R_reads' HO_8.out).2.2 | (with_reducible refine Kd.C_alloc ?_ _) | (with_reducible refine Kd.C_drewN ?_ _) | (with_reducible refine Kd.C_drew ?_))); (case side2 => rw [show t289.length = t277.length from (Kd.R_reads' HO_8.out).1.symm]; exact (Kd.R_reads' HO_8.out).2.1); rintro e w42 ⟨rfl, hb⟩; refine ⟨_, rfl, ?_⟩; replace HO_6 := Aside0.mk (Kd.R_below (by (with_reducible repeat (first | apply Kd.R_alloc | apply Kd.R_drewN | apply Kd.R_drew)); exact HO_6.out) hb); replace HO_8 := Aside0.mk (Kd.R_below (by (with_reducible repeat (first | apply Kd.R_alloc | apply Kd.R_drewN | apply Kd.R_drew)); exact HO_8.out) hb); replace HB := bS HB hb; (try clear hb); (try clear hb2); (try clear hk); (try clear hi)) | ((with_reducible refine gate_callee (f := 13) rfl ?_); refine goesL_ (some 59) rfl rfl Tryd.func13 (by kernel_rfl) rfl #[.slice A0 l0.length c0] rfl (by (try simp only [List.map_toArray, List.map_cons, List.map_nil]); first | done | rfl | (simp only [List.length_drop, List.length_take]; rfl)) ?_; (with_reducible refine (laws_toStringS.calls kj14 _ _ l0 t291 _ ?side1 ?side2 A34.out).mono ?_); (case side1 => repeat (first | exact (Kd.C_below HR0.out HB.out) | (with_reducible refine Kd.C_alloc ?_ _) | (with_reducible refine Kd.C_drewN ?_ _) | (with_reducible refine Kd.C_drew ?_))); (case side2 => exact HC0.out); rintro e w43 ⟨v292, rfl, ho0, hb⟩; refine ⟨_, rfl, ?_⟩; have HO293 := Aside0.mk (Kd.R_lower (Kd.R_new' (Kd.R_new' ho0 (Kd.R_lt (by (with_reducible repeat (first | apply Kd.R_alloc | apply Kd.R_drewN | apply Kd.R_drew)); exact HO_6.out))) (Kd.R_lt (by (with_reducible repeat (first | apply Kd.R_alloc | apply Kd.R_drewN | apply Kd.R_drew)); exact HO_8.out))) (below_size (bZ HB))); replace HO_6 := Aside0.mk (Kd.R_elder' (by (with_reducible repeat (first | apply Kd.R_alloc | apply Kd.R_drewN | apply Kd.R_drew)); exact HO_6.out) (Kd.R_base ho0) hb); replace HO_8 := Aside0.mk (Kd.R_elder' (by (with_reducible repeat (first | apply Kd.R_alloc | apply Kd.R_drewN | apply Kd.R_drew)); exact HO_8.out) (Kd.R_base ho0) hb); replace HB := bS HB hb; (try clear hb); (try clear hb2); (try clear hk); (try clear hi); (try clear ho0); obtain ⟨Ao44, co44, eo44⟩ := Kd.R_slice HO293.out; subst eo44) | ((with_reducible refine gate_callee (f := 23) rfl ?_); refine goesL_ (some 61) rfl rfl Tryd.func23 (by kernel_rfl) rfl #[.slice Ao44 t291.length co44, .int .i64 a1] rfl (by (try simp only [List.map_toArray, List.map_cons, List.map_nil]); first | done | rfl | (simp only [List.length_drop, List.length_take]; rfl)) ?_; (with_reducible refine (impl_BranchOf.calls kj14 _ _ t291 a1 t294 _ ?side1 ?side2 (Kp.Tab.below HT.out (bZ HB)) A35.out).mono ?_); (case side1 => repeat (first | exact (Kd.R_reads' HO293.out).2.2 | (with_reducible refine Kd.C_alloc ?_ _) | (with_reducible refine Kd.C_drewN ?_ _) | (with_reducible refine Kd.C_drew ?_))); (case side2 => exact (Kd.R_reads' HO293.out).2.1); rintro e w45 ⟨v295, rfl, ho0, hb⟩; refine ⟨_, rfl, ?_⟩; have HO296 := Aside0.mk (Kd.R_lower (Kd.R_new' (Kd.R_new' (Kd.R_new' ho0 (Kd.R_lt (by (with_reducible repeat (first | apply Kd.R_alloc | apply Kd.R_drewN | apply Kd.R_drew)); exact HO_6.out))) (Kd.R_lt (by (with_reducible repeat (first | apply Kd.R_alloc | apply Kd.R_drewN | apply Kd.R_drew)); exact HO_8.out))) (Kd.R_lt (by (with_reducible repeat (first | apply Kd.R_alloc | apply Kd.R_drewN | apply Kd.R_drew)); exact HO293.out))) (below_size (bZ HB))); replace HO_6 := Aside0.mk (Kd.R_elder' (by (with_reducible repeat (first | apply Kd.R_alloc | apply Kd.R_drewN | apply Kd.R_drew)); exact HO_6.out) (Kd.R_base ho0) hb); replace HO_8 := Aside0.mk (Kd.R_elder' (by (with_reducible repeat (first | apply Kd.R_alloc | apply Kd.R_drewN | apply Kd.R_drew)); exact HO_8.out) (Kd.R_base ho0) hb); replace HO293 := Aside0.mk (Kd.R_elder' (by (with_reducible repeat (first | apply Kd.R_alloc | apply Kd.R_drewN | apply Kd.R_drew)); exact HO293.out) (Kd.R_base ho0) hb); replace HB := bS HB hb; (try clear hb); (try clear hb2); (try clear hk); (try clear hi); (try clear ho0); obtain ⟨Ao46, co46, eo46⟩ := Kd.R_slice HO296.out; subst eo46) | ((with_reducible refine gate_callee (f := 15) rfl ?_); refine goesL_ (some 64) rfl rfl Tryd.func15 (by kernel_rfl) rfl #[.slice Ao46 t294.length co46, .slice Ao23 t271.length co23] rfl (by (try simp only [List.map_toArray, List.map_cons, List.map_nil]); first | done | rfl | (simp only [List.length_drop, List.length_take]; rfl)) ?_; (with_reducible refine (laws_eqStringS.calls kj14 _ _ t294 _ _ t271 true _ ?side1 ?side2 ?side3 ?side4 A36.out).mono ?_); (case side1 => repeat (first | exact (Kd.R_reads' HO296.out).2.2 | (with_reducible refine Kd.C_alloc ?_ _) | (with_reducible refine Kd.C_drewN ?_ _) | (with_reducible refine Kd.C_drew ?_))); (case side2 => exact (Kd.R_reads' HO296.out).2.1); (case side3 => repeat (first | exact (Kd.R_reads' HO_6.out).2.2 | (with_reducible refine Kd.C_alloc ?_ _) | (with_reducible refine Kd.C_drewN ?_ _) | (with_reducible refine Kd.C_drew ?_))); (case side4 => exact (Kd.R_reads' HO_6.out).2.1); rintro e w' ⟨rfl, ⟨nd, rfl⟩⟩; refine ⟨_, rfl, ?_⟩) | ((with_reducible refine gate_callee (f := 25) rfl ?_); refine goesL_ (some 68) rfl rfl Tryd.func25 (by kernel_rfl) rfl #[.slice Ao22 t289.length co22, .int .i64 1] rfl (by (try simp only [List.map_toArray, List.map_cons, List.map_nil]); first | done | (rw [show t289.length = t277.length from (Kd.R_reads' HO_8.out).1.symm] <;> rfl) | rfl | (simp only [List.length_drop, List.length_take]; rfl)) ?_; (with_reducible refine (laws_heldStringS.calls kj14 _ _ t289 1 t290 _ ?side1 ?side2 A38.out).mono ?_); (case side1 => repeat (first | exact (Kd.R_reads' HO_8.out).2.2 | (with_reducible refine Kd.C_alloc ?_ _) | (with_reducible refine Kd.C_drewN ?_ _) | (with_reducible refine Kd.C_drew ?_))); (case side2 => rw [show t289.length = t277.length from (Kd.R_reads' HO_8.out).1.symm]; exact (Kd.R_reads' HO_8.out).2.1); rintro e w47 ⟨rfl, hb⟩; refine ⟨_, rfl, ?_⟩; replace HO_6 := Aside0.mk (Kd.R_below (by (with_reducible repeat (first | apply Kd.R_alloc | apply Kd.R_drewN | apply Kd.R_drew)); exact HO_6.out) hb); replace HO_8 := Aside0.mk (Kd.R_below (by (with_reducible repeat (first | apply Kd.R_alloc | apply Kd.R_drewN | apply Kd.R_drew)); exact HO_8.out) hb); replace HO293 := Aside0.mk (Kd.R_below (by (with_reducible repeat (first | apply Kd.R_alloc | apply Kd.R_drewN | apply Kd.R_drew)); exact HO293.out) hb); replace HO296 := Aside0.mk (Kd.R_below (by (with_reducible repeat (first | apply Kd.R_alloc | apply Kd.R_drewN | apply Kd.R_drew)); exact HO296.out) hb); replace HB := bS HB hb; (try clear hb); (try clear hb2); (try clear hk); (try clear hi)))
            go_ret
            exact ⟨by first | rfl | (simp [errW_none, errW_some] <;> rfl) | (simp [*, errW_none, errW_some] <;> rfl), bZ HB⟩
           ·rw [if_neg c40] at H
            have c40b0 : (t290 == t288) = false := beq_eq_false_iff_ne.mpr c40
            have c40b1 : (t290 != t288) = true := bne_iff_ne.mpr c40
            exact absurd (Option.some.inj H) (by rw [htrue.out]; exact Bool.false_ne_true)
         ·replace c37 := Bool.eq_false_iff.mpr c37
          subst c37
          have H1 : (some false) = some r := by rw [if_neg (show ¬ (false = true) by decide)] at H; exact H
          clear H
          have H := H1
          clear H1
          exact absurd (Option.some.inj H) (by rw [htrue.out]; exact Bool.false_ne_true)
        ·rw [if_neg c33] at H
         have c33b0 : (t290 == t288) = false := beq_eq_false_iff_ne.mpr c33
         have c33b1 : (t290 != t288) = true := bne_iff_ne.mpr c33
         exact absurd (Option.some.inj H) (by rw [htrue.out]; exact Bool.false_ne_true)
   ·replace c13 := Bool.eq_false_iff.mpr c13
    subst c13
    have H1 : (some false) = some r := by rw [if_neg (show ¬ (false = true) by decide)] at H; exact H
    clear H
    have H := H1
    clear H1
    exact absurd (Option.some.inj H) (by rw [htrue.out]; exact Bool.false_ne_true)
  ·replace c10 := Bool.eq_false_iff.mpr c10
   subst c10
   have H1 : (some false) = some r := by rw [if_neg (show ¬ (false = true) by decide)] at H; exact H
   clear H
   have H := H1
   clear H1
   exact absurd (Option.some.inj H) (by rw [htrue.out]; exact Bool.false_ne_true)

/-- THE ONE PURE STATEMENT of laws_FnExactBranchOf. -/
def laws_FnExactBranchOf.Pure : Prop := ∀ (l0 : List ByteArray) (a1 : Int), (l0.length ≤ 9223372036854775807 ∧ ∀ y1 ∈ l0, y1.size ≤ maxLen) → (Lit.int .i64 a1).wf = true → ∃ k, laws_FnExactBranchOf.f k l0 a1 = some true
/-! ### impl_RootOf: function 17 -/
def impl_RootOf.f (k : Nat) (l0 : List ByteArray) : Option (ByteArray) := if (l0.length : Int) > 32 then (some (⟨#[]⟩ : ByteArray)) else ((impl_levelsOfTree.f k l0).bind fun t164 => (if 0 ≤ (wrap64 ((t164.length : Int) - 1)) then (if (wrap64 ((t164.length : Int) - 1)) < (t164.length : Int) then (if 0 < ((rd_L2 t164 (wrap64 ((t164.length : Int) - 1))).length : Int) then (some (rdOf ByteArray.empty (rd_L2 t164 (wrap64 ((t164.length : Int) - 1))) 0)) else (none)) else (none)) else (none)))
theorem impl_RootOf.mono : ∀ a0 k, LeO (impl_RootOf.f k a0) (impl_RootOf.f (k + 1) a0) := by
 intro a0 k
 unfold impl_RootOf.f
 repeat' first
   | (with_reducible exact impl_levelsOfTree.mono _ _)
   | (with_reducible exact LeO.refl _)
   | (with_reducible exact LeO.none _)
   | (with_reducible refine LeO.ite ?_ ?_)
   | (with_reducible refine LeO.bind ?_ (fun _ => ?_))
   | exact impl_levelsOfTree.mono _ _
   | exact LeO.none _
   | refine LeO.ite ?_ ?_
   | refine LeO.bind ?_ (fun _ => ?_)
set_option maxHeartbeats 8000000 in
set_option maxRecDepth 100000 in
theorem impl_RootOf.calls (k : Nat) (A0 : Option Addr) (c0 : Nat) (l0 : List ByteArray) (r : ByteArray) (w : World) (hr0 : Kd.C Kd.string w A0 l0.length l0) (hc0 : l0.length ≤ c0) (hT : Kp.Tab w) (h : impl_RootOf.f k l0 = some r) :
  Calls Tryd.prog 17 #[.slice A0 l0.length c0] w fun e w' => e = .returned (.string r) ∧ Below w.heap.size w w' := by
 have HT := Aside0.mk hT
 clear hT
 have HR0 := Aside0.mk hr0
 have HC0 := Aside0.mk hc0
 clear hr0 hc0
 have HB := Aside0.mk (Below.refl w.heap.size w)
 have H : (if (l0.length : Int) > 32 then (some (⟨#[]⟩ : ByteArray)) else ((impl_levelsOfTree.f k l0).bind fun t164 => (if 0 ≤ (wrap64 ((t164.length : Int) - 1)) then (if (wrap64 ((t164.length : Int) - 1)) < (t164.length : Int) then (if 0 < ((rd_L2 t164 (wrap64 ((t164.length : Int) - 1))).length : Int) then (some (rdOf ByteArray.empty (rd_L2 t164 (wrap64 ((t164.length : Int) - 1))) 0)) else (none)) else (none)) else (none)))) = some r := h
 clear h
 by_cases c2 : (l0.length : Int) > 32
 ·rw [if_pos c2] at H
  have c2b0 : decide (32 < (l0.length : Int)) = true := decide_eq_true c2
  have c2b1 : decide (32 < l0.length) = true := decide_eq_true (by omega)
  clear c2
  obtain rfl := Option.some.inj H
  go_enter Tryd.func17, Tryd.ntmps17
  go_wp2
  go_ret
  exact ⟨by first | rfl | (simp [errW_none, errW_some] <;> rfl) | (simp [*, errW_none, errW_some] <;> rfl), bZ HB⟩
 ·rw [if_neg c2] at H
  have c2b0 : decide (32 < (l0.length : Int)) = false := decide_eq_false c2
  have c2b1 : decide (32 < l0.length) = false := decide_eq_false (by omega)
  clear c2
  replace H := Option.bind_eq_some_iff.mp H
  obtain ⟨t164, A30, H⟩ := H
  replace H : (if 0 ≤ (wrap64 ((t164.length : Int) - 1)) then (if (wrap64 ((t164.length : Int) - 1)) < (t164.length : Int) then (if 0 < ((rd_L2 t164 (wrap64 ((t164.length : Int) - 1))).length : Int) then (some (rdOf ByteArray.empty (rd_L2 t164 (wrap64 ((t164.length : Int) - 1))) 0)) else (none)) else (none)) else (none)) = some r := H
  have A3 := Aside0.mk A30
  clear A30
  obtain ⟨ji4, hji4⟩ : ∃ j_ : Int, (wrap64 ((t164.length : Int) - 1)) = j_ := ⟨_, rfl⟩
  replace H : (if 0 ≤ (ji4) then (if (ji4) < (t164.length : Int) then (if 0 < ((rd_L2 t164 (ji4)).length : Int) then (some (rdOf ByteArray.empty (rd_L2 t164 (ji4)) 0)) else (none)) else (none)) else (none)) = some r := by first | (rw [hji4] at H; exact H) | (simp only [hji4] at H ⊢; exact H)
  (try rw [hji4] at A3)
  have hji4w : (IntKind.i64.wrap ((t164.length : Int) - 1)) = ji4 := (i64_w _).trans hji4
  by_cases c5 : 0 ≤ (ji4)
  ·rw [if_pos c5] at H
   have c5b0 : decide (0 ≤ (ji4)) = true := decide_eq_true c5
   clear c5
   by_cases c6 : (ji4) < (t164.length : Int)
   ·rw [if_pos c6] at H
    have c6b0 : decide ((ji4) < (t164.length : Int)) = true := decide_eq_true c6
    clear c6
    by_cases c7 : 0 < ((rd_L2 t164 (ji4)).length : Int)
    ·rw [if_pos c7] at H
     have c7b0 : decide (0 < ((rd_L2 t164 (ji4)).length : Int)) = true := decide_eq_true c7
     have c7b1 : decide (0 < (rd_L2 t164 (ji4)).length) = true := decide_eq_true (by omega)
     clear c7
     obtain rfl := Option.some.inj H
     go_enter Tryd.func17, Tryd.ntmps17
     go_wp2_with (first | ((with_reducible refine gate_callee (f := 55) rfl ?_); refine goesL_ (some 8) rfl rfl Tryd.func55 (by kernel_rfl) rfl #[.slice A0 l0.length c0] rfl (by (try simp only [List.map_toArray, List.map_cons, List.map_nil]); first | done | rfl | (simp only [List.length_drop, List.length_take]; rfl)) ?_; (with_reducible refine (impl_levelsOfTree.calls k _ _ l0 t164 _ ?side1 ?side2 (Kp.Tab.below HT.out (bZ HB)) A3.out).mono ?_); (case side1 => repeat (first | exact HR0.out | (with_reducible refine Kd.C_alloc ?_ _) | (with_reducible refine Kd.C_drewN ?_ _) | (with_reducible refine Kd.C_drew ?_))); (case side2 => exact HC0.out); rintro e w8 ⟨v165, rfl, ho0, hb⟩; refine ⟨_, rfl, ?_⟩; have HO166 := Aside0.mk (Kd.S_lower ho0 (below_size (bZ HB))); replace HB := bS HB hb; (try clear hb); (try clear hb2); (try clear hk); (try clear hi); (try clear ho0); obtain ⟨Ao9, co9, eo9⟩ := Kd.S_slice HO166.out; subst eo9; have p167 : 0 ≤ ((ji4) : Int) := of_decide_eq_true (by first | (with_reducible assumption) | assumption); have q167 : (ji4) < (t164.length : Int) := of_decide_eq_true (by first | (with_reducible assumption) | assumption); obtain ⟨ad167, A167_0, c167_0, e167, hx167_0, hl167_0, hi167_0⟩ := at_L2 (Kd.S_reads' HO166.out).2.2 (ji4) p167 q167; cases e167; obtain ⟨ce167, hce167, hMe167, hcc167⟩ := Kd.S_get HO166.out [] (ji4) p167 (by first | exact q167 | exact of_decide_eq_true (by first | (with_reducible assumption) | assumption) | (have e_ := (Kd.S_reads' HO166.out).1; omega)); obtain ⟨ve167_0, rfl, ge167_0⟩ := hMe167; have hv167_0 := hcc167 0 _ rfl; rw [Nat.add_zero, show ((Kd.slice 9 Kd.string)).sz = 1 from rfl, Nat.mul_one] at hv167_0; replace hv167_0 := Option.some.inj (hv167_0.symm.trans hx167_0); rw [hv167_0] at ge167_0; have HL167_0 := Aside0.mk (show Kd.R Kd.string 9 _ _ _ _ (rd_L2 t164 (ji4)) from ge167_0); clear hv167_0 ge167_0; clear hcc167 hce167; have HR167_0 := Aside0.mk hi167_0; have HC167_0 := Aside0.mk hl167_0; clear hi167_0 hl167_0; replace p167 := eq_true p167; replace q167 := eq_true q167; have p168 : 0 ≤ (0 : Int) := (by omega); have q168 : 0 < ((rd_L2 t164 (ji4)).length : Int) := of_decide_eq_true (by first | (with_reducible assumption) | assumption); obtain ⟨ad168, e168, hx168_0⟩ := Kd.at_string (by repeat (first | (with_reducible exact HR167_0.out) | (with_reducible refine Kd.C_alloc ?_ _) | (with_reducible refine Kd.C_drewN ?_ _) | (with_reducible refine Kd.C_drew ?_) | exact HR167_0.out)) 0 p168 q168; cases e168; have qi168 : (0 < (rd_L2 t164 (ji4)).length) = True := eq_true (by omega); (try rw [show ((0 : Int)).toNat = 0 from rfl] at hx168_0); (try rw [Addr.add_zero'] at hx168_0); replace p168 := eq_true p168; replace q168 := eq_true q168))
     go_ret
     exact ⟨by first | rfl | (simp [errW_none, errW_some] <;> rfl) | (simp only [← hji4]; first | rfl | (simp [errW_none, errW_some] <;> rfl)) | (simp [*, errW_none, errW_some] <;> rfl), bZ HB⟩
    ·rw [if_neg c7] at H
     exact absurd H (by simp)
   ·rw [if_neg c6] at H
    exact absurd H (by simp)
  ·rw [if_neg c5] at H
   exact absurd H (by simp)
/-! ### spec_RootOf: function 16 -/
def spec_RootOf.l0 : Nat → List ByteArray → Option (ByteArray)
 | 0, _ => none
 | k + 1, x3 => if (x3.length : Int) > 1 then ((spec_l10Up.f k x3).bind fun t160 => (spec_RootOf.l0 k t160)) else (if 0 < (x3.length : Int) then (some (rdOf ByteArray.empty x3 0)) else (none))
def spec_RootOf.f (k : Nat) (l0 : List ByteArray) : Option (ByteArray) := if (l0.length : Int) > 32 then (some (⟨#[]⟩ : ByteArray)) else ((spec_l10Hashes.f k l0).bind fun t157 => (spec_RootOf.l0 k t157))
theorem spec_RootOf.mono_l : ∀ k, (∀ y0, LeO (spec_RootOf.l0 k y0) (spec_RootOf.l0 (k + 1) y0))
 | 0 => fun _ r h => by simp [spec_RootOf.l0] at h
 | k + 1 => by
  have ih0 := spec_RootOf.mono_l k
  ·intro y0
   unfold spec_RootOf.l0
   repeat' first
   | (with_reducible exact ih0 _)
   | (with_reducible exact spec_l10Hashes.mono _ _)
   | (with_reducible exact spec_l10Up.mono _ _)
   | (with_reducible exact LeO.refl _)
   | (with_reducible exact LeO.none _)
   | (with_reducible refine LeO.ite ?_ ?_)
   | (with_reducible refine LeO.bind ?_ (fun _ => ?_))
   | exact ih0 _
   | exact spec_l10Hashes.mono _ _
   | exact spec_l10Up.mono _ _
   | exact LeO.none _
   | refine LeO.ite ?_ ?_
   | refine LeO.bind ?_ (fun _ => ?_)
theorem spec_RootOf.mono : ∀ a0 k, LeO (spec_RootOf.f k a0) (spec_RootOf.f (k + 1) a0) := by
 intro a0 k
 have ih0 := spec_RootOf.mono_l k
 unfold spec_RootOf.f
 repeat' first
   | (with_reducible exact ih0 _)
   | (with_reducible exact spec_l10Hashes.mono _ _)
   | (with_reducible exact spec_l10Up.mono _ _)
   | (with_reducible exact LeO.refl _)
   | (with_reducible exact LeO.none _)
   | (with_reducible refine LeO.ite ?_ ?_)
   | (with_reducible refine LeO.bind ?_ (fun _ => ?_))
   | exact ih0 _
   | exact spec_l10Hashes.mono _ _
   | exact spec_l10Up.mono _ _
   | exact LeO.none _
   | refine LeO.ite ?_ ?_
   | refine LeO.bind ?_ (fun _ => ?_)
set_option maxHeartbeats 8000000 in
set_option maxRecDepth 100000 in
theorem spec_RootOf.calls (k : Nat) (A0 : Option Addr) (c0 : Nat) (l0 : List ByteArray) (r : ByteArray) (w : World) (hr0 : Kd.C Kd.string w A0 l0.length l0) (hc0 : l0.length ≤ c0) (h : spec_RootOf.f k l0 = some r) :
  Calls Tryd.prog 16 #[.slice A0 l0.length c0] w fun e w' => e = .returned (.string r) ∧ Below w.heap.size w w' := by
 have HR0 := Aside0.mk hr0
 have HC0 := Aside0.mk hc0
 clear hr0 hc0
 have HB := Aside0.mk (Below.refl w.heap.size w)
 have H : (if (l0.length : Int) > 32 then (some (⟨#[]⟩ : ByteArray)) else ((spec_l10Hashes.f k l0).bind fun t157 => (spec_RootOf.l0 k t157))) = some r := h
 clear h
 by_cases c2 : (l0.length : Int) > 32
 ·rw [if_pos c2] at H
  have c2b0 : decide (32 < (l0.length : Int)) = true := decide_eq_true c2
  have c2b1 : decide (32 < l0.length) = true := decide_eq_true (by omega)
  clear c2
  obtain rfl := Option.some.inj H
  go_enter Tryd.func16, Tryd.ntmps16
  go_wp2
  go_ret
  exact ⟨by first | rfl | (simp [errW_none, errW_some] <;> rfl) | (simp [*, errW_none, errW_some] <;> rfl), bZ HB⟩
 ·rw [if_neg c2] at H
  have c2b0 : decide (32 < (l0.length : Int)) = false := decide_eq_false c2
  have c2b1 : decide (32 < l0.length) = false := decide_eq_false (by omega)
  clear c2
  replace H := Option.bind_eq_some_iff.mp H
  obtain ⟨t157, A30, H⟩ := H
  replace H : (spec_RootOf.l0 k t157) = some r := H
  have A3 := Aside0.mk A30
  clear A30
  have H' := Aside0.mk H
  clear H
  go_enter Tryd.func16, Tryd.ntmps16
  go_wp2_with (first | ((with_reducible refine gate_callee (f := 53) rfl ?_); refine goesL_ (some 8) rfl rfl Tryd.func53 (by kernel_rfl) rfl #[.slice A0 l0.length c0] rfl (by (try simp only [List.map_toArray, List.map_cons, List.map_nil]); first | done | rfl | (simp only [List.length_drop, List.length_take]; rfl)) ?_; (with_reducible refine (spec_l10Hashes.calls k _ _ l0 t157 _ ?side1 ?side2 A3.out).mono ?_); (case side1 => repeat (first | exact HR0.out | (with_reducible refine Kd.C_alloc ?_ _) | (with_reducible refine Kd.C_drewN ?_ _) | (with_reducible refine Kd.C_drew ?_))); (case side2 => exact HC0.out); rintro e w4 ⟨v158, rfl, ho0, hb⟩; refine ⟨_, rfl, ?_⟩; have HO159 := Aside0.mk (Kd.R_lower ho0 (below_size (bZ HB))); replace HB := bS HB hb; (try clear hb); (try clear hb2); (try clear hk); (try clear hi); (try clear ho0)))
  go_loopg [3] k (fun kq v3 w' => ∃ (x3_1 : List ByteArray), Aside0 (spec_RootOf.l0 kq x3_1 = some r) ∧ Aside0 (kq ≤ k) ∧ Aside0 (Kd.R Kd.string 9 w' w.heap.size (fun _ => True) v3 x3_1) ∧ Aside0 (Below w.heap.size w w'))
  case atStart => exact ⟨(t157), H', ⟨Nat.le_refl _⟩, ⟨by (with_reducible repeat (first | apply Kd.R_alloc | apply Kd.R_drewN | apply Kd.R_drew)); exact HO159.out⟩, ⟨bZ HB⟩⟩
  case round =>
   clear H'
   try clear c1
   try clear c2
   try clear c2b0
   try clear c2b1
   try clear p2
   obtain ⟨x3_1, HA, HK1, HO_3, HB⟩ := hrel
   cases gk with
   | zero => exact absurd HA.out (by simp [spec_RootOf.l0])
   | succ k1 =>
    have H := HA.out
    clear HA
    simp only [spec_RootOf.l0] at H
    by_cases c5 : (x3_1.length : Int) > 1
    ·rw [if_pos c5] at H
     have c5b0 : decide (1 < (x3_1.length : Int)) = true := decide_eq_true c5
     have c5b1 : decide (1 < x3_1.length) = true := decide_eq_true (by omega)
     clear c5
     replace H := Option.bind_eq_some_iff.mp H
     obtain ⟨t160, A60, H⟩ := H
     replace H : (spec_RootOf.l0 k1 t160) = some r := H
     have A6 := Aside0.mk A60
     clear A60
     have H' := Aside0.mk H
     clear H
     obtain ⟨Ao7, co7, eo7⟩ := Kd.R_slice HO_3.out
     subst eo7
     go_wp2_with (first | ((with_reducible refine gate_callee (f := 54) rfl ?_); refine goesL_ (some 13) rfl rfl Tryd.func54 (by kernel_rfl) rfl #[.slice Ao7 x3_1.length co7] rfl (by (try simp only [List.map_toArray, List.map_cons, List.map_nil]); first | done | rfl | (simp only [List.length_drop, List.length_take]; rfl)) ?_; (with_reducible refine (spec_l10Up.calls k1 _ _ x3_1 t160 _ ?side1 ?side2 A6.out).mono ?_); (case side1 => repeat (first | exact (Kd.R_reads' HO_3.out).2.2 | (with_reducible refine Kd.C_alloc ?_ _) | (with_reducible refine Kd.C_drewN ?_ _) | (with_reducible refine Kd.C_drew ?_))); (case side2 => exact (Kd.R_reads' HO_3.out).2.1); rintro e w8 ⟨v161, rfl, ho0, hb⟩; refine ⟨_, rfl, ?_⟩; have HO162 := Aside0.mk (Kd.R_lower (Kd.R_new' ho0 (Kd.R_lt (by (with_reducible repeat (first | apply Kd.R_alloc | apply Kd.R_drewN | apply Kd.R_drew)); exact HO_3.out))) (below_size (bZ HB))); replace HO_3 := Aside0.mk (Kd.R_elder' (by (with_reducible repeat (first | apply Kd.R_alloc | apply Kd.R_drewN | apply Kd.R_drew)); exact HO_3.out) (Kd.R_base ho0) hb); replace HB := bS HB hb; (try clear hb); (try clear hb2); (try clear hk); (try clear hi); (try clear ho0)))
     go_roundg k1
     case measure => have := HK1.out; omega
     case rel => exact ⟨(t160), H', ⟨by have := HK1.out; omega⟩, ⟨by (with_reducible repeat (first | apply Kd.R_alloc | apply Kd.R_drewN | apply Kd.R_drew)); exact Kd.R_mono HO162.out (fun _ hk => trivial)⟩, ⟨bZ HB⟩⟩
    ·rw [if_neg c5] at H
     have c5b0 : decide (1 < (x3_1.length : Int)) = false := decide_eq_false c5
     have c5b1 : decide (1 < x3_1.length) = false := decide_eq_false (by omega)
     clear c5
     by_cases c9 : 0 < (x3_1.length : Int)
     ·rw [if_pos c9] at H
      have c9b0 : decide (0 < (x3_1.length : Int)) = true := decide_eq_true c9
      have c9b1 : decide (0 < x3_1.length) = true := decide_eq_true (by omega)
      clear c9
      obtain rfl := Option.some.inj H
      obtain ⟨Ao10, co10, eo10⟩ := Kd.R_slice HO_3.out
      subst eo10
      have p163 : 0 ≤ (0 : Int) := (by omega)
      have q163 : 0 < (x3_1.length : Int) := of_decide_eq_true (by first | (with_reducible assumption) | assumption)
      obtain ⟨ad163, e163, hx163_0⟩ := Kd.at_string (Kd.R_reads' HO_3.out).2.2 0 p163 q163
      cases e163
      have qi163 : (0 < x3_1.length) = True := eq_true (by omega)
      (try rw [show ((0 : Int)).toNat = 0 from rfl] at hx163_0)
      (try rw [Addr.add_zero'] at hx163_0)
      replace p163 := eq_true p163
      replace q163 := eq_true q163
      go_wp2
      go_ret
      exact ⟨by first | rfl | (simp [errW_none, errW_some] <;> rfl) | (simp [*, errW_none, errW_some] <;> rfl), bZ HB⟩
     ·rw [if_neg c9] at H
      exact absurd H (by simp)
end Go.Proofs.YtmiiknkfhiecgaaDoor.Pf
end
section
namespace Go.Proofs.YtmiiknkfhiecgaaDoor.Pf
open Go.RowKit Go.Proofs.YtmiiknkfhiecgaaDoorW.PrintWords Go.Proofs.YtmiiknkfhiecgaaDoorW.PrintLast Go.Proofs.YtmiiknkfhiecgaaDoorW.PrintMore
attribute [local go_sem] max2_int min2_int max_two min_two max_three min_three max_four min_four   -- for this text's walks alone
set_option linter.unusedVariables false
set_option linter.unusedSimpArgs false

/-! ### impl_FoldBranch: function 14 -/
mutual
def impl_FoldBranch.j0 : Nat → ByteArray → Int → List ByteArray → Bool → Option (ByteArray)
 | 0, _, _, _, _ => none
 | k + 1, x0, x1, x2, x24 => if x24 = true then (some (⟨#[]⟩ : ByteArray)) else ((impl_Digest.f x0).bind fun t115 => (impl_FoldBranch.l0 k x1 t115 x2 (x2.length : Int) 0))
def impl_FoldBranch.l0 : Nat → Int → ByteArray → List ByteArray → Int → Int → Option (ByteArray)
 | 0, _, _, _, _, _ => none
 | k + 1, x1, x7, x27, x28, x29 => if x29 < x28 then (if 0 ≤ x29 then (if x29 < (x27.length : Int) then (if 0 ≤ (IntKind.u64.wrap (x29)) then (if (Go.bits .and .i64 (shr .i64 x1 (IntKind.u64.wrap (x29))) 1) = 1 then ((impl_DigestPair.f (rdOf ByteArray.empty x27 x29) x7).bind fun t117 => (impl_FoldBranch.l0 k x1 t117 x27 x28 (wrap64 (x29 + 1)))) else ((impl_DigestPair.f x7 (rdOf ByteArray.empty x27 x29)).bind fun t118 => (impl_FoldBranch.l0 k x1 t118 x27 x28 (wrap64 (x29 + 1))))) else (none)) else (none)) else (none)) else (some x7)
end
def impl_FoldBranch.f (k : Nat) (a0 : ByteArray) (a1 : Int) (l2 : List ByteArray) : Option (ByteArray) := if (l2.length : Int) > 5 then (impl_FoldBranch.j0 k a0 a1 l2 true) else (if a1 < 0 then (impl_FoldBranch.j0 k a0 a1 l2 true) else (if 0 ≤ (IntKind.u64.wrap ((l2.length : Int))) then (impl_FoldBranch.j0 k a0 a1 l2 (decide (a1 ≥ (shl .i64 1 (IntKind.u64.wrap ((l2.length : Int))))))) else (none)))
theorem impl_FoldBranch.mono_l : ∀ k, (∀ y0 y1 y2 y3, LeO (impl_FoldBranch.j0 k y0 y1 y2 y3) (impl_FoldBranch.j0 (k + 1) y0 y1 y2 y3)) ∧ (∀ y0 y1 y2 y3 y4, LeO (impl_FoldBranch.l0 k y0 y1 y2 y3 y4) (impl_FoldBranch.l0 (k + 1) y0 y1 y2 y3 y4))
 | 0 => ⟨fun _ _ _ _ r h => by simp [impl_FoldBranch.j0] at h, fun _ _ _ _ _ r h => by simp [impl_FoldBranch.l0] at h⟩
 | k + 1 => by
  obtain ⟨ih0, ih1⟩ := impl_FoldBranch.mono_l k
  refine ⟨?_, ?_⟩
  ·intro y0 y1 y2 y3
   unfold impl_FoldBranch.j0
   repeat' first
   | (with_reducible exact ih0 _ _ _ _)
   | (with_reducible exact ih1 _ _ _ _ _)
   | (with_reducible exact LeO.refl _)
   | (with_reducible exact LeO.none _)
   | (with_reducible refine LeO.ite ?_ ?_)
   | (with_reducible refine LeO.bind ?_ (fun _ => ?_))
   | exact ih0 _ _ _ _
   | exact ih1 _ _ _ _ _
   | exact LeO.none _
   | refine LeO.ite ?_ ?_
   | refine LeO.bind ?_ (fun _ => ?_)
  ·intro y0 y1 y2 y3 y4
   unfold impl_FoldBranch.l0
   repeat' first
   | (with_reducible exact ih0 _ _ _ _)
   | (with_reducible exact ih1 _ _ _ _ _)
   | (with_reducible exact LeO.refl _)
   | (with_reducible exact LeO.none _)
   | (with_reducible refine LeO.ite ?_ ?_)
   | (with_reducible refine LeO.bind ?_ (fun _ => ?_))
   | exact ih0 _ _ _ _
   | exact ih1 _ _ _ _ _
   | exact LeO.none _
   | refine LeO.ite ?_ ?_
   | refine LeO.bind ?_ (fun _ => ?_)
theorem impl_FoldBranch.mono : ∀ a0 a1 a2 k, LeO (impl_FoldBranch.f k a0 a1 a2) (impl_FoldBranch.f (k + 1) a0 a1 a2) := by
 intro a0 a1 a2 k
 obtain ⟨ih0, ih1⟩ := impl_FoldBranch.mono_l k
 unfold impl_FoldBranch.f
 repeat' first
   | (with_reducible exact ih0 _ _ _ _)
   | (with_reducible exact ih1 _ _ _ _ _)
   | (with_reducible exact LeO.refl _)
   | (with_reducible exact LeO.none _)
   | (with_reducible refine LeO.ite ?_ ?_)
   | (with_reducible refine LeO.bind ?_ (fun _ => ?_))
   | exact ih0 _ _ _ _
   | exact ih1 _ _ _ _ _
   | exact LeO.none _
   | refine LeO.ite ?_ ?_
   | refine LeO.bind ?_ (fun _ => ?_)
set_option maxHeartbeats 8000000 in
set_option maxRecDepth 100000 in
theorem impl_FoldBranch.calls (k : Nat) (a0 : ByteArray) (a1 : Int) (A2 : Option Addr) (c2 : Nat) (l2 : List ByteArray) (r : ByteArray) (w : World) (hr2 : Kd.C Kd.string w A2 l2.length l2) (hc2 : l2.length ≤ c2) (hT : Kp.Tab w) (h : impl_FoldBranch.f k a0 a1 l2 = some r) :
  Calls Tryd.prog 14 #[.string a0, .int .i64 a1, .slice A2 l2.length c2] w fun e w' => e = .returned (.string r) ∧ Below w.heap.size w w' := by
 have HT := Aside0.mk hT
 clear hT
 have HR2 := Aside0.mk hr2
 have HC2 := Aside0.mk hc2
 clear hr2 hc2
 have HB := Aside0.mk (Below.refl w.heap.size w)
 have H : (if (l2.length : Int) > 5 then (impl_FoldBranch.j0 k a0 a1 l2 true) else (if a1 < 0 then (impl_FoldBranch.j0 k a0 a1 l2 true) else (if 0 ≤ (IntKind.u64.wrap ((l2.length : Int))) then (impl_FoldBranch.j0 k a0 a1 l2 (decide (a1 ≥ (shl .i64 1 (IntKind.u64.wrap ((l2.length : Int))))))) else (none)))) = some r := h
 clear h
 have HC4 := Aside0.mk H
 clear H
 go_enter Tryd.func14, Tryd.ntmps14
 go_upto_region 1 with (fail)
 go_cut [24] (fun v24 wc => ∃ (kq : Nat) (x24_3 : Bool), v24 = .bool x24_3 ∧ Aside0 (impl_FoldBranch.j0 kq a0 a1 l2 x24_3 = some r) ∧ Aside0 (kq ≤ k) ∧ Aside0 (Below w.heap.size w wc))
 case first =>
  have H := HC4.out
  clear HC4
  by_cases c5 : (l2.length : Int) > 5
  ·rw [if_pos c5] at H
   have c5b0 : decide (5 < (l2.length : Int)) = true := decide_eq_true c5
   have c5b1 : decide (5 < l2.length) = true := decide_eq_true (by omega)
   clear c5
   (first | rw [c5b0] | (simp only [i64_w, i32_w]; rw [c5b0]) | rw [c5b1] | skip)
   have H' := Aside0.mk H
   clear H
   go_wp2
   go_meet
   case rel => exact ⟨_, (true), (by first | rfl | (simp; done) | (simp [*]; done)), H', ⟨by first | omega | exact Nat.le_refl _⟩, ⟨bZ HB⟩⟩
  ·rw [if_neg c5] at H
   have c5b0 : decide (5 < (l2.length : Int)) = false := decide_eq_false c5
   have c5b1 : decide (5 < l2.length) = false := decide_eq_false (by omega)
   clear c5
   (first | rw [c5b0] | (simp only [i64_w, i32_w]; rw [c5b0]) | rw [c5b1] | skip)
   by_cases c6 : a1 < 0
   ·rw [if_pos c6] at H
    have c6b0 : decide (a1 < 0) = true := decide_eq_true c6
    clear c6
    have H' := Aside0.mk H
    clear H
    go_wp2
    go_meet
    case rel => exact ⟨_, (true), (by first | rfl | (simp; done) | (simp [*]; done)), H', ⟨by first | omega | exact Nat.le_refl _⟩, ⟨bZ HB⟩⟩
   ·rw [if_neg c6] at H
    have c6b0 : decide (a1 < 0) = false := decide_eq_false c6
    clear c6
    obtain ⟨ji7, hji7⟩ : ∃ j_ : Int, (IntKind.u64.wrap ((l2.length : Int))) = j_ := ⟨_, rfl⟩
    replace H : (if 0 ≤ (ji7) then (impl_FoldBranch.j0 k a0 a1 l2 (decide (a1 ≥ (shl .i64 1 (ji7))))) else (none)) = some r := by first | (rw [hji7] at H; exact H) | (simp only [hji7] at H ⊢; exact H)
    by_cases c8 : 0 ≤ (ji7)
    ·rw [if_pos c8] at H
     have c8b0 := eq_true c8
     have c8b1 : decide (0 ≤ (ji7)) = true := decide_eq_true c8
     clear c8
     obtain ⟨ji9, hji9⟩ : ∃ j_ : Int, (shl .i64 1 (ji7)) = j_ := ⟨_, rfl⟩
     replace H : (impl_FoldBranch.j0 k a0 a1 l2 (decide (a1 ≥ (ji9)))) = some r := by first | (rw [hji9] at H; exact H) | (simp only [hji9] at H ⊢; exact H)
     have hji9_ : (IntKind.i64.wrap (1 * 2 ^ min (ji7).toNat 64)) = ji9 := hji9
     have hji9z : (ji7) ≤ 64 → (IntKind.i64.wrap (1 * 2 ^ (ji7).toNat)) = ji9 := shl_small hji9
     have hji9u : (IntKind.i64.wrap (2 ^ min (ji7).toNat 64)) = ji9 := by have h_ := hji9_; rw [Int.one_mul] at h_; exact h_
     have hji9v : (ji7) ≤ 64 → (IntKind.i64.wrap (2 ^ (ji7).toNat)) = ji9 := fun hle_ => by have h_ := hji9z hle_; rw [Int.one_mul] at h_; exact h_
     have hji9y : (wrap64 (1 * 2 ^ min (ji7).toNat 64)) = ji9 := (i64_w _).symm.trans hji9_
     have hji9x : (ji7) ≤ 64 → (wrap64 (1 * 2 ^ (ji7).toNat)) = ji9 := fun h_ => (i64_w _).symm.trans (hji9z h_)
     have H' := Aside0.mk H
     clear H
     go_wp2
     go_meet
     case rel => exact ⟨_, (decide (a1 ≥ (ji9))), (by first | rfl | (simp; done) | (simp only [← hji9] <;> (first | rfl | simp)) | (simp [*]; done)), H', ⟨by first | omega | exact Nat.le_refl _⟩, ⟨bZ HB⟩⟩
    ·rw [if_neg c8] at H
     exact absurd H (by simp)
 case rest =>
  clear HC4
  try clear c1
  try clear c2
  try clear p2
  try clear c5
  try clear c5b0
  try clear c5b1
  try clear c6
  try clear c6b0
  try clear p6
  try clear c8
  try clear c8b0
  try clear c8b1
  obtain ⟨kq, x24_3, rfl, HA, HJ3, HB⟩ := hcut
  cases kq with
  | zero => exact absurd HA.out (by simp [impl_FoldBranch.j0])
  | succ kj3 =>
   have H := HA.out
   clear HA
   simp only [impl_FoldBranch.j0] at H
   by_cases c10 : x24_3 = true
   ·subst c10
    have H1 : (some (⟨#[]⟩ : ByteArray)) = some r := by rw [if_pos rfl] at H; exact H
    clear H
    have H := H1
    clear H1
    obtain rfl := Option.some.inj H
    go_wp2
    go_ret
    exact ⟨by first | rfl | (simp [errW_none, errW_some] <;> rfl) | (simp [*, errW_none, errW_some] <;> rfl), bZ HB⟩
   ·replace c10 := Bool.eq_false_iff.mpr c10
    subst c10
    have H1 : ((impl_Digest.f a0).bind fun t115 => (impl_FoldBranch.l0 kj3 a1 t115 l2 (l2.length : Int) 0)) = some r := by rw [if_neg (show ¬ (false = true) by decide)] at H; exact H
    clear H
    have H := H1
    clear H1
    replace H := Option.bind_eq_some_iff.mp H
    obtain ⟨t115, A110, H⟩ := H
    replace H : (impl_FoldBranch.l0 kj3 a1 t115 l2 (l2.length : Int) 0) = some r := H
    have A11 := Aside0.mk A110
    clear A110
    have H' := Aside0.mk H
    clear H
    go_wp2_with (first | ((with_reducible refine gate_callee (f := 51) rfl ?_); refine goesL_ (some 26) rfl rfl Tryd.func51 (by kernel_rfl) rfl #[.string a0] rfl (by (try simp only [List.map_toArray, List.map_cons, List.map_nil]); first | done | rfl | (simp only [List.length_drop, List.length_take]; rfl)) ?_; (with_reducible refine (impl_Digest.calls a0 t115 _ (Kp.Tab.below HT.out (bZ HB)) A11.out).mono ?_); rintro e w12 ⟨rfl, hb⟩; refine ⟨_, rfl, ?_⟩; replace HB := bS HB hb; (try clear hb); (try clear hb2); (try clear hk); (try clear hi)))
    go_loopg [7, 29] kj3 (fun kq v7 v29 w' => ∃ (x7_2 : ByteArray) (x29_2 : Int), v7 = .string x7_2 ∧ v29 = .int .i64 x29_2 ∧ Aside0 (impl_FoldBranch.l0 kq a1 x7_2 l2 (l2.length : Int) x29_2 = some r) ∧ Aside0 (kq ≤ kj3) ∧ Aside0 (Below w.heap.size w w'))
    case atStart => exact ⟨(t115), (0), (by first | rfl | (simp; done) | (simp [*]; done)), (by first | rfl | (simp; done) | (simp [*]; done)), H', ⟨Nat.le_refl _⟩, ⟨bZ HB⟩⟩
    case round =>
     clear H'
     try clear c1
     try clear c2
     try clear p2
     try clear c5
     try clear c5b0
     try clear c5b1
     try clear c6
     try clear c6b0
     try clear p6
     try clear c8
     try clear c8b0
     try clear c8b1
     try clear c10
     try clear p2
     try clear p6
     obtain ⟨x7_2, x29_2, rfl, rfl, HA, HK2, HB⟩ := hrel
     cases gk with
     | zero => exact absurd HA.out (by simp [impl_FoldBranch.l0])
     | succ k2 =>
      have H := HA.out
      clear HA
      simp only [impl_FoldBranch.l0] at H
      by_cases c13 : x29_2 < (l2.length : Int)
      ·rw [if_pos c13] at H
       have c13b0 : decide (x29_2 < (l2.length : Int)) = true := decide_eq_true c13
       clear c13
       by_cases c14 : 0 ≤ x29_2
       ·rw [if_pos c14] at H
        have c14b0 : decide (0 ≤ x29_2) = true := decide_eq_true c14
        clear c14
        by_cases c15 : x29_2 < (l2.length : Int)
        ·rw [if_pos c15] at H
         have c15b0 : decide (x29_2 < (l2.length : Int)) = true := decide_eq_true c15
         clear c15
         obtain ⟨ji16, hji16⟩ : ∃ j_ : Int, (IntKind.u64.wrap (x29_2)) = j_ := ⟨_, rfl⟩
         replace H : (if 0 ≤ (ji16) then (if (Go.bits .and .i64 (shr .i64 a1 (ji16)) 1) = 1 then ((impl_DigestPair.f (rdOf ByteArray.empty l2 x29_2) x7_2).bind fun t117 => (impl_FoldBranch.l0 k2 a1 t117 l2 (l2.length : Int) (wrap64 (x29_2 + 1)))) else ((impl_DigestPair.f x7_2 (rdOf ByteArray.empty l2 x29_2)).bind fun t118 => (impl_FoldBranch.l0 k2 a1 t118 l2 (l2.length : Int) (wrap64 (x29_2 + 1))))) else (none)) = some r := by first | (rw [hji16] at H; exact H) | (simp only [hji16] at H ⊢; exact H)
         by_cases c17 : 0 ≤ (ji16)
         ·rw [if_pos c17] at H
          have c17b0 := eq_true c17
          have c17b1 : decide (0 ≤ (ji16)) = true := decide_eq_true c17
          clear c17
          obtain ⟨ji18, hji18⟩ : ∃ j_ : Int, (shr .i64 a1 (ji16)) = j_ := ⟨_, rfl⟩
          replace H : (if (Go.bits .and .i64 (ji18) 1) = 1 then ((impl_DigestPair.f (rdOf ByteArray.empty l2 x29_2) x7_2).bind fun t117 => (impl_FoldBranch.l0 k2 a1 t117 l2 (l2.length : Int) (wrap64 (x29_2 + 1)))) else ((impl_DigestPair.f x7_2 (rdOf ByteArray.empty l2 x29_2)).bind fun t118 => (impl_FoldBranch.l0 k2 a1 t118 l2 (l2.length : Int) (wrap64 (x29_2 + 1))))) = some r := by first | (rw [hji18] at H; exact H) | (simp only [hji18] at H ⊢; exact H)
          have hji18_ : (a1 / 2 ^ min (ji16).toNat 64) = ji18 := hji18
          have hji18z : (ji16) ≤ 64 → (a1 / 2 ^ (ji16).toNat) = ji18 := shr_small hji18
          by_cases c19 : (Go.bits .and .i64 (ji18) 1) = 1
          ·rw [if_pos c19] at H
           have c19b0 : ((Go.bits .and .i64 (ji18) 1) == 1) = true := beq_iff_eq.mpr c19
           have c19b1 : ((Go.bits .and .i64 (ji18) 1) != 1) = false := bne_eq_false_iff_eq.mpr c19
           clear c19
           replace H := Option.bind_eq_some_iff.mp H
           obtain ⟨t117, A200, H⟩ := H
           replace H : (impl_FoldBranch.l0 k2 a1 t117 l2 (l2.length : Int) (wrap64 (x29_2 + 1))) = some r := H
           have A20 := Aside0.mk A200
           clear A200
           have H' := Aside0.mk H
           clear H
           have p116 : 0 ≤ (x29_2 : Int) := of_decide_eq_true (by first | (with_reducible assumption) | assumption)
           have q116 : x29_2 < (l2.length : Int) := of_decide_eq_true (by first | (with_reducible assumption) | assumption)
           obtain ⟨ad116, e116, hx116_0⟩ := Kd.at_string HR2.out x29_2 p116 q116
           cases e116
           replace hx116_0 := (HB.out.cell (World.block_lt_of_cell? w _ hx116_0)).trans hx116_0
           replace p116 := eq_true p116
           replace q116 := eq_true q116
           go_wp2_with (first | ((with_reducible refine gate_callee (f := 52) rfl ?_); refine goesL_ (some 42) rfl rfl Tryd.func52 (by kernel_rfl) rfl #[.string (rdOf ByteArray.empty l2 x29_2), .string x7_2] rfl (by (try simp only [List.map_toArray, List.map_cons, List.map_nil]); first | done | rfl | (simp only [List.length_drop, List.length_take]; rfl)) ?_; (with_reducible refine (impl_DigestPair.calls (rdOf ByteArray.empty l2 x29_2) x7_2 t117 _ (Kp.Tab.below HT.out (bZ HB)) A20.out).mono ?_); rintro e w21 ⟨rfl, hb⟩; refine ⟨_, rfl, ?_⟩; replace HB := bS HB hb; (try clear hb); (try clear hb2); (try clear hk); (try clear hi)))
           go_roundg k2
           case measure => have := HJ3.out; have := HK2.out; omega
           case rel => exact ⟨(t117), (wrap64 (x29_2 + 1)), (by first | rfl | (simp; done) | (simp [*]; done)), (by first | rfl | (simp; done) | (simp [*]; done)), H', ⟨by have := HJ3.out; have := HK2.out; omega⟩, ⟨bZ HB⟩⟩
          ·rw [if_neg c19] at H
           have c19b0 : ((Go.bits .and .i64 (ji18) 1) == 1) = false := beq_eq_false_iff_ne.mpr c19
           have c19b1 : ((Go.bits .and .i64 (ji18) 1) != 1) = true := bne_iff_ne.mpr c19
           replace H := Option.bind_eq_some_iff.mp H
           obtain ⟨t118, A220, H⟩ := H
           replace H : (impl_FoldBranch.l0 k2 a1 t118 l2 (l2.length : Int) (wrap64 (x29_2 + 1))) = some r := H
           have A22 := Aside0.mk A220
           clear A220
           have H' := Aside0.mk H
           clear H
           have p116 : 0 ≤ (x29_2 : Int) := of_decide_eq_true (by first | (with_reducible assumption) | assumption)
           have q116 : x29_2 < (l2.length : Int) := of_decide_eq_true (by first | (with_reducible assumption) | assumption)
           obtain ⟨ad116, e116, hx116_0⟩ := Kd.at_string HR2.out x29_2 p116 q116
           cases e116
           replace hx116_0 := (HB.out.cell (World.block_lt_of_cell? w _ hx116_0)).trans hx116_0
           replace p116 := eq_true p116
           replace q116 := eq_true q116
           go_wp2_with (first | ((with_reducible refine gate_callee (f := 52) rfl ?_); refine goesL_ (some 45) rfl rfl Tryd.func52 (by kernel_rfl) rfl #[.string x7_2, .string (rdOf ByteArray.empty l2 x29_2)] rfl (by (try simp only [List.map_toArray, List.map_cons, List.map_nil]); first | done | rfl | (simp only [List.length_drop, List.length_take]; rfl)) ?_; (with_reducible refine (impl_DigestPair.calls x7_2 (rdOf ByteArray.empty l2 x29_2) t118 _ (Kp.Tab.below HT.out (bZ HB)) A22.out).mono ?_); rintro e w23 ⟨rfl, hb⟩; refine ⟨_, rfl, ?_⟩; replace HB := bS HB hb; (try clear hb); (try clear hb2); (try clear hk); (try clear hi)))
           go_roundg k2
           case measure => have := HJ3.out; have := HK2.out; omega
           case rel => exact ⟨(t118), (wrap64 (x29_2 + 1)), (by first | rfl | (simp; done) | (simp [*]; done)), (by first | rfl | (simp; done) | (simp [*]; done)), H', ⟨by have := HJ3.out; have := HK2.out; omega⟩, ⟨bZ HB⟩⟩
         ·rw [if_neg c17] at H
          exact absurd H (by simp)
        ·rw [if_neg c15] at H
         exact absurd H (by simp)
       ·rw [if_neg c14] at H
        exact absurd H (by simp)
      ·rw [if_neg c13] at H
       have c13b0 : decide (x29_2 < (l2.length : Int)) = false := decide_eq_false c13
       clear c13
       obtain rfl := Option.some.inj H
       go_wp2
       go_ret
       exact ⟨by first | rfl | (simp [errW_none, errW_some] <;> rfl) | (simp [*, errW_none, errW_some] <;> rfl), bZ HB⟩

end Go.Proofs.YtmiiknkfhiecgaaDoor.Pf
end
section
namespace Go.Proofs.YtmiiknkfhiecgaaDoor.Pf
open Go.RowKit Go.Proofs.YtmiiknkfhiecgaaDoorW.PrintWords Go.Proofs.YtmiiknkfhiecgaaDoorW.PrintLast Go.Proofs.YtmiiknkfhiecgaaDoorW.PrintMore
attribute [local go_sem] max2_int min2_int max_two min_two max_three min_three max_four min_four   -- for this text's walks alone
set_option linter.unusedVariables false
set_option linter.unusedSimpArgs false

/-! ### spec_FoldBranch: function 12 -/
mutual
def spec_FoldBranch.j0 : Nat → ByteArray → Int → List ByteArray → Bool → Option (ByteArray)
 | 0, _, _, _, _ => none
 | k + 1, x0, x1, x2, x21 => if x21 = true then (some (⟨#[]⟩ : ByteArray)) else ((spec_Digest.f x0).bind fun t104 => (spec_FoldBranch.l0 k x1 x2 t104 0))
def spec_FoldBranch.l0 : Nat → Int → List ByteArray → ByteArray → Int → Option (ByteArray)
 | 0, _, _, _, _ => none
 | k + 1, x1, x2, x7, x8 => if x8 < (x2.length : Int) then (if 0 ≤ (IntKind.u64.wrap (x8)) then (if (Int.tmod (shr .i64 x1 (IntKind.u64.wrap (x8))) 2) = 1 then (if 0 ≤ x8 then ((spec_DigestPair.f (rdOf ByteArray.empty x2 x8) x7).bind fun t106 => (spec_FoldBranch.l0 k x1 x2 t106 (wrap64 (x8 + 1)))) else (none)) else (if 0 ≤ x8 then ((spec_DigestPair.f x7 (rdOf ByteArray.empty x2 x8)).bind fun t108 => (spec_FoldBranch.l0 k x1 x2 t108 (wrap64 (x8 + 1)))) else (none))) else (none)) else (some x7)
end
def spec_FoldBranch.f (k : Nat) (a0 : ByteArray) (a1 : Int) (l2 : List ByteArray) : Option (ByteArray) := if (l2.length : Int) > 5 then (spec_FoldBranch.j0 k a0 a1 l2 true) else (if 0 ≤ (IntKind.u64.wrap ((l2.length : Int))) then ((spec_l01In.f a1 0 (wrap64 ((shl .i64 1 (IntKind.u64.wrap ((l2.length : Int)))) - 1))).bind fun t103 => (spec_FoldBranch.j0 k a0 a1 l2 (!t103))) else (none))
theorem spec_FoldBranch.mono_l : ∀ k, (∀ y0 y1 y2 y3, LeO (spec_FoldBranch.j0 k y0 y1 y2 y3) (spec_FoldBranch.j0 (k + 1) y0 y1 y2 y3)) ∧ (∀ y0 y1 y2 y3, LeO (spec_FoldBranch.l0 k y0 y1 y2 y3) (spec_FoldBranch.l0 (k + 1) y0 y1 y2 y3))
 | 0 => ⟨fun _ _ _ _ r h => by simp [spec_FoldBranch.j0] at h, fun _ _ _ _ r h => by simp [spec_FoldBranch.l0] at h⟩
 | k + 1 => by
  obtain ⟨ih0, ih1⟩ := spec_FoldBranch.mono_l k
  refine ⟨?_, ?_⟩
  ·intro y0 y1 y2 y3
   unfold spec_FoldBranch.j0
   repeat' first
   | (with_reducible exact ih0 _ _ _ _)
   | (with_reducible exact ih1 _ _ _ _)
   | (with_reducible exact LeO.refl _)
   | (with_reducible exact LeO.none _)
   | (with_reducible refine LeO.ite ?_ ?_)
   | (with_reducible refine LeO.bind ?_ (fun _ => ?_))
   | exact ih0 _ _ _ _
   | exact ih1 _ _ _ _
   | exact LeO.none _
   | refine LeO.ite ?_ ?_
   | refine LeO.bind ?_ (fun _ => ?_)
  ·intro y0 y1 y2 y3
   unfold spec_FoldBranch.l0
   repeat' first
   | (with_reducible exact ih0 _ _ _ _)
   | (with_reducible exact ih1 _ _ _ _)
   | (with_reducible exact LeO.refl _)
   | (with_reducible exact LeO.none _)
   | (with_reducible refine LeO.ite ?_ ?_)
   | (with_reducible refine LeO.bind ?_ (fun _ => ?_))
   | exact ih0 _ _ _ _
   | exact ih1 _ _ _ _
   | exact LeO.none _
   | refine LeO.ite ?_ ?_
   | refine LeO.bind ?_ (fun _ => ?_)
theorem spec_FoldBranch.mono : ∀ a0 a1 a2 k, LeO (spec_FoldBranch.f k a0 a1 a2) (spec_FoldBranch.f (k + 1) a0 a1 a2) := by
 intro a0 a1 a2 k
 obtain ⟨ih0, ih1⟩ := spec_FoldBranch.mono_l k
 unfold spec_FoldBranch.f
 repeat' first
   | (with_reducible exact ih0 _ _ _ _)
   | (with_reducible exact ih1 _ _ _ _)
   | (with_reducible exact LeO.refl _)
   | (with_reducible exact LeO.none _)
   | (with_reducible refine LeO.ite ?_ ?_)
   | (with_reducible refine LeO.bind ?_ (fun _ => ?_))
   | exact ih0 _ _ _ _
   | exact ih1 _ _ _ _
   | exact LeO.none _
   | refine LeO.ite ?_ ?_
   | refine LeO.bind ?_ (fun _ => ?_)
set_option maxHeartbeats 8000000 in
set_option maxRecDepth 100000 in
theorem spec_FoldBranch.calls (k : Nat) (a0 : ByteArray) (a1 : Int) (A2 : Option Addr) (c2 : Nat) (l2 : List ByteArray) (r : ByteArray) (w : World) (hr2 : Kd.C Kd.string w A2 l2.length l2) (hc2 : l2.length ≤ c2) (h : spec_FoldBranch.f k a0 a1 l2 = some r) :
  Calls Tryd.prog 12 #[.string a0, .int .i64 a1, .slice A2 l2.length c2] w fun e w' => e = .returned (.string r) ∧ Below w.heap.size w w' := by
 have HR2 := Aside0.mk hr2
 have HC2 := Aside0.mk hc2
 clear hr2 hc2
 have HB := Aside0.mk (Below.refl w.heap.size w)
 have H : (if (l2.length : Int) > 5 then (spec_FoldBranch.j0 k a0 a1 l2 true) else (if 0 ≤ (IntKind.u64.wrap ((l2.length : Int))) then ((spec_l01In.f a1 0 (wrap64 ((shl .i64 1 (IntKind.u64.wrap ((l2.length : Int)))) - 1))).bind fun t103 => (spec_FoldBranch.j0 k a0 a1 l2 (!t103))) else (none))) = some r := h
 clear h
 have HC4 := Aside0.mk H
 clear H
 go_enter Tryd.func12, Tryd.ntmps12
 go_upto_region 1 with (fail)
 go_cut [21] (fun v21 wc => ∃ (kq : Nat) (x21_3 : Bool), v21 = .bool x21_3 ∧ Aside0 (spec_FoldBranch.j0 kq a0 a1 l2 x21_3 = some r) ∧ Aside0 (kq ≤ k) ∧ Aside0 (Below w.heap.size w wc))
 case first =>
  have H := HC4.out
  clear HC4
  by_cases c5 : (l2.length : Int) > 5
  ·rw [if_pos c5] at H
   have c5b0 : decide (5 < (l2.length : Int)) = true := decide_eq_true c5
   have c5b1 : decide (5 < l2.length) = true := decide_eq_true (by omega)
   clear c5
   (first | rw [c5b0] | (simp only [i64_w, i32_w]; rw [c5b0]) | rw [c5b1] | skip)
   have H' := Aside0.mk H
   clear H
   go_wp2
   go_meet
   case rel => exact ⟨_, (true), (by first | rfl | (simp; done) | (simp [*]; done)), H', ⟨by first | omega | exact Nat.le_refl _⟩, ⟨bZ HB⟩⟩
  ·rw [if_neg c5] at H
   have c5b0 : decide (5 < (l2.length : Int)) = false := decide_eq_false c5
   have c5b1 : decide (5 < l2.length) = false := decide_eq_false (by omega)
   clear c5
   (first | rw [c5b0] | (simp only [i64_w, i32_w]; rw [c5b0]) | rw [c5b1] | skip)
   obtain ⟨ji6, hji6⟩ : ∃ j_ : Int, (IntKind.u64.wrap ((l2.length : Int))) = j_ := ⟨_, rfl⟩
   replace H : (if 0 ≤ (ji6) then ((spec_l01In.f a1 0 (wrap64 ((shl .i64 1 (ji6)) - 1))).bind fun t103 => (spec_FoldBranch.j0 k a0 a1 l2 (!t103))) else (none)) = some r := by first | (rw [hji6] at H; exact H) | (simp only [hji6] at H ⊢; exact H)
   by_cases c7 : 0 ≤ (ji6)
   ·rw [if_pos c7] at H
    have c7b0 := eq_true c7
    have c7b1 : decide (0 ≤ (ji6)) = true := decide_eq_true c7
    clear c7
    obtain ⟨ji8, hji8⟩ : ∃ j_ : Int, (shl .i64 1 (ji6)) = j_ := ⟨_, rfl⟩
    replace H : ((spec_l01In.f a1 0 (wrap64 ((ji8) - 1))).bind fun t103 => (spec_FoldBranch.j0 k a0 a1 l2 (!t103))) = some r := by first | (rw [hji8] at H; exact H) | (simp only [hji8] at H ⊢; exact H)
    have hji8_ : (IntKind.i64.wrap (1 * 2 ^ min (ji6).toNat 64)) = ji8 := hji8
    have hji8z : (ji6) ≤ 64 → (IntKind.i64.wrap (1 * 2 ^ (ji6).toNat)) = ji8 := shl_small hji8
    have hji8u : (IntKind.i64.wrap (2 ^ min (ji6).toNat 64)) = ji8 := by have h_ := hji8_; rw [Int.one_mul] at h_; exact h_
    have hji8v : (ji6) ≤ 64 → (IntKind.i64.wrap (2 ^ (ji6).toNat)) = ji8 := fun hle_ => by have h_ := hji8z hle_; rw [Int.one_mul] at h_; exact h_
    have hji8y : (wrap64 (1 * 2 ^ min (ji6).toNat 64)) = ji8 := (i64_w _).symm.trans hji8_
    have hji8x : (ji6) ≤ 64 → (wrap64 (1 * 2 ^ (ji6).toNat)) = ji8 := fun h_ => (i64_w _).symm.trans (hji8z h_)
    replace H := Option.bind_eq_some_iff.mp H
    obtain ⟨t103, A90, H⟩ := H
    replace H : (spec_FoldBranch.j0 k a0 a1 l2 (!t103)) = some r := H
    have A9 := Aside0.mk A90
    clear A90
    have H' := Aside0.mk H
    clear H
    go_wp2_with (first | (go_at_call 49; (with_reducible refine (spec_l01In.calls a1 0 (wrap64 ((ji8) - 1)) t103 _ A9.out).mono ?_); rintro e w' ⟨rfl, ⟨nd, rfl⟩⟩))
    go_meet
    case rel => exact ⟨_, (!t103), (by first | rfl | (simp; done) | (simp [*]; done)), H', ⟨by first | omega | exact Nat.le_refl _⟩, ⟨bZ HB⟩⟩
   ·rw [if_neg c7] at H
    exact absurd H (by simp)
 case rest =>
  clear HC4
  try clear c1
  try clear c2
  try clear p2
  try clear c5
  try clear c5b0
  try clear c5b1
  try clear p6
  try clear c7
  try clear c7b0
  try clear c7b1
  obtain ⟨kq, x21_3, rfl, HA, HJ3, HB⟩ := hcut
  cases kq with
  | zero => exact absurd HA.out (by simp [spec_FoldBranch.j0])
  | succ kj3 =>
   have H := HA.out
   clear HA
   simp only [spec_FoldBranch.j0] at H
   by_cases c10 : x21_3 = true
   ·subst c10
    have H1 : (some (⟨#[]⟩ : ByteArray)) = some r := by rw [if_pos rfl] at H; exact H
    clear H
    have H := H1
    clear H1
    obtain rfl := Option.some.inj H
    go_wp2
    go_ret
    exact ⟨by first | rfl | (simp [errW_none, errW_some] <;> rfl) | (simp [*, errW_none, errW_some] <;> rfl), bZ HB⟩
   ·replace c10 := Bool.eq_false_iff.mpr c10
    subst c10
    have H1 : ((spec_Digest.f a0).bind fun t104 => (spec_FoldBranch.l0 kj3 a1 l2 t104 0)) = some r := by rw [if_neg (show ¬ (false = true) by decide)] at H; exact H
    clear H
    have H := H1
    clear H1
    replace H := Option.bind_eq_some_iff.mp H
    obtain ⟨t104, A110, H⟩ := H
    replace H : (spec_FoldBranch.l0 kj3 a1 l2 t104 0) = some r := H
    have A11 := Aside0.mk A110
    clear A110
    have H' := Aside0.mk H
    clear H
    go_wp2_with (first | ((with_reducible refine gate_callee (f := 29) rfl ?_); refine goesL_ (some 23) rfl rfl Tryd.func29 (by kernel_rfl) rfl #[.string a0] rfl (by (try simp only [List.map_toArray, List.map_cons, List.map_nil]); first | done | rfl | (simp only [List.length_drop, List.length_take]; rfl)) ?_; (with_reducible refine (spec_Digest.calls a0 t104 _ A11.out).mono ?_); rintro e w12 ⟨rfl, hb⟩; refine ⟨_, rfl, ?_⟩; replace HB := bS HB hb; (try clear hb); (try clear hb2); (try clear hk); (try clear hi)))
    go_loopg [7, 8] kj3 (fun kq v7 v8 w' => ∃ (x7_2 : ByteArray) (x8_2 : Int), v7 = .string x7_2 ∧ v8 = .int .i64 x8_2 ∧ Aside0 (spec_FoldBranch.l0 kq a1 l2 x7_2 x8_2 = some r) ∧ Aside0 (kq ≤ kj3) ∧ Aside0 (Below w.heap.size w w'))
    case atStart => exact ⟨(t104), (0), (by first | rfl | (simp; done) | (simp [*]; done)), (by first | rfl | (simp; done) | (simp [*]; done)), H', ⟨Nat.le_refl _⟩, ⟨bZ HB⟩⟩
    case round =>
     clear H'
     try clear c1
     try clear c2
     try clear p2
     try clear c5
     try clear c5b0
     try clear c5b1
     try clear p6
     try clear c7
     try clear c7b0
     try clear c7b1
     try clear c10
     try clear c12
     try clear p2
     try clear p6
     obtain ⟨x7_2, x8_2, rfl, rfl, HA, HK2, HB⟩ := hrel
     cases gk with
     | zero => exact absurd HA.out (by simp [spec_FoldBranch.l0])
     | succ k2 =>
      have H := HA.out
      clear HA
      simp only [spec_FoldBranch.l0] at H
      by_cases c13 : x8_2 < (l2.length : Int)
      ·rw [if_pos c13] at H
       have c13b0 : decide (x8_2 < (l2.length : Int)) = true := decide_eq_true c13
       clear c13
       obtain ⟨ji14, hji14⟩ : ∃ j_ : Int, (IntKind.u64.wrap (x8_2)) = j_ := ⟨_, rfl⟩
       replace H : (if 0 ≤ (ji14) then (if (Int.tmod (shr .i64 a1 (ji14)) 2) = 1 then (if 0 ≤ x8_2 then ((spec_DigestPair.f (rdOf ByteArray.empty l2 x8_2) x7_2).bind fun t106 => (spec_FoldBranch.l0 k2 a1 l2 t106 (wrap64 (x8_2 + 1)))) else (none)) else (if 0 ≤ x8_2 then ((spec_DigestPair.f x7_2 (rdOf ByteArray.empty l2 x8_2)).bind fun t108 => (spec_FoldBranch.l0 k2 a1 l2 t108 (wrap64 (x8_2 + 1)))) else (none))) else (none)) = some r := by first | (rw [hji14] at H; exact H) | (simp only [hji14] at H ⊢; exact H)
       by_cases c15 : 0 ≤ (ji14)
       ·rw [if_pos c15] at H
        have c15b0 := eq_true c15
        have c15b1 : decide (0 ≤ (ji14)) = true := decide_eq_true c15
        clear c15
        obtain ⟨ji16, hji16⟩ : ∃ j_ : Int, (shr .i64 a1 (ji14)) = j_ := ⟨_, rfl⟩
        replace H : (if (Int.tmod (ji16) 2) = 1 then (if 0 ≤ x8_2 then ((spec_DigestPair.f (rdOf ByteArray.empty l2 x8_2) x7_2).bind fun t106 => (spec_FoldBranch.l0 k2 a1 l2 t106 (wrap64 (x8_2 + 1)))) else (none)) else (if 0 ≤ x8_2 then ((spec_DigestPair.f x7_2 (rdOf ByteArray.empty l2 x8_2)).bind fun t108 => (spec_FoldBranch.l0 k2 a1 l2 t108 (wrap64 (x8_2 + 1)))) else (none))) = some r := by first | (rw [hji16] at H; exact H) | (simp only [hji16] at H ⊢; exact H)
        have hji16_ : (a1 / 2 ^ min (ji14).toNat 64) = ji16 := hji16
        have hji16z : (ji14) ≤ 64 → (a1 / 2 ^ (ji14).toNat) = ji16 := shr_small hji16
        by_cases c17 : (Int.tmod (ji16) 2) = 1
        ·rw [if_pos c17] at H
         have c17b0 : ((Int.tmod (ji16) 2) == 1) = true := beq_iff_eq.mpr c17
         have c17b1 : ((Int.tmod (ji16) 2) != 1) = false := bne_eq_false_iff_eq.mpr c17
         clear c17
         by_cases c18 : 0 ≤ x8_2
         ·rw [if_pos c18] at H
          have c18b0 : decide (0 ≤ x8_2) = true := decide_eq_true c18
          clear c18
          replace H := Option.bind_eq_some_iff.mp H
          obtain ⟨t106, A190, H⟩ := H
          replace H : (spec_FoldBranch.l0 k2 a1 l2 t106 (wrap64 (x8_2 + 1))) = some r := H
          have A19 := Aside0.mk A190
          clear A190
          have H' := Aside0.mk H
          clear H
          have p105 : 0 ≤ (x8_2 : Int) := of_decide_eq_true (by first | (with_reducible assumption) | assumption)
          have q105 : x8_2 < (l2.length : Int) := of_decide_eq_true (by first | (with_reducible assumption) | assumption)
          obtain ⟨ad105, e105, hx105_0⟩ := Kd.at_string HR2.out x8_2 p105 q105
          cases e105
          replace hx105_0 := (HB.out.cell (World.block_lt_of_cell? w _ hx105_0)).trans hx105_0
          replace p105 := eq_true p105
          replace q105 := eq_true q105
          go_wp2_with (first | ((with_reducible refine gate_callee (f := 50) rfl ?_); refine goesL_ (some 41) rfl rfl Tryd.func50 (by kernel_rfl) rfl #[.string (rdOf ByteArray.empty l2 x8_2), .string x7_2] rfl (by (try simp only [List.map_toArray, List.map_cons, List.map_nil]); first | done | rfl | (simp only [List.length_drop, List.length_take]; rfl)) ?_; (with_reducible refine (spec_DigestPair.calls (rdOf ByteArray.empty l2 x8_2) x7_2 t106 _ A19.out).mono ?_); rintro e w20 ⟨rfl, hb⟩; refine ⟨_, rfl, ?_⟩; replace HB := bS HB hb; (try clear hb); (try clear hb2); (try clear hk); (try clear hi)))
          go_roundg k2
          case measure => have := HJ3.out; have := HK2.out; omega
          case rel => exact ⟨(t106), (wrap64 (x8_2 + 1)), (by first | rfl | (simp; done) | (simp [*]; done)), (by first | rfl | (simp; done) | (simp [*]; done)), H', ⟨by have := HJ3.out; have := HK2.out; omega⟩, ⟨bZ HB⟩⟩
         ·rw [if_neg c18] at H
          exact absurd H (by simp)
        ·rw [if_neg c17] at H
         have c17b0 : ((Int.tmod (ji16) 2) == 1) = false := beq_eq_false_iff_ne.mpr c17
         have c17b1 : ((Int.tmod (ji16) 2) != 1) = true := bne_iff_ne.mpr c17
         by_cases c21 : 0 ≤ x8_2
         ·rw [if_pos c21] at H
          have c21b0 : decide (0 ≤ x8_2) = true := decide_eq_true c21
          clear c21
          replace H := Option.bind_eq_some_iff.mp H
          obtain ⟨t108, A220, H⟩ := H
          replace H : (spec_FoldBranch.l0 k2 a1 l2 t108 (wrap64 (x8_2 + 1))) = some r := H
          have A22 := Aside0.mk A220
          clear A220
          have H' := Aside0.mk H
          clear H
          have p107 : 0 ≤ (x8_2 : Int) := of_decide_eq_true (by first | (with_reducible assumption) | assumption)
          have q107 : x8_2 < (l2.length : Int) := of_decide_eq_true (by first | (with_reducible assumption) | assumption)
          obtain ⟨ad107, e107, hx107_0⟩ := Kd.at_string HR2.out x8_2 p107 q107
          cases e107
          replace hx107_0 := (HB.out.cell (World.block_lt_of_cell? w _ hx107_0)).trans hx107_0
          replace p107 := eq_true p107
          replace q107 := eq_true q107
          go_wp2_with (first | ((with_reducible refine gate_callee (f := 50) rfl ?_); refine goesL_ (some 47) rfl rfl Tryd.func50 (by kernel_rfl) rfl #[.string x7_2, .string (rdOf ByteArray.empty l2 x8_2)] rfl (by (try simp only [List.map_toArray, List.map_cons, List.map_nil]); first | done | rfl | (simp only [List.length_drop, List.length_take]; rfl)) ?_; (with_reducible refine (spec_DigestPair.calls x7_2 (rdOf ByteArray.empty l2 x8_2) t108 _ A22.out).mono ?_); rintro e w23 ⟨rfl, hb⟩; refine ⟨_, rfl, ?_⟩; replace HB := bS HB hb; (try clear hb); (try clear hb2); (try clear hk); (try clear hi)))
          go_roundg k2
          case measure => have := HJ3.out; have := HK2.out; omega
          case rel => exact ⟨(t108), (wrap64 (x8_2 + 1)), (by first | rfl | (simp; done) | (simp [*]; done)), (by first | rfl | (simp; done) | (simp [*]; done)), H', ⟨by have := HJ3.out; have := HK2.out; omega⟩, ⟨bZ HB⟩⟩
         ·rw [if_neg c21] at H
          exact absurd H (by simp)
       ·rw [if_neg c15] at H
        exact absurd H (by simp)
      ·rw [if_neg c13] at H
       have c13b0 : decide (x8_2 < (l2.length : Int)) = false := decide_eq_false c13
       clear c13
       obtain rfl := Option.some.inj H
       go_wp2
       go_ret
       exact ⟨by first | rfl | (simp [errW_none, errW_some] <;> rfl) | (simp [*, errW_none, errW_some] <;> rfl), bZ HB⟩

end Go.Proofs.YtmiiknkfhiecgaaDoor.Pf
end
section
/- What is proved here: the digest of a text is 32 bytes, the same by the program and by the reference; so is the digest of a pair. No conditions but that the texts are no longer than 100000000 bytes. -/
set_option linter.unusedVariables false
set_option linter.unusedSimpArgs false
namespace Go.Proofs.YtmiiknkfhiecgaaDoor.Tree
open Go.RowKit Go.Proofs.YtmiiknkfhiecgaaDoor.Pf Go.Proofs.YtmiiknkfhiecgaaDoorW.PrintWords
def D (t : ByteArray) : ByteArray := Kp.digI t
theorem D_size (t : ByteArray) : (D t).size = 32 := by
  unfold D Kp.digI
  rw [ByteArray.size_extract, Kp.tx_size]
  decide
theorem impl_D {t : ByteArray} (h : t.size ≤ 100000000) : impl_Digest.f t = some (D t) := by
  unfold impl_Digest.f Kp.impl_Digest.f
  rw [if_pos (by omega)]
  rfl
theorem spec_D {t : ByteArray} (h : t.size ≤ 100000000) : spec_Digest.f t = some (D t) := by
  rw [← impl_D h]
  exact (Kp.digest_eq t).symm
theorem impl_pair {a b : ByteArray} (ha : a.size ≤ 40000000) (hb : b.size ≤ 40000000) : impl_DigestPair.f a b = some (D (a ++ b)) := by
  unfold impl_DigestPair.f
  rw [if_pos (by omega), impl_D (by rw [ByteArray.size_append]; omega)]
  rfl
theorem spec_pair {a b : ByteArray} (ha : a.size ≤ 40000000) (hb : b.size ≤ 40000000) : spec_DigestPair.f a b = some (D (a ++ b)) := by
  unfold spec_DigestPair.f
  rw [if_pos (by omega), spec_D (by rw [ByteArray.size_append]; omega)]
  rfl
attribute [irreducible] D
end Go.Proofs.YtmiiknkfhiecgaaDoor.Tree
end
section
/- What is proved here: what the laws' own helpers over lists of texts answer (equal lists are equal, a copy is the list, the size taken bounds all). No conditions but that a list is no longer than a Go slice can be. -/
set_option linter.unusedVariables false
set_option linter.unusedSimpArgs false
namespace Go.Proofs.YtmiiknkfhiecgaaDoor.Strs
open Go.RowKit Go.Proofs.YtmiiknkfhiecgaaDoor.Pf Go.Proofs.YtmiiknkfhiecgaaDoorW.PrintWords

theorem wrap_in {i : Int} (h0 : -9223372036854775808 ≤ i) (h : i ≤ 9223372036854775807) : wrap64 i = i := by
  unfold wrap64; omega
theorem rdOf_get {xs : List ByteArray} {i : Nat} (h : i < xs.length) : rdOf ByteArray.empty xs (i : Int) = xs[i] := by
  unfold rdOf
  rw [Int.toNat_natCast, List.getD_eq_getElem?_getD, List.getElem?_eq_getElem h]
  rfl

theorem eqStringS_l0 (xs : List ByteArray) (hn : xs.length ≤ 9223372036854775807) (d : Nat) : ∀ (i : Int) (k : Nat), 0 ≤ i → (xs.length : Int) - i = d → d < k → laws_eqStringS.l0 k xs xs i = some true := by
  induction d with
  | zero =>
    intro i k h0 hd hk
    obtain ⟨k, rfl⟩ : ∃ m, k = m + 1 := ⟨k - 1, by omega⟩
    simp only [laws_eqStringS.l0]
    rw [if_neg (by omega)]
  | succ d ih =>
    intro i k h0 hd hk
    obtain ⟨k, rfl⟩ : ∃ m, k = m + 1 := ⟨k - 1, by omega⟩
    simp only [laws_eqStringS.l0]
    rw [if_pos (by omega), if_pos h0, if_pos (by omega), wrap_in (by omega) (by omega), if_pos trivial]
    exact ih (i + 1) k (by omega) (by omega) (by omega)
theorem eqStringS_same (xs : List ByteArray) (hn : xs.length ≤ 9223372036854775807) (k : Nat) (hk : xs.length < k) : laws_eqStringS.f k xs xs = some true := by
  unfold laws_eqStringS.f
  rw [if_pos rfl]
  exact eqStringS_l0 xs hn xs.length 0 k (by omega) (by omega) hk

theorem toStringS_l0 (xs : List ByteArray) (hn : xs.length ≤ 9223372036854775807) (d : Nat) : ∀ (i k : Nat), i + d = xs.length → d < k →
    laws_toStringS.l0 k xs (xs.take i ++ List.replicate d (⟨#[]⟩ : ByteArray)) (i : Int) = some xs := by
  induction d with
  | zero =>
    intro i k hi hk
    obtain ⟨k, rfl⟩ : ∃ m, k = m + 1 := ⟨k - 1, by omega⟩
    simp only [laws_toStringS.l0]
    rw [if_neg (by omega)]
    rw [List.take_of_length_le (by omega)]
    simp
  | succ d ih =>
    intro i k hi hk
    obtain ⟨k, rfl⟩ : ∃ m, k = m + 1 := ⟨k - 1, by omega⟩
    simp only [laws_toStringS.l0]
    rw [if_pos (by omega), if_pos (by omega), if_pos (by simp; omega), Int.toNat_natCast, wrap_in (by omega) (by omega)]
    have h1 : i < xs.length := by omega
    have hs : (xs.take i ++ List.replicate (d + 1) (⟨#[]⟩ : ByteArray)).set i (rdOf ByteArray.empty xs (i : Int)) = xs.take (i + 1) ++ List.replicate d (⟨#[]⟩ : ByteArray) := by
      rw [List.set_append_right _ _ (by simp; omega), rdOf_get h1]
      rw [List.take_succ_eq_append_getElem h1, List.length_take, Nat.min_eq_left (by omega), Nat.sub_self, List.replicate_succ, List.set_cons_zero]
      rw [List.append_assoc, List.singleton_append]
    rw [hs, show (i : Int) + 1 = ((i + 1 : Nat) : Int) by omega]
    exact ih (i + 1) k (by omega) (by omega)
theorem toStringS_f (xs : List ByteArray) (hn : xs.length ≤ 17592186044416) (k : Nat) (hk : xs.length < k) : laws_toStringS.f k xs = some xs := by
  unfold laws_toStringS.f
  rw [if_pos (by omega), Int.toNat_natCast, if_pos hn]
  have h := toStringS_l0 xs (by omega) xs.length 0 k (by omega) hk
  simpa using h

def total (xs : List ByteArray) : Nat := (xs.map ByteArray.size).sum
theorem total_cons (x : ByteArray) (xs : List ByteArray) : total (x :: xs) = x.size + total xs := by simp [total]
theorem total_mem {x : ByteArray} {xs : List ByteArray} (h : x ∈ xs) : x.size ≤ total xs := by
  induction xs with
  | nil => simp at h
  | cons y ys ih =>
    rw [total_cons]
    rcases List.mem_cons.1 h with rfl | h
    · omega
    · have := ih h; omega
theorem szStringS_l0 (xs : List ByteArray) (hn : xs.length ≤ 9223372036854775807) (hs : ∀ y ∈ xs, y.size ≤ 9223372036854775807) (d : Nat) : ∀ (i k : Nat) (left : Int), i + d = xs.length → d < k → 0 ≤ left → left ≤ 1048576 →
    ∃ r, laws_szStringS.l0 k xs left (i : Int) = some r ∧ (r < 0 ∨ (r = left - total (xs.drop i))) := by
  induction d with
  | zero =>
    intro i k left hi hk h0 h1
    obtain ⟨k, rfl⟩ : ∃ m, k = m + 1 := ⟨k - 1, by omega⟩
    simp only [laws_szStringS.l0]
    rw [if_neg (by omega)]
    refine ⟨_, rfl, Or.inr ?_⟩
    rw [List.drop_of_length_le (by omega)]
    simp [total]
  | succ d ih =>
    intro i k left hi hk h0 h1
    obtain ⟨k, rfl⟩ : ∃ m, k = m + 1 := ⟨k - 1, by omega⟩
    have h2 : i < xs.length := by omega
    have h3 := hs xs[i] (List.getElem_mem h2)
    simp only [laws_szStringS.l0]
    rw [if_pos (by omega), if_pos (by omega), rdOf_get h2, wrap_in (by omega) (by omega), wrap_in (by omega) (by omega)]
    by_cases c : left - (xs[i].size : Int) < 0
    · rw [if_pos c]
      exact ⟨_, rfl, Or.inl (by decide)⟩
    · rw [if_neg c, show (i : Int) + 1 = ((i + 1 : Nat) : Int) by omega]
      obtain ⟨r, hr, hr2⟩ := ih (i + 1) k (left - xs[i].size) (by omega) (by omega) (by omega) (by omega)
      refine ⟨r, hr, ?_⟩
      rcases hr2 with h | h
      · exact Or.inl h
      · right
        rw [List.drop_eq_getElem_cons h2, total_cons]
        omega
theorem szStringS_f (xs : List ByteArray) (hn : xs.length ≤ 9223372036854775807) (hs : ∀ y ∈ xs, y.size ≤ 9223372036854775807) (k : Nat) (hk : 1048577 < k) :
    ∃ r, laws_szStringS.f k xs 1048576 = some r ∧ (r < 0 ∨ ((xs.length : Int) + total xs ≤ 1048576)) := by
  unfold laws_szStringS.f
  rw [wrap_in (by omega) (by omega)]
  by_cases c : (1048576 : Int) - (xs.length : Int) < 0
  · rw [if_pos c]
    exact ⟨_, rfl, Or.inl (by decide)⟩
  · rw [if_neg c]
    obtain ⟨r, hr, hr2⟩ := szStringS_l0 xs hn hs xs.length 0 k (1048576 - xs.length) (by omega) (by omega) (by omega) (by omega)
    refine ⟨r, hr, ?_⟩
    rw [List.drop_zero] at hr2
    rcases hr2 with h | h
    · exact Or.inl h
    · by_cases c2 : r < 0
      · exact Or.inl c2
      · right; omega
end Go.Proofs.YtmiiknkfhiecgaaDoor.Strs
end
section
/- What is proved here: what FoldBranch answers, as the program and as the reference write it. No conditions but that the texts are no longer than 2^20 bytes. -/
set_option linter.unusedVariables false
set_option linter.unusedSimpArgs false
namespace Go.Proofs.YtmiiknkfhiecgaaDoor.Tree
open Go.RowKit Go.Proofs.YtmiiknkfhiecgaaDoor.Pf Go.Proofs.YtmiiknkfhiecgaaDoorW.PrintWords Go.Proofs.YtmiiknkfhiecgaaDoor.Strs
def jb (n i : Nat) : Bool := n / 2 ^ i % 2 == 1
theorem bit_dec : ∀ n : Nat, n < 32 → ∀ i : Nat, i < 5 → 0 ≤ IntKind.u64.wrap (i : Int) ∧ (Go.bits .and .i64 (shr .i64 (n : Int) (IntKind.u64.wrap (i : Int))) 1 = 1 ↔ jb n i = true) ∧ (Int.tmod (shr .i64 (n : Int) (IntKind.u64.wrap (i : Int))) 2 = 1 ↔ jb n i = true) := by decide +kernel
theorem shl_dec : ∀ n : Nat, n < 6 → 0 ≤ IntKind.u64.wrap (n : Int) ∧ shl .i64 1 (IntKind.u64.wrap (n : Int)) = ((2 ^ n : Nat) : Int) ∧ wrap64 (((2 ^ n : Nat) : Int) - 1) = ((2 ^ n : Nat) : Int) - 1 := by decide +kernel
/-- The node above x, by way of the texts beside. -/
def up (n : Nat) : ByteArray → List ByteArray → Nat → ByteArray
  | x, [], _ => x
  | x, b :: bs, k => up n (if jb n k then D (b ++ x) else D (x ++ b)) bs (k + 1)
theorem up_size (n : Nat) (bs : List ByteArray) : ∀ (x : ByteArray) (k : Nat), x.size = 32 → (up n x bs k).size = 32 := by
  induction bs with
  | nil => intro x k h; exact h
  | cons b bs ih => intro x k h; exact ih _ _ (by split <;> exact D_size _)
def foldB (leaf : ByteArray) (i : Int) (bs : List ByteArray) : ByteArray := if bs.length ≤ 5 ∧ 0 ≤ i ∧ i < ((2 ^ bs.length : Nat) : Int) then up i.toNat (D leaf) bs 0 else ByteArray.empty
theorem impl_l0 (n : Nat) (hn : n < 32) (l : List ByteArray) (hl : l.length ≤ 5) (hs : ∀ y ∈ l, y.size ≤ 1048576) (d : Nat) : ∀ (i k : Nat) (x : ByteArray), i + d = l.length → d < k → x.size = 32 →
    impl_FoldBranch.l0 k (n : Int) x l (l.length : Int) (i : Int) = some (up n x (l.drop i) i) := by
  induction d with
  | zero =>
    intro i k x hi hk hx
    obtain ⟨k, rfl⟩ : ∃ m, k = m + 1 := ⟨k - 1, by omega⟩
    simp only [impl_FoldBranch.l0]
    rw [if_neg (by omega), List.drop_of_length_le (by omega)]
    rfl
  | succ d ih =>
    intro i k x hi hk hx
    obtain ⟨k, rfl⟩ : ∃ m, k = m + 1 := ⟨k - 1, by omega⟩
    have h2 : i < l.length := by omega
    have h3 := hs l[i] (List.getElem_mem h2)
    obtain ⟨b0, b1, _⟩ := bit_dec n hn i (by omega)
    simp only [impl_FoldBranch.l0]
    rw [if_pos (by omega), if_pos (by omega), if_pos (by omega), if_pos b0, rdOf_get h2, wrap_in (by omega) (by omega), List.drop_eq_getElem_cons h2, show (i : Int) + 1 = ((i + 1 : Nat) : Int) by omega]
    by_cases c : jb n i = true
    · rw [if_pos (b1.2 c), impl_pair (by omega) (by omega), Option.bind_some, ih (i + 1) k _ (by omega) (by omega) (D_size _)]
      simp only [up, c, if_true]
    · rw [if_neg (fun e => c (b1.1 e)), impl_pair (by omega) (by omega), Option.bind_some, ih (i + 1) k _ (by omega) (by omega) (D_size _)]
      simp only [up]
      rw [if_neg c]
theorem spec_l0 (n : Nat) (hn : n < 32) (l : List ByteArray) (hl : l.length ≤ 5) (hs : ∀ y ∈ l, y.size ≤ 1048576) (d : Nat) : ∀ (i k : Nat) (x : ByteArray), i + d = l.length → d < k → x.size = 32 →
    spec_FoldBranch.l0 k (n : Int) l x (i : Int) = some (up n x (l.drop i) i) := by
  induction d with
  | zero =>
    intro i k x hi hk hx
    obtain ⟨k, rfl⟩ : ∃ m, k = m + 1 := ⟨k - 1, by omega⟩
    simp only [spec_FoldBranch.l0]
    rw [if_neg (by omega), List.drop_of_length_le (by omega)]
    rfl
  | succ d ih =>
    intro i k x hi hk hx
    obtain ⟨k, rfl⟩ : ∃ m, k = m + 1 := ⟨k - 1, by omega⟩
    have h2 : i < l.length := by omega
    have h3 := hs l[i] (List.getElem_mem h2)
    obtain ⟨b0, _, b1⟩ := bit_dec n hn i (by omega)
    simp only [spec_FoldBranch.l0]
    rw [if_pos (by omega), if_pos b0, if_pos (show (0 : Int) ≤ (i : Int) by omega), rdOf_get h2, wrap_in (by omega) (by omega), List.drop_eq_getElem_cons h2, show (i : Int) + 1 = ((i + 1 : Nat) : Int) by omega]
    by_cases c : jb n i = true
    · rw [if_pos (b1.2 c), spec_pair (by omega) (by omega), Option.bind_some, ih (i + 1) k _ (by omega) (by omega) (D_size _)]
      simp only [up, c, if_true]
    · rw [if_neg (fun e => c (b1.1 e)), if_pos (show (0 : Int) ≤ (i : Int) by omega), spec_pair (by omega) (by omega), Option.bind_some, ih (i + 1) k _ (by omega) (by omega) (D_size _)]
      simp only [up]
      rw [if_neg c]
theorem pow_small {n : Nat} (h : n ≤ 5) : 1 ≤ 2 ^ n ∧ 2 ^ n ≤ 32 := by
  have : ∀ m : Nat, m < 6 → 1 ≤ 2 ^ m ∧ 2 ^ m ≤ 32 := by decide
  exact this n (by omega)
theorem impl_fold (k : Nat) (hk : 8 < k) (leaf : ByteArray) (i : Int) (l : List ByteArray) (h0 : leaf.size ≤ 10000000) (hs : ∀ y ∈ l, y.size ≤ 1048576) : impl_FoldBranch.f k leaf i l = some (foldB leaf i l) := by
  obtain ⟨k, rfl⟩ : ∃ m, k = m + 1 := ⟨k - 1, by omega⟩
  have fj : impl_FoldBranch.j0 (k + 1) leaf i l true = some ByteArray.empty := by simp only [impl_FoldBranch.j0, if_true]; rfl
  unfold impl_FoldBranch.f foldB
  by_cases c1 : l.length ≤ 5
  case neg => rw [if_pos (by omega), fj, if_neg (by omega)]
  rw [if_neg (by omega)]
  by_cases c2 : i < 0
  · rw [if_pos c2, fj, if_neg (by omega)]
  obtain ⟨b0, b1, _⟩ := shl_dec l.length (by omega)
  rw [if_neg c2, if_pos b0, b1]
  have hp := pow_small c1
  generalize 2 ^ l.length = P at hp
  by_cases c3 : i < (P : Int)
  case neg => rw [decide_eq_true (by omega), fj, if_neg (by omega)]
  rw [decide_eq_false (by omega), if_pos ⟨c1, by omega, c3⟩]
  simp only [impl_FoldBranch.j0]
  rw [if_neg (by decide), impl_D (by omega), Option.bind_some]
  obtain ⟨n, rfl⟩ : ∃ n : Nat, i = (n : Int) := ⟨i.toNat, by omega⟩
  exact impl_l0 n (by omega) l c1 hs l.length 0 k (D leaf) (by omega) (by omega) (D_size _)
theorem l01In_f (a b c : Int) : spec_l01In.f a b c = some (decide (b ≤ a ∧ a ≤ c)) := by
  unfold spec_l01In.f
  by_cases h : a ≥ b
  · rw [if_pos h]; congr 1; apply decide_eq_decide.2; omega
  · rw [if_neg h, decide_eq_false (by omega)]
theorem spec_fold (k : Nat) (hk : 8 < k) (leaf : ByteArray) (i : Int) (l : List ByteArray) (h0 : leaf.size ≤ 10000000) (hs : ∀ y ∈ l, y.size ≤ 1048576) : spec_FoldBranch.f k leaf i l = some (foldB leaf i l) := by
  obtain ⟨k, rfl⟩ : ∃ m, k = m + 1 := ⟨k - 1, by omega⟩
  have fj : spec_FoldBranch.j0 (k + 1) leaf i l true = some ByteArray.empty := by simp only [spec_FoldBranch.j0, if_true]; rfl
  unfold spec_FoldBranch.f foldB
  by_cases c1 : l.length ≤ 5
  case neg => rw [if_pos (by omega), fj, if_neg (by omega)]
  obtain ⟨b0, b1, b2⟩ := shl_dec l.length (by omega)
  rw [if_neg (by omega), if_pos b0, b1, b2, l01In_f, Option.bind_some]
  have hp := pow_small c1
  generalize 2 ^ l.length = P at hp
  by_cases c3 : 0 ≤ i ∧ i < (P : Int)
  case neg => rw [decide_eq_false (by omega), Bool.not_false, fj, if_neg (by omega)]
  rw [decide_eq_true (by omega), Bool.not_true, if_pos ⟨c1, by omega, by omega⟩]
  simp only [spec_FoldBranch.j0]
  rw [if_neg (by decide), spec_D (by omega), Option.bind_some]
  obtain ⟨n, rfl⟩ : ∃ n : Nat, i = (n : Int) := ⟨i.toNat, by omega⟩
  exact spec_l0 n (by omega) l c1 hs l.length 0 k (D leaf) (by omega) (by omega) (D_size _)
end Go.Proofs.YtmiiknkfhiecgaaDoor.Tree
end
section
/- What is proved here: the levels of a tree of digests, its root and its branches, as the program and as the reference write them. No conditions but that there are 32 leaves at most, none longer than 2^20 bytes. -/
set_option linter.unusedVariables false
set_option linter.unusedSimpArgs false
namespace Go.Proofs.YtmiiknkfhiecgaaDoor.Tree
open Go.RowKit Go.Proofs.YtmiiknkfhiecgaaDoor.Pf Go.Proofs.YtmiiknkfhiecgaaDoorW.PrintWords Go.Proofs.YtmiiknkfhiecgaaDoor.Strs
abbrev BA := ByteArray
/-- The digests of the pairs. -/
def up1 : List BA → List BA
  | a :: b :: r => D (a ++ b) :: up1 r
  | _ => []
theorem up1_length : ∀ (n : Nat) (x : List BA), x.length = 2 * n → (up1 x).length = n
  | 0, [], _ => rfl
  | n + 1, a :: b :: r, h => by
    have := up1_length n r (by simp only [List.length_cons] at h; omega)
    simp [up1, this]
theorem up1_get : ∀ (n : Nat) (x : List BA), x.length = 2 * n → ∀ i (h : i < n) (h1 : i < (up1 x).length) (h2 : 2 * i < x.length) (h3 : 2 * i + 1 < x.length), (up1 x)[i] = D (x[2 * i] ++ x[2 * i + 1])
  | 0, _, _, i, h, _, _, _ => by omega
  | n + 1, a :: b :: r, hl, i, h, h1, h2, h3 => by
    match i with
    | 0 => rfl
    | i + 1 =>
      have hl' : r.length = 2 * n := by simp only [List.length_cons] at hl; omega
      have e := up1_get n r hl' i (by omega) (by rw [up1_length n r hl']; omega) (by omega) (by omega)
      simp only [up1, List.getElem_cons_succ]
      rw [e]
      simp only [show 2 * (i + 1) = 2 * i + 1 + 1 by omega, List.getElem_cons_succ]
theorem up1_size : ∀ (n : Nat) (x : List BA), x.length = 2 * n → ∀ y ∈ up1 x, y.size = 32
  | 0, [], _, y, hy => by simp [up1] at hy
  | n + 1, a :: b :: r, h, y, hy => by
    simp only [up1, List.mem_cons] at hy
    rcases hy with rfl | hy
    · exact D_size _
    · exact up1_size n r (by simp only [List.length_cons] at h; omega) y hy
def levels : Nat → List BA → List (List BA)
  | 0, x => [x]
  | j + 1, x => x :: levels j (up1 x)
def tops : Nat → List BA → List BA
  | 0, x => x
  | j + 1, x => tops j (up1 x)
def lows : Nat → List BA → List (List BA)
  | 0, _ => []
  | j + 1, x => x :: lows j (up1 x)
theorem levels_split (j : Nat) : ∀ x, levels j x = lows j x ++ [tops j x] := by
  induction j with
  | zero => intro x; rfl
  | succ j ih => intro x; simp only [levels, lows, tops, ih, List.cons_append]
theorem lows_length (j : Nat) : ∀ x, (lows j x).length = j := by
  induction j with
  | zero => intro x; rfl
  | succ j ih => intro x; simp only [lows, List.length_cons, ih]
theorem tops_length (j : Nat) : ∀ x : List BA, x.length = 2 ^ j → (tops j x).length = 1 := by
  induction j with
  | zero => intro x h; exact h
  | succ j ih => intro x h; exact ih _ (up1_length (2 ^ j) x (by rw [h, Nat.pow_succ]; omega))
theorem tops_size (j : Nat) : ∀ x : List BA, x.length = 2 ^ j → (∀ y ∈ x, y.size = 32) → ∀ y ∈ tops j x, y.size = 32 := by
  induction j with
  | zero => intro x h hs; exact hs
  | succ j ih => intro x h hs; have hl : x.length = 2 * 2 ^ j := by (rw [h, Nat.pow_succ]; omega)
                 exact ih _ (up1_length (2 ^ j) x hl) (up1_size (2 ^ j) x hl)
theorem l3_up (k : Nat) (x6 : List (List BA)) (x3 : List BA) (n : Nat) (hn : x3.length = 2 * n) (hn2 : n ≤ 1000) (hs : ∀ y ∈ x3, y.size = 32) (h6 : x6.length ≤ 1000) (d : Nat) : ∀ i, i + d = n →
    impl_levelsOfTree.l3 (k + d + 1) x6 x3 ((up1 x3).take i) ((2 * i : Nat) : Int) = impl_levelsOfTree.l2 k (x6 ++ [up1 x3]) (up1 x3) := by
  have hl := up1_length n x3 hn
  induction d with
  | zero =>
    intro i hi
    simp only [impl_levelsOfTree.l3, Nat.add_zero]
    rw [if_neg (by omega), if_pos (by omega), List.take_of_length_le (by omega)]
  | succ d ih =>
    intro i hi
    have h1 : 2 * i < x3.length := by omega
    have h2 : 2 * i + 1 < x3.length := by omega
    rw [show k + (d + 1) + 1 = (k + d + 1) + 1 by omega]
    simp only [impl_levelsOfTree.l3]
    have e1 : wrap64 (((2 * i : Nat) : Int) + 1) = ((2 * i + 1 : Nat) : Int) := by rw [wrap_in (by omega) (by omega)]; omega
    have e2 : wrap64 (((2 * i : Nat) : Int) + 2) = ((2 * (i + 1) : Nat) : Int) := by rw [wrap_in (by omega) (by omega)]; omega
    rw [if_pos (by omega), if_pos (by omega), e1, if_pos (by omega), if_pos (by omega), rdOf_get h1, rdOf_get h2, impl_pair (by rw [hs _ (List.getElem_mem h1)]; omega) (by rw [hs _ (List.getElem_mem h2)]; omega), Option.bind_some,
      if_pos (by rw [List.length_take]; omega), e2]
    have hg := up1_get n x3 hn i (by omega) (by omega) h1 h2
    rw [← hg, ← List.take_succ_eq_append_getElem (by omega)]
    exact ih (i + 1) (by omega)
theorem l2_levels (j : Nat) : ∀ (pre : List (List BA)) (x : List BA), j ≤ 5 → x.length = 2 ^ j → pre.length + j ≤ 100 → (∀ y ∈ x, y.size = 32) → ∀ k, 40 * (j + 1) ≤ k → impl_levelsOfTree.l2 k (pre ++ [x]) x = some (pre ++ levels j x) := by
  induction j with
  | zero =>
    intro pre x hj hx hp hs k hk
    obtain ⟨k, rfl⟩ : ∃ m, k = m + 1 := ⟨k - 1, by omega⟩
    simp only [impl_levelsOfTree.l2]
    rw [if_neg (by rw [hx]; decide)]
    rfl
  | succ j ih =>
    intro pre x hj hx hp hs k hk
    have hpj := pow_small (show j ≤ 5 by omega)
    have hx2 : x.length = 2 * 2 ^ j := by rw [hx, Nat.pow_succ]; omega
    obtain ⟨k, rfl⟩ : ∃ m, k = (m + 2 ^ j + 1) + 1 := ⟨k - 2 ^ j - 2, by omega⟩
    simp only [impl_levelsOfTree.l2]
    rw [if_pos (by omega)]
    have h3 := l3_up k (pre ++ [x]) x (2 ^ j) hx2 (by omega) hs (by simp; omega) (2 ^ j) 0 (by omega)
    rw [List.take_zero] at h3
    have h3' : impl_levelsOfTree.l3 (k + 2 ^ j + 1) (pre ++ [x]) x [] 0 = impl_levelsOfTree.l2 k (pre ++ [x] ++ [up1 x]) (up1 x) := h3
    rw [h3', ih (pre ++ [x]) (up1 x) (by omega) (up1_length _ _ hx2) (by simp; omega) (up1_size _ _ hx2) k (by omega)]
    simp [levels]
/-- The least power of two that is no less than n (and 1 for 0), for n ≤ 32; its exponent. -/
def lg (n : Nat) : Nat := if n ≤ 1 then 0 else if n ≤ 2 then 1 else if n ≤ 4 then 2 else if n ≤ 8 then 3 else if n ≤ 16 then 4 else 5
theorem np_facts : ∀ m : Nat, m < 33 → m ≤ 2 ^ lg m ∧ lg m ≤ 5 ∧ (m ≠ 0 → ((Go.bits .and .i64 (m : Int) (wrap64 ((m : Int) - 1))) = 0 ↔ 2 ^ lg m = m)) ∧ (2 ^ lg m ≠ m → lg (m + 1) = lg m) := by decide +kernel
def hashes (l : List BA) : List BA := l.map D ++ List.replicate (2 ^ lg l.length - l.length) (D ByteArray.empty)
theorem hashes_length {l : List BA} (h : l.length ≤ 32) : (hashes l).length = 2 ^ lg l.length := by
  have := (np_facts l.length (by omega)).1
  simp [hashes]; omega
theorem hashes_size (l : List BA) : ∀ y ∈ hashes l, y.size = 32 := by
  intro y hy
  unfold hashes at hy
  rcases List.mem_append.1 hy with hy | hy
  · obtain ⟨z, _, rfl⟩ := List.mem_map.1 hy
    exact D_size _
  · rw [(List.mem_replicate.1 hy).2]
    exact D_size _
theorem l1_pad (k : Nat) (d : Nat) : ∀ (x : List BA), x.length ≤ 32 → x.length + d = 2 ^ lg x.length → impl_levelsOfTree.l1 (k + d + 1) x = impl_levelsOfTree.l2 k [x ++ List.replicate d (D ByteArray.empty)] (x ++ List.replicate d (D ByteArray.empty)) := by
  induction d with
  | zero =>
    intro x hx hd
    obtain ⟨_, _, h1, _⟩ := np_facts x.length (by omega)
    have h0 : x.length ≠ 0 := by intro e; rw [e] at hd; exact absurd hd (by decide)
    simp only [impl_levelsOfTree.l1, Nat.add_zero]
    rw [if_neg (by omega), if_pos ((h1 h0).2 (by omega))]
    simp
  | succ d ih =>
    intro x hx hd
    obtain ⟨_, h5, h1, h2⟩ := np_facts x.length (by omega)
    have hp := pow_small h5
    have e2 := h2 (by omega)
    have hr : x ++ List.replicate (d + 1) (D ByteArray.empty) = (x ++ [D ByteArray.empty]) ++ List.replicate d (D ByteArray.empty) := by
      rw [List.replicate_succ, List.append_assoc, List.singleton_append]
    have hl : (x ++ [D ByteArray.empty]).length = x.length + 1 := by simp
    have hi := ih (x ++ [D ByteArray.empty]) (by omega) (by rw [hl, e2]; omega)
    rw [show k + (d + 1) + 1 = (k + d + 1) + 1 by omega, impl_levelsOfTree.l1]
    have hD : impl_Digest.f (⟨#[]⟩ : ByteArray) = some (D ByteArray.empty) := impl_D (t := ByteArray.empty) (by decide)
    have hx8 : x.length < 8796093022208 := by omega
    rw [hr, ← hi]
    have hc : ∀ a b : Option (List (List BA)), (if (x.length : Int) = 0 then a else if (Go.bits .and .i64 (x.length : Int) (wrap64 ((x.length : Int) - 1))) = 0 then b else a) = a := by
      intro a b
      by_cases c : (x.length : Int) = 0
      · rw [if_pos c]
      · rw [if_neg c, if_neg (fun e => by have := (h1 (by omega)).1 e; omega)]
    rw [hD, Option.bind_some, if_pos hx8, hc]
theorem l0_map (k : Nat) (l : List BA) (hl : l.length ≤ 32) (hs : ∀ y ∈ l, y.size ≤ 1048576) (d : Nat) : ∀ i, i + d = l.length → impl_levelsOfTree.l0 (k + d + 1) ((l.take i).map D) l (l.length : Int) (i : Int) = impl_levelsOfTree.l1 k (l.map D) := by
  induction d with
  | zero =>
    intro i hi
    simp only [impl_levelsOfTree.l0, Nat.add_zero]
    rw [if_neg (by omega), List.take_of_length_le (by omega)]
  | succ d ih =>
    intro i hi
    have h1 : i < l.length := by omega
    have h2 := hs _ (List.getElem_mem h1)
    rw [show k + (d + 1) + 1 = (k + d + 1) + 1 by omega, impl_levelsOfTree.l0]
    rw [if_pos (by omega), if_pos (by omega), if_pos (by omega), rdOf_get h1, impl_D (by omega), Option.bind_some, if_pos (by simp; omega), wrap_in (by omega) (by omega), show (i : Int) + 1 = ((i + 1 : Nat) : Int) by omega, ← ih (i + 1) (by omega),
      List.take_succ_eq_append_getElem h1, List.map_append, List.map_singleton]
theorem levels_f (k : Nat) (hk : 400 ≤ k) (l : List BA) (hl : l.length ≤ 32) (hs : ∀ y ∈ l, y.size ≤ 1048576) : impl_levelsOfTree.f k l = some (levels (lg l.length) (hashes l)) := by
  obtain ⟨h1, h2, _, _⟩ := np_facts l.length (by omega)
  have hp := pow_small h2
  obtain ⟨m, rfl⟩ : ∃ m, k = ((m + (2 ^ lg l.length - l.length) + 1) + l.length) + 1 := ⟨k - 2 - l.length - (2 ^ lg l.length - l.length), by omega⟩
  unfold impl_levelsOfTree.f
  have h3 := l0_map (m + (2 ^ lg l.length - l.length) + 1) l hl hs l.length 0 (by omega)
  have h3' : impl_levelsOfTree.l0 ((m + (2 ^ lg l.length - l.length) + 1) + l.length + 1) [] l (l.length : Int) 0 = impl_levelsOfTree.l1 (m + (2 ^ lg l.length - l.length) + 1) (l.map D) := h3
  have hm : (l.map D).length = l.length := List.length_map D
  rw [h3', l1_pad m (2 ^ lg l.length - l.length) (l.map D) (by omega) (by rw [hm]; omega)]
  exact l2_levels (lg l.length) [] (hashes l) h2 (hashes_length hl) (by simp; omega) (hashes_size l) m (by omega)
def root (l : List BA) : BA := if l.length ≤ 32 then rdOf ByteArray.empty (tops (lg l.length) (hashes l)) 0 else ByteArray.empty
theorem rd_last (a : List (List BA)) (b : List BA) : rd_L2 (a ++ [b]) ((a.length : Nat) : Int) = b := by
  unfold rd_L2
  simp
theorem impl_root (k : Nat) (hk : 400 ≤ k) (l : List BA) (hs : ∀ y ∈ l, y.size ≤ 1048576) : impl_RootOf.f k l = some (root l) := by
  unfold impl_RootOf.f root
  by_cases c : l.length ≤ 32
  case neg => rw [if_pos (by omega), if_neg c]; rfl
  rw [if_neg (by omega), if_pos c, levels_f k hk l c hs, Option.bind_some, levels_split]
  obtain ⟨h1, h2, _, _⟩ := np_facts l.length (by omega)
  have e1 : (lows (lg l.length) (hashes l) ++ [tops (lg l.length) (hashes l)]).length = lg l.length + 1 := by rw [List.length_append, lows_length]; rfl
  have e2 : wrap64 ((((lows (lg l.length) (hashes l) ++ [tops (lg l.length) (hashes l)]).length : Nat) : Int) - 1) = (((lows (lg l.length) (hashes l)).length : Nat) : Int) := by
    rw [e1, lows_length, wrap_in (by omega) (by omega)]; omega
  rw [e2, rd_last, if_pos (by omega), if_pos (by rw [e1, lows_length]; omega), if_pos (by rw [tops_length _ _ (hashes_length c)]; decide)]
theorem root_size {l : List BA} (h : l.length ≤ 32) : (root l).size = 32 := by
  unfold root
  rw [if_pos h]
  have h1 := tops_length _ _ (hashes_length h)
  have h2 : (0 : Nat) < (tops (lg l.length) (hashes l)).length := by omega
  have e : rdOf ByteArray.empty (tops (lg l.length) (hashes l)) 0 = _ := rdOf_get (i := 0) h2
  rw [e]
  exact tops_size _ _ (hashes_length h) (hashes_size l) _ (List.getElem_mem h2)
-- the reference
theorem spec_up (x0 : List BA) (n : Nat) (hn : x0.length = 2 * n) (hn2 : n ≤ 1000) (hs : ∀ y ∈ x0, y.size = 32) (d : Nat) : ∀ i k, i + d = n → d < k → spec_l10Up.l0 k x0 ((up1 x0).take i) ((2 * i : Nat) : Int) = some (up1 x0) := by
  have hl := up1_length n x0 hn
  induction d with
  | zero =>
    intro i k hi hk
    obtain ⟨k, rfl⟩ : ∃ m, k = m + 1 := ⟨k - 1, by omega⟩
    simp only [spec_l10Up.l0]
    rw [wrap_in (by omega) (by omega), if_neg (by omega), List.take_of_length_le (by omega)]
  | succ d ih =>
    intro i k hi hk
    obtain ⟨k, rfl⟩ : ∃ m, k = m + 1 := ⟨k - 1, by omega⟩
    have h1 : 2 * i < x0.length := by omega
    have h2 : 2 * i + 1 < x0.length := by omega
    simp only [spec_l10Up.l0]
    have e1 : wrap64 (((2 * i : Nat) : Int) + 1) = ((2 * i + 1 : Nat) : Int) := by rw [wrap_in (by omega) (by omega)]; omega
    have e2 : wrap64 (((2 * i : Nat) : Int) + 2) = ((2 * (i + 1) : Nat) : Int) := by rw [wrap_in (by omega) (by omega)]; omega
    rw [e1, if_pos (by omega), if_pos (by omega), if_pos (by omega), if_pos (by omega), rdOf_get h1, rdOf_get h2, spec_pair (by rw [hs _ (List.getElem_mem h1)]; omega) (by rw [hs _ (List.getElem_mem h2)]; omega), Option.bind_some,
      if_pos (by rw [List.length_take]; omega), e2]
    have hg := up1_get n x0 hn i (by omega) (by omega) h1 h2
    rw [← hg, ← List.take_succ_eq_append_getElem (by omega)]
    exact ih (i + 1) k (by omega) (by omega)
theorem spec_up_f (k : Nat) (x0 : List BA) (n : Nat) (hn : x0.length = 2 * n) (hn2 : n ≤ 1000) (hs : ∀ y ∈ x0, y.size = 32) (hk : n < k) : spec_l10Up.f k x0 = some (up1 x0) := by
  have h := spec_up x0 n hn hn2 hs n 0 k (by omega) hk
  unfold spec_l10Up.f
  exact h
theorem lev_dec : ∀ n : Nat, n < 33 → spec_LevelsOf.f 10 (n : Int) = some ((lg n : Nat) : Int) ∧ 0 ≤ IntKind.u64.wrap ((lg n : Nat) : Int) ∧ shl .i64 1 (IntKind.u64.wrap ((lg n : Nat) : Int)) = ((2 ^ lg n : Nat) : Int) := by decide +kernel
theorem spec_lev (k : Nat) (hk : 10 ≤ k) (n : Nat) (hn : n ≤ 32) : spec_LevelsOf.f k (n : Int) = some ((lg n : Nat) : Int) :=
  at_rounds (g := fun k => spec_LevelsOf.f k (n : Int)) (fun k => spec_LevelsOf.mono (n : Int) k) hk (lev_dec n (by omega)).1
theorem spec_l1 (l : List BA) (hl : l.length ≤ 32) (d : Nat) : ∀ (x : List BA) (k : Nat), x.length + d = 2 ^ lg l.length → 40 + d ≤ k → spec_l10Hashes.l1 k l x (D ByteArray.empty) = some (x ++ List.replicate d (D ByteArray.empty)) := by
  obtain ⟨_, b0, b1⟩ := lev_dec l.length (by omega)
  have hp := pow_small (np_facts l.length (by omega)).2.1
  induction d with
  | zero =>
    intro x k hx hk
    obtain ⟨k, rfl⟩ : ∃ m, k = m + 1 := ⟨k - 1, by omega⟩
    simp only [spec_l10Hashes.l1]
    rw [spec_lev k (by omega) _ hl, Option.bind_some, if_pos b0, b1, if_neg (by omega)]
    simp
  | succ d ih =>
    intro x k hx hk
    obtain ⟨k, rfl⟩ : ∃ m, k = m + 1 := ⟨k - 1, by omega⟩
    simp only [spec_l10Hashes.l1]
    rw [spec_lev k (by omega) _ hl, Option.bind_some, if_pos b0, b1, if_pos (by omega), if_pos (by omega), ih (x ++ [D ByteArray.empty]) k (by simp; omega) (by omega), List.replicate_succ, List.append_assoc, List.singleton_append]
theorem spec_l0h (l : List BA) (hl : l.length ≤ 32) (hs : ∀ y ∈ l, y.size ≤ 1048576) (d : Nat) : ∀ i k, i + d = l.length → 100 + d ≤ k → spec_l10Hashes.l0 k l ((l.take i).map D) (i : Int) = some (hashes l) := by
  induction d with
  | zero =>
    intro i k hi hk
    obtain ⟨k, rfl⟩ : ∃ m, k = m + 1 := ⟨k - 1, by omega⟩
    have h1 := np_facts l.length (by omega)
    have hp := pow_small h1.2.1
    have hD : spec_Digest.f (⟨#[]⟩ : ByteArray) = some (D ByteArray.empty) := spec_D (t := ByteArray.empty) (by decide)
    simp only [spec_l10Hashes.l0]
    rw [if_neg (by omega), List.take_of_length_le (by omega), hD, Option.bind_some, spec_l1 l hl (2 ^ lg l.length - l.length) _ k (by rw [List.length_map]; omega) (by omega)]
    rfl
  | succ d ih =>
    intro i k hi hk
    obtain ⟨k, rfl⟩ : ∃ m, k = m + 1 := ⟨k - 1, by omega⟩
    have h1 : i < l.length := by omega
    have h2 := hs _ (List.getElem_mem h1)
    simp only [spec_l10Hashes.l0]
    rw [if_pos (by omega), if_pos (by omega), rdOf_get h1, spec_D (by omega), Option.bind_some, if_pos (by simp; omega), wrap_in (by omega) (by omega), show (i : Int) + 1 = ((i + 1 : Nat) : Int) by omega, ← ih (i + 1) k (by omega) (by omega),
      List.take_succ_eq_append_getElem h1, List.map_append, List.map_singleton]
theorem spec_hashes (k : Nat) (hk : 200 ≤ k) (l : List BA) (hl : l.length ≤ 32) (hs : ∀ y ∈ l, y.size ≤ 1048576) : spec_l10Hashes.f k l = some (hashes l) := by
  have h := spec_l0h l hl hs l.length 0 k (by omega) (by omega)
  unfold spec_l10Hashes.f
  exact h
theorem spec_root_l0 (j : Nat) : ∀ (x : List BA) (k : Nat), j ≤ 5 → x.length = 2 ^ j → (∀ y ∈ x, y.size = 32) → 100 + j ≤ k → spec_RootOf.l0 k x = some (rdOf ByteArray.empty (tops j x) 0) := by
  induction j with
  | zero =>
    intro x k hj hx hs hk
    obtain ⟨k, rfl⟩ : ∃ m, k = m + 1 := ⟨k - 1, by omega⟩
    simp only [spec_RootOf.l0]
    rw [if_neg (by rw [hx]; decide), if_pos (by rw [hx]; decide)]
    rfl
  | succ j ih =>
    intro x k hj hx hs hk
    obtain ⟨k, rfl⟩ : ∃ m, k = m + 1 := ⟨k - 1, by omega⟩
    have hpj := pow_small (show j ≤ 5 by omega)
    have hx2 : x.length = 2 * 2 ^ j := by rw [hx, Nat.pow_succ]; omega
    simp only [spec_RootOf.l0]
    rw [if_pos (by omega), spec_up_f k x (2 ^ j) hx2 (by omega) hs (by omega), Option.bind_some, ih (up1 x) k (by omega) (up1_length _ _ hx2) (up1_size _ _ hx2) (by omega)]
    rfl
theorem spec_root (k : Nat) (hk : 400 ≤ k) (l : List BA) (hs : ∀ y ∈ l, y.size ≤ 1048576) : spec_RootOf.f k l = some (root l) := by
  unfold spec_RootOf.f root
  by_cases c : l.length ≤ 32
  case neg => rw [if_pos (by omega), if_neg c]; rfl
  rw [if_neg (by omega), if_pos c, spec_hashes k (by omega) l c hs, Option.bind_some]
  exact spec_root_l0 _ _ k (np_facts l.length (by omega)).2.1 (hashes_length c) (hashes_size l) (by have := (np_facts l.length (by omega)).2.1; omega)
end Go.Proofs.YtmiiknkfhiecgaaDoor.Tree
end
section
/- What is proved here: what BranchOf answers, by the program and by the reference. No conditions but that the leaves are no longer than 2^20 bytes. -/
set_option linter.unusedVariables false
set_option linter.unusedSimpArgs false
namespace Go.Proofs.YtmiiknkfhiecgaaDoor.Tree
open Go.RowKit Go.Proofs.YtmiiknkfhiecgaaDoor.Pf Go.Proofs.YtmiiknkfhiecgaaDoorW.PrintWords Go.Proofs.YtmiiknkfhiecgaaDoor.Strs
/-- The place beside i. -/
def bes (i : Nat) : Nat := if i % 2 = 0 then i + 1 else i - 1
theorem xor_dec : ∀ i : Nat, i < 32 → Go.bits .xor .i64 (i : Int) 1 = ((bes i : Nat) : Int) ∧ wrap64 (Int.tdiv (i : Int) 2) = ((i / 2 : Nat) : Int) := by decide +kernel
theorem bes_lt {i n : Nat} (h : i < 2 * n) : bes i < 2 * n := by unfold bes; split <;> omega
def sides : Nat → Nat → List BA → List BA
  | 0, _, _ => []
  | j + 1, i, x => rdOf ByteArray.empty x (bes i : Int) :: sides j (i / 2) (up1 x)
theorem sides_length (j : Nat) : ∀ i x, (sides j i x).length = j := by
  induction j with
  | zero => intro i x; rfl
  | succ j ih => intro i x; simp only [sides, List.length_cons, ih]
theorem sides_size (j : Nat) : ∀ (i : Nat) (x : List BA), x.length = 2 ^ j → i < 2 ^ j → (∀ y ∈ x, y.size = 32) → ∀ y ∈ sides j i x, y.size = 32 := by
  induction j with
  | zero => intro i x _ _ _ y hy; simp [sides] at hy
  | succ j ih =>
    intro i x hx hi hs y hy
    have hx2 : x.length = 2 * 2 ^ j := by rw [hx, Nat.pow_succ]; omega
    have hi2 : i < 2 * 2 ^ j := by rw [Nat.pow_succ] at hi; omega
    simp only [sides, List.mem_cons] at hy
    rcases hy with rfl | hy
    · rw [rdOf_get (by rw [hx2]; exact bes_lt hi2)]
      exact hs _ (List.getElem_mem _)
    · exact ih (i / 2) (up1 x) (up1_length _ _ hx2) (by omega) (up1_size _ _ hx2) y hy
theorem spec_branch_l0 (j : Nat) : ∀ (i : Nat) (acc x : List BA) (k : Nat), j ≤ 5 → x.length = 2 ^ j → i < 2 ^ j → (∀ y ∈ x, y.size = 32) → acc.length + j ≤ 1000 → 100 + j ≤ k → spec_BranchOf.l0 k (i : Int) acc x = some (acc ++ sides j i x) := by
  induction j with
  | zero =>
    intro i acc x k hj hx hi hs ha hk
    obtain ⟨k, rfl⟩ : ∃ m, k = m + 1 := ⟨k - 1, by omega⟩
    simp only [spec_BranchOf.l0]
    rw [if_neg (by rw [hx]; decide), sides, List.append_nil]
  | succ j ih =>
    intro i acc x k hj hx hi hs ha hk
    obtain ⟨k, rfl⟩ : ∃ m, k = m + 1 := ⟨k - 1, by omega⟩
    have hpj := pow_small (show j ≤ 5 by omega)
    have hp := pow_small hj
    have hx2 : x.length = 2 * 2 ^ j := by rw [hx, Nat.pow_succ]; omega
    have hi2 : i < 2 * 2 ^ j := by rw [Nat.pow_succ] at hi; omega
    obtain ⟨e1, e2⟩ := xor_dec i (by omega)
    have hb := bes_lt hi2
    simp only [spec_BranchOf.l0]
    rw [if_pos (by omega), e1, e2, if_pos (by omega), if_pos (by omega), if_pos (by omega), spec_up_f k x (2 ^ j) hx2 (by omega) hs (by omega), Option.bind_some,
      ih (i / 2) (acc ++ [rdOf ByteArray.empty x (bes i : Int)]) (up1 x) k (by omega) (up1_length _ _ hx2) (by omega) (up1_size _ _ hx2) (by simp; omega) (by omega), List.append_assoc, List.singleton_append]
    rfl
theorem rd_mid (pre : List (List BA)) (x : List BA) (r : List (List BA)) : rd_L2 (pre ++ x :: r) ((pre.length : Nat) : Int) = x := by
  unfold rd_L2
  simp
theorem impl_branch_l0 (j : Nat) : ∀ (i : Nat) (acc : List BA) (pre : List (List BA)) (x : List BA) (k : Nat), j ≤ 5 → x.length = 2 ^ j → i < 2 ^ j → (∀ y ∈ x, y.size = 32) → acc.length + j ≤ 1000 → pre.length + j ≤ 1000 → j < k →
    impl_BranchOf.l0 k (i : Int) acc (pre ++ lows j x) ((pre.length + j : Nat) : Int) (pre.length : Int) = some (acc ++ sides j i x) := by
  induction j with
  | zero =>
    intro i acc pre x k hj hx hi hs ha hp hk
    obtain ⟨k, rfl⟩ : ∃ m, k = m + 1 := ⟨k - 1, by omega⟩
    simp only [impl_BranchOf.l0]
    rw [if_neg (by omega), sides, List.append_nil]
  | succ j ih =>
    intro i acc pre x k hj hx hi hs ha hp hk
    obtain ⟨k, rfl⟩ : ∃ m, k = m + 1 := ⟨k - 1, by omega⟩
    have hpj := pow_small (show j ≤ 5 by omega)
    have hp2 := pow_small hj
    have hx2 : x.length = 2 * 2 ^ j := by rw [hx, Nat.pow_succ]; omega
    have hi2 : i < 2 * 2 ^ j := by rw [Nat.pow_succ] at hi; omega
    obtain ⟨e1, e2⟩ := xor_dec i (by omega)
    have hb := bes_lt hi2
    have hl : (pre ++ lows (j + 1) x).length = pre.length + (j + 1) := by rw [List.length_append, lows_length]
    simp only [impl_BranchOf.l0]
    rw [if_pos (by omega), if_pos (by omega), if_pos (by rw [hl]; omega), e1, e2, if_pos (by omega), lows, rd_mid, if_pos (by omega), if_pos (by omega), wrap_in (by omega) (by omega)]
    have h := ih (i / 2) (acc ++ [rdOf ByteArray.empty x (bes i : Int)]) (pre ++ [x]) (up1 x) k (by omega) (up1_length _ _ hx2) (by omega) (up1_size _ _ hx2) (by simp; omega) (by simp; omega) (by omega)
    simp only [List.length_append, List.length_cons, List.length_nil, List.append_assoc, List.singleton_append] at h
    rw [show pre.length + (j + 1) = pre.length + (0 + 1) + j by omega, show ((pre.length : Nat) : Int) + 1 = ((pre.length + (0 + 1) : Nat) : Int) by omega, h]
    rfl
def branch (l : List BA) (i : Int) : List BA := if l.length ≤ 32 ∧ 0 ≤ i ∧ i < (l.length : Int) then sides (lg l.length) i.toNat (hashes l) else []
theorem lg_lt {n i : Nat} (h : n ≤ 32) (hi : i < n) : i < 2 ^ lg n := Nat.lt_of_lt_of_le hi (np_facts n (by omega)).1
theorem branch_length {l : List BA} {i : Int} (h : l.length ≤ 32 ∧ 0 ≤ i ∧ i < (l.length : Int)) : (branch l i).length = lg l.length := by
  unfold branch
  rw [if_pos h, sides_length]
theorem branch_le (l : List BA) (i : Int) : (branch l i).length ≤ 5 := by
  by_cases h : l.length ≤ 32 ∧ 0 ≤ i ∧ i < (l.length : Int)
  · rw [branch_length h]; exact (np_facts l.length (by omega)).2.1
  · unfold branch; rw [if_neg h]; decide
theorem branch_size (l : List BA) (i : Int) : ∀ y ∈ branch l i, y.size = 32 := by
  unfold branch
  split
  next h => exact sides_size _ _ _ (hashes_length h.1) (lg_lt h.1 (by omega)) (hashes_size l)
  next => intro y hy; simp at hy
theorem spec_branch (k : Nat) (hk : 400 ≤ k) (l : List BA) (i : Int) (hn : l.length ≤ 1048576) (hs : ∀ y ∈ l, y.size ≤ 1048576) : spec_BranchOf.f k l i = some (branch l i) := by
  obtain ⟨k, rfl⟩ : ∃ m, k = m + 1 := ⟨k - 1, by omega⟩
  have fj : spec_BranchOf.j0 (k + 1) l i [] true = some [] := by simp only [spec_BranchOf.j0, if_true]
  unfold spec_BranchOf.f branch
  rw [Option.bind_some]
  by_cases c : l.length ≤ 32
  case neg => rw [if_pos (by omega), fj, if_neg (by omega)]
  rw [if_neg (by omega), wrap_in (by omega) (by omega), l01In_f, Option.bind_some]
  by_cases c2 : 0 ≤ i ∧ i ≤ (l.length : Int) - 1
  case neg => rw [decide_eq_false c2, Bool.not_false, fj, if_neg (by omega)]
  rw [decide_eq_true c2, Bool.not_true, if_pos ⟨c, by omega, by omega⟩]
  simp only [spec_BranchOf.j0]
  rw [if_neg (by decide), spec_hashes k (by omega) l c hs, Option.bind_some]
  obtain ⟨n, rfl⟩ : ∃ n : Nat, i = (n : Int) := ⟨i.toNat, by omega⟩
  have h5 := (np_facts l.length (by omega)).2.1
  have h := spec_branch_l0 (lg l.length) n [] (hashes l) k h5 (hashes_length c) (lg_lt c (by omega)) (hashes_size l) (by simp; omega) (by omega)
  simpa using h
theorem impl_branch (k : Nat) (hk : 500 ≤ k) (l : List BA) (i : Int) (hs : ∀ y ∈ l, y.size ≤ 1048576) : impl_BranchOf.f k l i = some (branch l i) := by
  obtain ⟨k, rfl⟩ : ∃ m, k = m + 1 := ⟨k - 1, by omega⟩
  have fj : impl_BranchOf.j0 (k + 1) l i true = some [] := by simp only [impl_BranchOf.j0, if_true]
  unfold impl_BranchOf.f branch
  by_cases c : l.length ≤ 32
  case neg => rw [if_pos (by omega), fj, if_neg (by omega)]
  rw [if_neg (by omega)]
  by_cases c0 : i < 0
  · rw [if_pos c0, fj, if_neg (by omega)]
  rw [if_neg c0]
  by_cases c2 : i ≥ (l.length : Int)
  · rw [decide_eq_true c2, fj, if_neg (by omega)]
  rw [decide_eq_false c2, if_pos ⟨c, by omega, by omega⟩]
  simp only [impl_BranchOf.j0]
  obtain ⟨n, rfl⟩ : ∃ n : Nat, i = (n : Int) := ⟨i.toNat, by omega⟩
  have h5 := (np_facts l.length (by omega)).2.1
  have e1 : (lows (lg l.length) (hashes l) ++ [tops (lg l.length) (hashes l)]).length = lg l.length + 1 := by rw [List.length_append, lows_length]; rfl
  have e2 : wrap64 ((((lows (lg l.length) (hashes l) ++ [tops (lg l.length) (hashes l)]).length : Nat) : Int) - 1) = ((lg l.length : Nat) : Int) := by rw [e1, wrap_in (by omega) (by omega)]; omega
  have e3 : (lows (lg l.length) (hashes l) ++ [tops (lg l.length) (hashes l)]).take (lg l.length) = lows (lg l.length) (hashes l) := by
    have h := List.take_left (l₁ := lows (lg l.length) (hashes l)) (l₂ := [tops (lg l.length) (hashes l)])
    rwa [lows_length] at h
  rw [if_neg (by decide), levels_f k (by omega) l c hs, Option.bind_some, levels_split, e2, if_pos (by omega), if_pos (by rw [e1]; omega), Option.bind_some, Int.toNat_natCast, e3, lows_length]
  have h := impl_branch_l0 (lg l.length) n [] [] (hashes l) k h5 (hashes_length c) (lg_lt c (by omega)) (hashes_size l) (by simp; omega) (by simp; omega) (by omega)
  simpa using h
end Go.Proofs.YtmiiknkfhiecgaaDoor.Tree
end
section
/- What is proved here: what the laws' marks over lists of texts answer. No conditions but that a list is no longer than 2^20. -/
set_option linter.unusedVariables false
set_option linter.unusedSimpArgs false
namespace Go.Proofs.YtmiiknkfhiecgaaDoor.Tree
open Go.RowKit Go.Proofs.YtmiiknkfhiecgaaDoor.Pf Go.Proofs.YtmiiknkfhiecgaaDoorW.PrintWords Go.Proofs.YtmiiknkfhiecgaaDoor.Strs
theorem mt_l0 (k : Nat) : ∀ (n : Int) (x : ByteArray), 0 ≤ n → n < ((10 ^ k : Nat) : Int) → n ≤ 1000000000 → x.size + k ≤ 1000000 → ∃ t, laws_markText.l0 (k + 1) n x = some t := by
  induction k with
  | zero =>
    intro n x h0 h1 h2 hx
    simp only [laws_markText.l0]
    rw [if_neg (by omega), if_pos (by omega)]
    exact ⟨_, rfl⟩
  | succ k ih =>
    intro n x h0 h1 h2 hx
    rw [laws_markText.l0]
    by_cases c : n > 0
    · have h3 : (strOfNums [(wrap64 (48 + (Int.tmod n 10))) % 256]).size = 1 := by simp [strOfNums, ByteArray.size]
      have h4 : (10 : Nat) ^ (k + 1) = 10 * 10 ^ k := by rw [Nat.pow_succ, Nat.mul_comm]
      rw [if_pos c, Option.bind_some, if_pos (by omega), Int.tdiv_eq_ediv_of_nonneg h0, wrap_in (by omega) (by omega)]
      refine ih (n / 10) _ (by omega) ?_ (by omega) (by rw [ByteArray.size_append]; omega)
      generalize 10 ^ k = P at *
      omega
    · rw [if_neg c, if_pos (by omega)]
      exact ⟨_, rfl⟩
def mt (n : Int) : ByteArray := (laws_markText.f 11 n).getD ByteArray.empty
theorem mt_f (n : Int) (h2 : n ≤ 1000000000) {k : Nat} (hk : 11 ≤ k) : laws_markText.f k n = some (mt n) := by
  refine at_rounds (g := fun k => laws_markText.f k n) (fun k => laws_markText.mono n k) hk ?_
  have h : ∃ t, laws_markText.f 11 n = some t := by
    unfold laws_markText.f
    by_cases c : n ≤ 0
    · rw [if_pos c]; exact ⟨_, rfl⟩
    · rw [if_neg c]
      exact mt_l0 10 n _ (by omega) (by omega) h2 (by decide)
  obtain ⟨t, ht⟩ := h
  show laws_markText.f 11 n = some (mt n)
  unfold mt
  rw [ht]
  rfl
def mks (m : Int) : Nat → List ByteArray
  | 0 => []
  | n + 1 => mks m n ++ [mt (m + (n : Int))]
theorem mks_length (m : Int) : ∀ n, (mks m n).length = n
  | 0 => rfl
  | n + 1 => by rw [mks, List.length_append, mks_length m n]; rfl
theorem mks_get (m : Int) : ∀ (n i : Nat) (h : i < n), rdOf ByteArray.empty (mks m n) (i : Int) = mt (m + (i : Int))
  | 0, i, h => by omega
  | n + 1, i, h => by
    have hl := mks_length m n
    rw [rdOf_get (by rw [mks_length]; exact h)]
    simp only [mks]
    by_cases c : i = n
    · subst c
      rw [List.getElem_append_right (by omega)]
      simp [hl]
    · rw [List.getElem_append_left (by omega), ← rdOf_get (by omega)]
      exact mks_get m n i (by omega)
theorem mark_l0 (m : Int) (hm : 0 ≤ m) (hm2 : m ≤ 100000000) (ys : List ByteArray) : ∀ (i k : Nat), i + ys.length ≤ 1048576 → ys.length + 11 < k →
    laws_markStringS.l0 k (mks m i ++ ys) (m + (i : Int)) (i : Int) = some (m + ((i + ys.length : Nat) : Int), mks m (i + ys.length)) := by
  induction ys with
  | nil =>
    intro i k hi hk
    obtain ⟨k, rfl⟩ : ∃ m, k = m + 1 := ⟨k - 1, by omega⟩
    simp only [laws_markStringS.l0]
    rw [if_neg (by simp [mks_length])]
    simp
  | cons y ys ih =>
    intro i k hi hk
    simp only [List.length_cons] at hi hk
    obtain ⟨k, rfl⟩ : ∃ m, k = m + 1 := ⟨k - 1, by omega⟩
    have hl := mks_length m i
    have hs : (mks m i ++ y :: ys).set i (mt (m + (i : Int))) = mks m (i + 1) ++ ys := by
      rw [List.set_append_right _ _ (by omega), hl, Nat.sub_self, List.set_cons_zero, mks, List.append_assoc, List.singleton_append]
    simp only [laws_markStringS.l0]
    rw [if_pos (by simp [hl]; omega), mt_f _ (by omega) (by omega), Option.bind_some, if_pos (by omega), Int.toNat_natCast, hs, wrap_in (i := m + (i : Int) + 1) (by omega) (by omega), wrap_in (i := (i : Int) + 1) (by omega) (by omega)]
    have h := ih (i + 1) k (by omega) (by omega)
    rw [show m + ((i + 1 : Nat) : Int) = m + (i : Int) + 1 by omega, show ((i + 1 : Nat) : Int) = (i : Int) + 1 by omega] at h
    simp only [List.length_cons]
    rw [show i + (ys.length + 1) = i + 1 + ys.length by omega, ← h]
theorem mark_f (ys : List ByteArray) (hl : ys.length ≤ 1048576) (k : Nat) (hk : ys.length + 11 < k) : laws_markStringS.f k ys 1 = some (1 + (ys.length : Int), mks 1 ys.length) := by
  unfold laws_markStringS.f
  have h := mark_l0 1 (by decide) (by decide) ys 0 k (by omega) hk
  simpa [mks] using h
theorem held_l0 (m : Int) (hm : 0 ≤ m) (hm2 : m ≤ 100000000) (n : Nat) (hn : n ≤ 1048576) : ∀ (d i k : Nat), i + d = n → d + 11 < k →
    laws_heldStringS.l0 k (mks m n) (m + (i : Int)) (i : Int) = some (m + (n : Int))
  | 0, i, k, hi, hk => by
    obtain ⟨k, rfl⟩ : ∃ m, k = m + 1 := ⟨k - 1, by omega⟩
    simp only [laws_heldStringS.l0]
    rw [if_neg (by rw [mks_length]; omega), show i = n by omega]
  | d + 1, i, k, hi, hk => by
    obtain ⟨k, rfl⟩ : ∃ m, k = m + 1 := ⟨k - 1, by omega⟩
    simp only [laws_heldStringS.l0]
    rw [if_pos (by rw [mks_length]; omega), if_pos (by omega), mks_get m n i (by omega), mt_f _ (by omega) (by omega), Option.bind_some, if_pos rfl, wrap_in (i := m + (i : Int) + 1) (by omega) (by omega), wrap_in (i := (i : Int) + 1) (by omega) (by omega)]
    have h := held_l0 m hm hm2 n hn d (i + 1) k (by omega) (by omega)
    rw [show m + ((i + 1 : Nat) : Int) = m + (i : Int) + 1 by omega, show ((i + 1 : Nat) : Int) = (i : Int) + 1 by omega] at h
    exact h
theorem held_f (n : Nat) (hn : n ≤ 1048576) (k : Nat) (hk : n + 11 < k) : laws_heldStringS.f k (mks 1 n) 1 = some (1 + (n : Int)) := by
  unfold laws_heldStringS.f
  have h := held_l0 1 (by decide) (by decide) n hn n 0 k (by omega) hk
  simpa using h
end Go.Proofs.YtmiiknkfhiecgaaDoor.Tree
end
section
/- What is proved here: for every list of leaves and every place the program's BranchOf and the reference's answer the same list, new each time; the leaves stay as they were. No conditions. -/
set_option linter.unusedVariables false
set_option linter.unusedSimpArgs false
namespace Go.Proofs.YtmiiknkfhiecgaaDoor.Pure
open Go.RowKit Go.Proofs.YtmiiknkfhiecgaaDoor.Pf Go.Proofs.YtmiiknkfhiecgaaDoorW.PrintWords Go.Proofs.YtmiiknkfhiecgaaDoor.Strs Go.Proofs.YtmiiknkfhiecgaaDoor.Tree
theorem FnExactBranchOf : laws_FnExactBranchOf.Pure := by
  intro l2 i h2 hi
  obtain ⟨K, hK⟩ : ∃ K, K = 2000000 := ⟨_, rfl⟩
  refine ⟨K + 1, ?_⟩
  obtain ⟨r, hr, hr2⟩ := szStringS_f l2 h2.1 (fun y hy => Nat.le_trans (h2.2 y hy) (by decide)) (K + 1) (by omega)
  unfold laws_FnExactBranchOf.f
  rw [hr, Option.bind_some]
  by_cases c1 : r < 0
  · rw [if_pos c1]
  have hb := hr2.resolve_left c1
  have hs : ∀ y ∈ l2, y.size ≤ 1048576 := fun y hy => by have := total_mem hy; omega
  have h5 := branch_le l2 i
  rw [if_neg c1, toStringS_f l2 (by omega) (K + 1) (by omega), Option.bind_some, spec_branch (K + 1) (by omega) l2 i (by omega) hs, Option.bind_some, Option.bind_some, impl_branch (K + 1) (by omega) l2 i hs, Option.bind_some,
    eqStringS_same (branch l2 i) (by omega) (K + 1) (by omega), Option.bind_some, if_pos rfl, Option.bind_some, eqStringS_same l2 (by omega) (K + 1) (by omega), Option.bind_some, if_pos rfl, mark_f l2 (by omega) (K + 1) (by omega), Option.bind_some, if_neg (by show ¬ (1 + (l2.length : Int) < 0); omega), Option.bind_some, Bool.not_true]
  simp only [laws_FnExactBranchOf.j0]
  rw [if_neg (by decide), mark_f (branch l2 i) (by omega) K (by omega), Option.bind_some, held_f (branch l2 i).length (by omega) K (by omega), Option.bind_some, if_neg (by omega), if_pos rfl, toStringS_f l2 (by omega) K (by omega), Option.bind_some,
    impl_branch K (by omega) l2 i hs, Option.bind_some, eqStringS_same (branch l2 i) (by omega) K (by omega), Option.bind_some, if_pos rfl, Option.bind_some, if_neg (by omega), if_pos rfl]
end Go.Proofs.YtmiiknkfhiecgaaDoor.Pure
end
section
/- What is proved here: a value of a Go type that reads as data opens into the print's own kinds (Kd), for whole numbers, bools, strings, slices and structs. No conditions. -/
set_option linter.unusedVariables false
set_option linter.unusedSimpArgs false
namespace Go.Proofs.YtmiiknkfhiecgaaDoor.Open
open Go.RowKit Go.Proofs.YtmiiknkfhiecgaaDoorW.PrintWords Go.ChangeShapes Go.WideShapes

def Opens (P : Program) (t : TypeId) {α : Type} (d : Kd α) (g : α → Prop) : Prop :=
  ∀ {H : Type} (enc : TypeId × Value → H) (w : World) (base : Nat) (spare : Nat → Bool) (held : Bool) (fuel : Nat) (cs : List Value) (x : DataW H × List MemPlace),
    DataW.trod enc P w base spare held fuel t cs = some x → ∃ a, d.K w a cs ∧ g a

theorem list_of {α : Type} {p : Nat → α → Prop} : ∀ n, (∀ i, i < n → ∃ y, p i y) → ∃ ys : List α, ys.length = n ∧ ∀ i y, ys[i]? = some y → p i y
  | 0, _ => ⟨[], rfl, fun i y h => by simp at h⟩
  | n + 1, h => by
    obtain ⟨ys, hl, hy⟩ := list_of n (fun i hi => h i (by omega))
    obtain ⟨y, hy'⟩ := h n (by omega)
    refine ⟨ys ++ [y], by simp [hl], fun i z hz => ?_⟩
    rcases Nat.lt_or_ge i n with hi | hi
    · rw [List.getElem?_append_left (by omega)] at hz
      exact hy i z hz
    · have h1 := (List.getElem?_eq_some_iff.1 hz).1
      rw [List.length_append, List.length_singleton] at h1
      have h2 : i = n := by omega
      subst h2
      rw [List.getElem?_append_right (by omega), hl, Nat.sub_self] at hz
      simp at hz
      subst hz
      exact hy'

section
variable {P : Program} {t : TypeId}
theorem opens_int {k : IntKind} (h : P.underlying t = some (.int k)) : Opens P t (Kd.int k) (fun n => (Lit.int k n).wf = true) := by
  intro H enc w base spare held fuel cs x hx
  obtain ⟨n, rfl, _, hw⟩ := DataW.trod_int h hx
  exact ⟨n, rfl, hw⟩
theorem opens_bool (h : P.underlying t = some .bool) : Opens P t Kd.bool (fun _ => True) := by
  intro H enc w base spare held fuel cs x hx
  obtain ⟨b, hb⟩ : ∃ b, cs = [.bool b] := by
    cases fuel with
    | zero => simp [DataW.trod] at hx
    | succ n =>
      unfold DataW.trod at hx
      rw [h] at hx
      split at hx <;> simp_all
  exact ⟨b, hb, trivial⟩
theorem opens_string (h : P.underlying t = some .string) : Opens P t Kd.string (fun s => s.size ≤ maxLen) := by
  intro H enc w base spare held fuel cs x hx
  obtain ⟨n, rfl, _, hw⟩ := DataW.trod_string h hx
  exact ⟨n, rfl, hw⟩
theorem opens_slice {e : TypeId} {α : Type} {d : Kd α} {g : α → Prop} (ht : P.underlying t = some (.slice e)) (hc : P.cellsOf e = d.sz) (he : Opens P e d g) :
    Opens P t (Kd.slice e d) (fun xs => xs.length ≤ 9223372036854775807 ∧ ∀ x ∈ xs, g x) := by
  intro H enc w base spare held fuel cs x h
  rcases Go.Deep.open_slice ht h with ⟨rfl, _⟩ | ⟨a, len, cap, m, n, D, Pl, rfl, hb, hl, hm, hmm, _, hx⟩
  · exact ⟨[], ⟨none, 0, rfl, Nat.le_refl _, Kd.C_nil d w⟩, by simp, fun x hx => by cases hx⟩
  · have hlm : len ≤ m := by rw [hmm]; split <;> omega
    obtain ⟨ys, hy1, hy2⟩ := list_of (p := fun i y => ∃ c, w.cells? base (a.add (i * P.cellsOf e)) (P.cellsOf e) = some c ∧ d.K w y c ∧ g y) len (fun i hi => by
      obtain ⟨c, h1, h2⟩ := hx i (by omega)
      obtain ⟨y, h3, h4⟩ := he _ _ _ _ _ _ _ _ h2
      exact ⟨y, c, h1, h3, h4⟩)
    unfold maxLen at hm
    refine ⟨ys, ⟨some a, cap, by rw [hy1], by omega, rfl, by omega, fun _ => ⟨a, rfl, fun j p hp => ?_⟩⟩, by omega, fun y hy => ?_⟩
    · obtain ⟨c, h1, h2, h3⟩ := hy2 j p hp
      obtain ⟨_, hlen, hcell⟩ := World.cells?_some h1
      refine ⟨c, by rw [hlen, hc], h2, fun i u hu => ?_⟩
      have hi := (List.getElem?_eq_some_iff.1 hu).1
      have := hcell i (by omega)
      rw [Go.Deep.add_add, hc] at this
      rw [this, hu]
    · obtain ⟨i, hi⟩ := List.mem_iff_getElem?.1 hy
      obtain ⟨c, h1, h2, h3⟩ := hy2 i y hi
      exact h3
theorem opens_iso {α β : Type} {d : Kd α} {g : α → Prop} (f : β → α) (mk : α → β) (hf : ∀ a, f (mk a) = a) (h : Opens P t d g) : Opens P t (Kd.iso d f) (fun x => g (f x)) := by
  intro H enc w base spare held fuel cs x hx
  obtain ⟨a, h1, h2⟩ := h enc w base spare held fuel cs x hx
  exact ⟨mk a, by show d.K w (f (mk a)) cs; rw [hf]; exact h1, by show g (f (mk a)); rw [hf]; exact h2⟩
theorem struct_field {fs : Array Field} {H : Type} {enc : TypeId × Value → H} {w : World} {base : Nat} {spare : Nat → Bool} {held : Bool} {n : Nat} {cs : List Value} {xs : List (DataW H × List MemPlace)} (hl : xs.length = fs.size)
    (hf : ∀ (i : Nat) (f : Field), fs[i]? = some f → DataW.trod enc P w base spare held n f.type ((cs.drop f.offset).take (P.cellsOf f.type)) = xs[i]?) {i : Nat} {f : Field} (hi : fs[i]? = some f) {α : Type} {d : Kd α} {g : α → Prop} (ho : Opens P f.type d g) :
    ∃ a, d.K w a ((cs.drop f.offset).take (P.cellsOf f.type)) ∧ g a := by
  have h1 := hf i f hi
  have h2 : i < xs.length := by rw [hl]; exact (Array.getElem?_eq_some_iff.1 hi).1
  rw [List.getElem?_eq_getElem h2] at h1
  exact ho _ _ _ _ _ _ _ _ h1
theorem opens_struct1 {f0 : Field} {α : Type} {d0 : Kd α} {g0 : α → Prop} (ht : P.underlying t = some (.struct #[f0])) (h0 : Opens P f0.type d0 g0)
    (s0 : P.cellsOf f0.type = d0.sz) (o0 : f0.offset = 0) (st : P.cellsOf t = d0.sz) : Opens P t d0 g0 := by
  intro H enc w base spare held fuel cs x hx
  obtain ⟨xs, n, _, _, hlen, hl, hf⟩ := DataW.trod_struct ht hx
  obtain ⟨a, ha, hg⟩ := struct_field hl hf (i := 0) (f := f0) rfl h0
  rw [o0, s0, List.drop_zero, List.take_of_length_le (by omega)] at ha
  exact ⟨a, ha, hg⟩
theorem opens_struct2 {f0 f1 : Field} {α β : Type} {d0 : Kd α} {d1 : Kd β} {g0 : α → Prop} {g1 : β → Prop} (ht : P.underlying t = some (.struct #[f0, f1])) (h0 : Opens P f0.type d0 g0) (h1 : Opens P f1.type d1 g1)
    (s0 : P.cellsOf f0.type = d0.sz) (s1 : P.cellsOf f1.type = d1.sz) (o0 : f0.offset = 0) (o1 : f1.offset = d0.sz) (st : P.cellsOf t = d0.sz + d1.sz) : Opens P t (Kd.pair d0 d1) (fun x => g0 x.1 ∧ g1 x.2) := by
  intro H enc w base spare held fuel cs x hx
  obtain ⟨xs, n, _, _, hlen, hl, hf⟩ := DataW.trod_struct ht hx
  obtain ⟨a, ha, ga⟩ := struct_field hl hf (i := 0) (f := f0) rfl h0
  obtain ⟨b, hb, gb⟩ := struct_field hl hf (i := 1) (f := f1) rfl h1
  rw [o0, s0, List.drop_zero] at ha
  rw [o1, s1, List.take_of_length_le (by rw [List.length_drop]; omega)] at hb
  exact ⟨(a, b), ⟨_, _, (List.take_append_drop d0.sz cs).symm, ha, hb⟩, ga, gb⟩
theorem opens_struct3 {f0 f1 f2 : Field} {α β γ : Type} {d0 : Kd α} {d1 : Kd β} {d2 : Kd γ} {g0 : α → Prop} {g1 : β → Prop} {g2 : γ → Prop} (ht : P.underlying t = some (.struct #[f0, f1, f2])) (h0 : Opens P f0.type d0 g0) (h1 : Opens P f1.type d1 g1) (h2 : Opens P f2.type d2 g2)
    (s0 : P.cellsOf f0.type = d0.sz) (s1 : P.cellsOf f1.type = d1.sz) (s2 : P.cellsOf f2.type = d2.sz) (o0 : f0.offset = 0) (o1 : f1.offset = d0.sz) (o2 : f2.offset = d0.sz + d1.sz) (st : P.cellsOf t = d0.sz + d1.sz + d2.sz) :
    Opens P t (Kd.pair d0 (Kd.pair d1 d2)) (fun x => g0 x.1 ∧ g1 x.2.1 ∧ g2 x.2.2) := by
  intro H enc w base spare held fuel cs x hx
  obtain ⟨xs, n, _, _, hlen, hl, hf⟩ := DataW.trod_struct ht hx
  obtain ⟨a, ha, ga⟩ := struct_field hl hf (i := 0) (f := f0) rfl h0
  obtain ⟨b, hb, gb⟩ := struct_field hl hf (i := 1) (f := f1) rfl h1
  obtain ⟨c, hc, gc⟩ := struct_field hl hf (i := 2) (f := f2) rfl h2
  rw [o0, s0, List.drop_zero] at ha
  rw [o1, s1] at hb
  rw [o2, s2, List.take_of_length_le (by rw [List.length_drop]; omega)] at hc
  refine ⟨(a, b, c), ⟨_, _, (List.take_append_drop d0.sz cs).symm, ha, _, _, (List.take_append_drop d1.sz _).symm, hb, ?_⟩, ga, gb, gc⟩
  rw [List.drop_drop]
  exact hc
theorem opens_struct4 {f0 f1 f2 f3 : Field} {α β γ δ : Type} {d0 : Kd α} {d1 : Kd β} {d2 : Kd γ} {d3 : Kd δ} {g0 : α → Prop} {g1 : β → Prop} {g2 : γ → Prop} {g3 : δ → Prop} (ht : P.underlying t = some (.struct #[f0, f1, f2, f3]))
    (h0 : Opens P f0.type d0 g0) (h1 : Opens P f1.type d1 g1) (h2 : Opens P f2.type d2 g2) (h3 : Opens P f3.type d3 g3)
    (s0 : P.cellsOf f0.type = d0.sz) (s1 : P.cellsOf f1.type = d1.sz) (s2 : P.cellsOf f2.type = d2.sz) (s3 : P.cellsOf f3.type = d3.sz) (o0 : f0.offset = 0) (o1 : f1.offset = d0.sz) (o2 : f2.offset = d0.sz + d1.sz) (o3 : f3.offset = d0.sz + d1.sz + d2.sz)
    (st : P.cellsOf t = d0.sz + d1.sz + d2.sz + d3.sz) :
    Opens P t (Kd.pair d0 (Kd.pair d1 (Kd.pair d2 d3))) (fun x => g0 x.1 ∧ g1 x.2.1 ∧ g2 x.2.2.1 ∧ g3 x.2.2.2) := by
  intro H enc w base spare held fuel cs x hx
  obtain ⟨xs, n, _, _, hlen, hl, hf⟩ := DataW.trod_struct ht hx
  obtain ⟨a, ha, ga⟩ := struct_field hl hf (i := 0) (f := f0) rfl h0
  obtain ⟨b, hb, gb⟩ := struct_field hl hf (i := 1) (f := f1) rfl h1
  obtain ⟨c, hc, gc⟩ := struct_field hl hf (i := 2) (f := f2) rfl h2
  obtain ⟨d, hd, gd⟩ := struct_field hl hf (i := 3) (f := f3) rfl h3
  rw [o0, s0, List.drop_zero] at ha
  rw [o1, s1] at hb
  rw [o2, s2] at hc
  rw [o3, s3, List.take_of_length_le (by rw [List.length_drop]; omega)] at hd
  refine ⟨(a, b, c, d), ⟨_, _, (List.take_append_drop d0.sz cs).symm, ha, _, _, (List.take_append_drop d1.sz _).symm, hb, _, _, (List.take_append_drop d2.sz _).symm, ?_, ?_⟩, ga, gb, gc, gd⟩
  · rw [List.drop_drop]
    exact hc
  · rw [List.drop_drop, List.drop_drop, ← Nat.add_assoc]
    exact hd
end
end Go.Proofs.YtmiiknkfhiecgaaDoor.Open
end
section
/- What is proved here: the listed tables, as the row's condition lays them, stand in memory; the door's own heap meets the condition. No conditions but those that each theorem names. -/
namespace Go.Proofs.YtmiiknkfhiecgaaDoor.Laid
open Go.ChangeShapes Go.WideShapes Go.ChangeAt Go.RowKit
set_option maxRecDepth 100000
theorem arr_cells {P : Program} {H : Type} {enc : TypeId × Value → H} {w : World} {spare : Nat → Bool} {held : Bool} {fuel : Nat} {t e : TypeId} {n : Nat} {k : IntKind} {cs : List Value} {L : List Int} {p : List MemPlace}
    (ht : P.underlying t = some (.array n e)) (he : P.underlying e = some (.int k)) (c1 : P.cellsOf e = 1)
    (hd : DataW.trod enc P w 0 spare held fuel t cs = some (.agg (L.map fun z => .lit (.int k z)), p)) :
    ∀ i : Nat, i < n → cs[i]? = some (.int k (Kp.ga L i)) := by
  intro i hi
  obtain ⟨xs, m, rfl, hx, hlen, hn, hel⟩ := DataW.trod_array ht hd
  have h1 := hel i hi
  rw [c1, Nat.mul_one] at h1
  have hi' : i < xs.length := hn.symm ▸ hi
  rw [List.getElem?_eq_getElem hi'] at h1
  obtain ⟨z, hz, hz2, _⟩ := DataW.trod_int he h1
  simp only [Prod.mk.injEq, DataW.agg.injEq] at hx
  have hL : (L.map fun z => (DataW.lit (.int k z) : DataW H))[i]? = (xs.map (·.1))[i]? := by rw [hx.1]
  rw [List.getElem?_map, List.getElem?_map, List.getElem?_eq_getElem hi', hz2] at hL
  have hLz : Kp.ga L i = z := by
    unfold Kp.ga
    rw [List.getD_eq_getElem?_getD]
    cases hq : L[i]? with
    | none => rw [hq] at hL; simp at hL
    | some y => rw [hq] at hL; simpa using hL
  rw [hLz]
  have h2 : ((cs.drop i).take 1)[0]? = some (.int k z) := by rw [hz]; rfl
  simpa using h2
theorem gR : Tryd.prog.globalNamed "loop.example/g00321/impl.roundConstants" = some 1 := by kernel_rfl
theorem gT : Tryd.prog.globalNamed "loop.example/g00321/impl.turns" = some 0 := by kernel_rfl
theorem tR : (Tryd.prog.globals[1]?).map (·.type) = some 96 := by kernel_rfl
theorem tT : (Tryd.prog.globals[0]?).map (·.type) = some 120 := by kernel_rfl
abbrev laidL : List (String × DataW Unit) := [("loop.example/g00321/impl.roundConstants", Rows.laid_loop_example_g00321_impl_roundConstants), ("loop.example/g00321/impl.turns", Rows.laid_loop_example_g00321_impl_turns)]
theorem cell_lt {W : World} {g i : Nat} {v : Value} (h : W.cell? ⟨g, i, none⟩ = some v) : g < W.heap.size := by
  unfold World.cell? at h
  by_cases hg : g < W.heap.size
  · exact hg
  · simp [hg] at h
theorem tab {W : World} (h : laidMetH Tryd.prog laidL W) : Kp.Tab W := by
  rw [MakeChecks.laidMetH_plain _ _ _ (by kernel_rfl)] at h
  obtain ⟨ps, ⟨g0, t0, cs0, f0, p0, q0, hg0, ht0, hv0, hd0, ⟨g1, t1, cs1, f1, p1, q1, hg1, ht1, hv1, hd1, _, _⟩, _⟩, _, _⟩ := h
  obtain rfl := Option.some.inj (gR.symm.trans hg0)
  obtain rfl := Option.some.inj (gT.symm.trans hg1)
  obtain rfl := Option.some.inj (tR.symm.trans ht0)
  obtain rfl := Option.some.inj (tT.symm.trans ht1)
  have r : ∀ i : Nat, i < 24 → W.cell? ⟨1, i, none⟩ = some (.int .u64 (Kp.ga Kp.rcL i)) := fun i hi => by
    rw [World.var?_cell hg0 hv0 i, ← Array.getElem?_toList]
    exact arr_cells (L := Kp.rcL) Tryd.underlying96 Tryd.underlying73 (by kernel_rfl) hd0 i hi
  have t : ∀ i : Nat, i < 25 → W.cell? ⟨0, i, none⟩ = some (.int .i64 (Kp.ga Kp.turnsL i)) := fun i hi => by
    rw [World.var?_cell hg1 hv1 i, ← Array.getElem?_toList]
    exact arr_cells (L := Kp.turnsL) Tryd.underlying120 Tryd.underlying3 (by kernel_rfl) hd1 i hi
  exact ⟨t, r, cell_lt (t 0 (by decide)), cell_lt (r 0 (by decide))⟩
/-- The door's own heap meets the condition. -/
theorem door_met (os : Os) (args : Array Value) : laidMetH Tryd.prog laidL ((World.doorLaid Tryd.prog 400 os).forCall (fun _ _ => 0) ⟨#[], args, []⟩).memory :=
  laidMetH_of_parts3 (fuel := 8) (laidMet_of_run' 8 (by kernel_rfl) (by kernel_rfl)) (by kernel_rfl) (by kernel_rfl)
#print axioms door_met
#print axioms tab
end Go.Proofs.YtmiiknkfhiecgaaDoor.Laid
end
section
namespace Go.Proofs.YtmiiknkfhiecgaaDoor.fnExactBranchOf
open Go.ChangeShapes Go.WideShapes Go.ChangeAt Go.RowKit Go.Proofs.YtmiiknkfhiecgaaDoorW.PrintWords Go.Proofs.YtmiiknkfhiecgaaDoor.Open Go.Proofs.YtmiiknkfhiecgaaDoor.Pf
open Go.ChangeMaps (open_string shut_string)
set_option linter.unusedVariables false
set_option linter.unusedSimpArgs false
theorem own : ownKnob Tryd.prog.godebug = none := by kernel_rfl
theorem laidOut : laidOutB Tryd.prog = true := by kernel_rfl
set_option maxRecDepth 100000 in
theorem lifted (os : Os) (started : os.Started) (H : Type) (enc : TypeId × Value → H) :
  ReturnsInHanded {} Tryd.checked os 6 .any (fun w args => (Rows.fnExactBranchOfSpec.pre enc Tryd.prog Tryd.f6 [] false w args ∧ laidMetH Tryd.prog Laid.laidL w) ∧ sizedMet enc Tryd.prog Tryd.f6 (OpenSpec.ofChange Rows.fnExactBranchOfSpec) false w args)
   (Rows.fnExactBranchOfSpec.post enc Tryd.prog Tryd.f6 false true false false) := by
 refine returnsInHanded_of_change_and (C := Tryd.checked) (X := fun w _ => laidMetH Tryd.prog Laid.laidL w) (fun _ _ _ hh h => h.of_heap hh) own started (by kernel_rfl) Tryd.func6
  (ChangeSpec.witness_shaped (enc := enc) (C := Tryd.checked) (os := os) (X := fun w _ => laidMetH Tryd.prog Laid.laidL w) false (World.doorLaid Tryd.prog 400 os) #[.slice none 0 0, .int .i64 0] 8 rfl (World.shaped_of_RefB (by kernel_rfl) (by kernel_rfl)) (by kernel_rfl) (by kernel_rfl) (by kernel_rfl) (Laid.door_met os _)) ?_
 intro W base args ds gs before hval0 hW hcnd hsz0 hL _
 have hT := Laid.tab hL
 have hsz : (DataW.weightsEach Tryd.prog (Tryd.f6.params.toList ++ Rows.fnExactBranchOfSpec.plain.varTypes Tryd.prog) (ds ++ gs)).all (· ≤ reachBytes) = true := hsz0
 have hval : ∀ (j : Nat) t v, Tryd.f6.params[j]? = some t → args[j]? = some v → Value.okWide Tryd.prog W .any base t v := hval0
 have hW' := hW
 obtain ⟨p, q, hA0, hV, rfl, hfz, hnd⟩ := hW
 have hA : DataW.TrodAll enc Tryd.prog W 0 (fun _ => true) true Tryd.f6.params.toList args.toList ds p := hA0
 rw [Tryd.params6] at hA hval hsz
 obtain ⟨v0, vs0, d0, ds0, p0, q0, hargs, rfl, rfl, h0, r0⟩ := trodAll_cons hA
 obtain ⟨v1, vs1, d1, ds1, p1, q1, rfl, rfl, rfl, h1, r1⟩ := trodAll_cons r0
 obtain ⟨rfl, rfl, rfl⟩ := trodAll_nil r1
 obtain rfl : args = #[v0, v1] := by cases args; simp_all
 have hV2 : DataW.TrodVars enc Tryd.prog W (fun _ => true) ["loop.example/g00321/impl.turns", "loop.example/g00321/impl.roundConstants"] gs q := hV
 obtain ⟨_, _, _, _, dv0, _, _, _, _, _, dv1, _, rfl, _⟩ := trodVars_two hV2
 obtain ⟨a0, len0, cap0, rfl⟩ := okWide_slice Tryd.underlying22 (hval 0 22 v0 rfl rfl)
 have k0 := h0
 have lt0 : ∀ x ∈ p0, x.block < W.heap.size := by obtain ⟨m, hm⟩ := k0; exact DataW.trod_lt m _ _ _ hm
 obtain ⟨l0, ⟨A0, c0, e0, hc0, hr0⟩, g0⟩ := (show ∃ a, (Kd.slice 9 Kd.string).K W a [.slice a0 len0 cap0] ∧ _ from h0.elim fun fuel hf => (opens_slice Tryd.underlying22 (by kernel_rfl) (opens_string Tryd.underlying9)) enc W 0 (fun _ => true) true fuel [.slice a0 len0 cap0] _ hf)
 obtain ⟨rfl, rfl, rfl⟩ : a0 = A0 ∧ len0 = l0.length ∧ cap0 = c0 := by simpa using e0
 obtain ⟨a1, rfl, rfl, rfl, g1⟩ := open_int Tryd.underlying3 (hval 1 3 v1 rfl rfl) h1
 clear hA0 hval0 hsz0 hsz
 obtain ⟨k, h⟩ := Pure.FnExactBranchOf l0 a1 g0 g1
 refine (laws_FnExactBranchOf.calls k _ _ l0 a1 true W hr0 hc0 hT ⟨rfl⟩ h).mono fun e W' ⟨he, bel0⟩ => ?_
 have bel : Below W.heap.size W W' := bel0
 subst he
 exact ⟨_, rfl, _, _, _, [], _, _, hW', trodAll_mk1 (shut_bool Tryd.underlying4 _), (trodAll_cons_mk (Below.trod laidOut (by kernel_rfl) (of_decide_eq_true (by kernel_rfl)) k0 bel lt0) (trodAll_cons_mk (shut_int Tryd.underlying3 g1) trodAll_mk0)), Below.trodVars laidOut bel (by kernel_rfl) hV2, bel.frame _, fun h => by cases h⟩
theorem over : Rows.fnExactBranchOfRow.holds Tryd.pinned (OpenSpec.ofChange Rows.fnExactBranchOfSpec) :=
 OpenClaim.holds_of_wide 6 Tryd.f6 rfl rfl rfl rfl rfl rfl rfl ⟨rfl, rfl, rfl, rfl, rfl⟩ rfl rfl rfl rfl rfl (by kernel_rfl) Tryd.func6 (by kernel_rfl)
  (of_decide_eq_true (by kernel_rfl)) (by unfold Func.isWrapper; first | (rw [if_pos (by decide +kernel)]; kernel_rfl) | (rw [if_neg (by decide +kernel)]; exact ⟨rfl, rfl⟩))
  (fun os started H enc _ => lifted os started H enc)
theorem proved : Rows.FnExactBranchOfSaid := over
theorem card : Rows.FnExactBranchOfCardSaid :=
 Claim7.holds_tied_plain_at .later [] [.data, .data] true (true, "e4c3bb3ba08b206a7ab2894f9061ace4b1bc15c35e02d35ce178dd72da8f1b3e") false
  over (fun _ h => by cases h) (by kernel_rfl) (fun _ h => by cases h) fnExactBranchOf_row_tie rfl ⟨rfl, rfl⟩ (by kernel_rfl) rfl
  (fun f fn hf hfn => by
   obtain rfl : f = 6 := Option.some.inj ((show Tryd.prog.funcNamed "loop.example/g00321/laws.FnExactBranchOf" = some 6 by kernel_rfl).symm.trans hf) |>.symm
   obtain rfl : fn = Tryd.f6 := (Option.some.inj (Tryd.func6.symm.trans hfn)).symm
   exact ⟨by kernel_rfl, fun j t ht => by
    rw [Tryd.params6] at ht
    have hm : t ∈ [22, 3] := by simpa using Array.mem_of_getElem? ht
    have hall : ([22, 3].all fun u => !Tryd.prog.wantsStandIn u) = true := by kernel_rfl
    exact (show Tryd.prog.wantsStandIn t = false by simpa using List.all_eq_true.1 hall t hm)⟩)
  (by kernel_rfl)
#print axioms card
end Go.Proofs.YtmiiknkfhiecgaaDoor.fnExactBranchOf
namespace Go.Proofs.YtmiiknkfhiecgaaDoor
/-- The row, under a short name, for the claim. -/
theorem fnExactBranchOf_holds : Rows.FnExactBranchOfCardSaid := fnExactBranchOf.card
end Go.Proofs.YtmiiknkfhiecgaaDoor
end
