/- What is proved here: part 3 of 5 of the proof of the given statement FnCommitteesTold: the contracts of the Go functions that it reaches, the plain facts on lists and numbers, and (in the last part) the statement itself. No conditions beyond the given ones. -/
import Derived.Test.YtkdmplfldfagnaaGreatDoorMFnCommitteesToldwSlim
import Derived.Test.YtkdmplfldfagnaaGreatDoorMFnCommitteesTolda
import Derived.Test.YtkdmplfldfagnaaGreatDoorMFnCommitteesToldb
import Derived.Test.YtkdmplfldfagnaaGreatDoorProg
import Derived.Below
import Derived.Deep.Draws
import Derived.Deep.AppendLies
import Derived.Maps.AppendAt
import Derived.OwnWalk
import Derived.Laws.BytesArg
import Derived.Laws.MakeOwn
import Derived.Laws.OwnMore
import Derived.Deep.OwnRows
import Derived.Tactics
import Derived.Lib.ConvBytes
import Derived.Laws.Slices
import Derived.WalkKit
import Derived.KernelRfl
import Derived.RowKit3
import Derived.Deep.LoopGhost
import Derived.Deep.QuietTactic
import Derived.BigQuiet
import Derived.WideLaws
import Derived.Deep.DeepCutAuto
import Derived.Deep.CutBlock
import Derived.Deep.RegionHeld3
import Derived.Laws.Rows
import Derived.Lib.AppendStr
import Derived.ArgAppend
import Derived.Laws.IdiomCopy
import Derived.OrdersHeld
import Derived.Laws.BitsLemmas
import Derived.RowKit
import Derived.Test.YtkdmplfldfagnaaGreatDoorMFnCommitteesToldwWords
import Derived.Test.YtkdmplfldfagnaaGreatDoorMFnCommitteesToldwLast
import Derived.Test.YtkdmplfldfagnaaGreatDoorMFnCommitteesToldwTab
import Derived.Test.YtkdmplfldfagnaaGreatDoorMFnCommitteesToldwFour
import Derived.Test.YtkdmplfldfagnaaGreatDoorMFnCommitteesToldwQPut
import Derived.Test.YtkdmplfldfagnaaGreatDoorMFnCommitteesToldwApart
import Derived.Test.YtkdmplfldfagnaaGreatDoorMFnCommitteesToldwArr
import Derived.Test.YtkdmplfldfagnaaGreatDoorMFnCommitteesToldwZeros
import Derived.Test.YtkdmplfldfagnaaGreatDoorMFnCommitteesToldwFoot
import Derived.Test.YtkdmplfldfagnaaGreatDoorMFnCommitteesToldwKept
import Derived.Test.YtkdmplfldfagnaaGreatDoorMFnCommitteesToldwShare
import Derived.Test.YtkdmplfldfagnaaGreatDoorMFnCommitteesToldwN
import Derived.Test.YtkdmplfldfagnaaGreatDoorMFnCommitteesToldwFootNe
import Derived.Test.YtkdmplfldfagnaaGreatDoorMFnCommitteesToldwAt
import Derived.Test.YtkdmplfldfagnaaGreatDoorMFnCommitteesToldwEqStruct
import Derived.Test.YtkdmplfldfagnaaGreatDoorMFnCommitteesToldwRepsOne
import Derived.Test.YtkdmplfldfagnaaGreatDoorMFnCommitteesToldwInv
import Derived.Test.YtkdmplfldfagnaaGreatDoorMFnCommitteesToldwInvWords
import Derived.Test.YtkdmplfldfagnaaGreatDoorMFnCommitteesToldwGuard
import Derived.Test.YtkdmplfldfagnaaGreatDoorMFnCommitteesToldwNEv
import Derived.Test.YtkdmplfldfagnaaGreatDoorMFnCommitteesToldwMore
import Derived.Shelf.Strings.Repeat
import Derived.Laws.CopyOwn

section
namespace Go.Proofs.YtkdmplfldfagnaaGreatDoor.Pf
open Go.RowKit Go.Proofs.YtkdmplfldfagnaaGreatDoorW.PrintWords Go.Proofs.YtkdmplfldfagnaaGreatDoorW.PrintLast Go.Proofs.YtkdmplfldfagnaaGreatDoorW.PrintMore
attribute [local go_sem] max2_int min2_int max_two min_two max_three min_three max_four min_four   -- for this text's walks alone
set_option linter.unusedVariables false
set_option linter.unusedSimpArgs false
set_option maxHeartbeats 8000000
set_option maxRecDepth 100000
def spec_ReadCommittee.l0 : Nat → ByteArray → Int → List (S28) → Option ((List (S28)) × Bool)
 | 0, _, _, _ => none
 | k + 1, x0, x5, x1038000 => if x5 < 8 then (if 0 ≤ (wrap64 (3 * x5)) then (if (wrap64 (3 * x5)) ≤ (wrap64 ((wrap64 (3 * x5)) + 3)) then (if (wrap64 ((wrap64 (3 * x5)) + 3)) ≤ (x0.size : Int) then ((spec_ReadPoint.f k (x0.extract ((wrap64 (3 * x5)) : Int).toNat ((wrap64 ((wrap64 (3 * x5)) + 3)) : Int).toNat)).bind fun bt1038 => (if bt1038.2.2.2 = true then (if x1038000.length < 5864062014805 then (spec_ReadCommittee.l0 k x0 (wrap64 (x5 + 1)) (x1038000 ++ [(⟨bt1038.1, bt1038.2.1, bt1038.2.2.1⟩ : S28)])) else (none)) else (some (([] : List (S28)), false)))) else (none)) else (none)) else (none)) else ((spec_CommitteeText.f k x1038000).bind fun bt1046 => (if bt1046.2 = true then (if bt1046.1.toList = x0.toList then (some (x1038000, true)) else (some (([] : List (S28)), false))) else (some (([] : List (S28)), false))))
def spec_ReadCommittee.f (k : Nat) (a0 : ByteArray) : Option ((List (S28)) × Bool) := if (a0.size : Int) = 27 then (spec_ReadCommittee.l0 k a0 0 ([] : List (S28))) else (some (([] : List (S28)), false))
theorem spec_ReadCommittee.calls (k : Nat) (a0 : ByteArray) (r1 : List (S28)) (r2 : Bool) (w : World) (h : spec_ReadCommittee.f k a0 = some (r1, r2)) :
  Calls Tryz.prog 29 #[.string a0] w fun e w' => ∃ v0_ : Value, e = .returned (.tuple #[.agg #[v0_], .bool r2]) ∧ Kd.R k28 28 w' w.heap.size (fun _ => True) v0_ r1 ∧ Below w.heap.size w w' := by
 have hu46 := Tryz.underlying46
 have hu28 := Tryz.underlying28
 have HB := Aside0.mk (Below.refl w.heap.size w)
 unfold spec_ReadCommittee.f at h
 have H := h
 clear h
 by_cases c2 : (a0.size : Int) = 27
 ·rw [if_pos c2] at H
  have c2b0 : ((a0.size : Int) == 27) = true := beq_iff_eq.mpr c2
  have c2b1 : ((a0.size : Int) != 27) = false := bne_eq_false_iff_eq.mpr c2
  clear c2
  have H' := Aside0.mk H
  clear H
  go_enter Tryz.func29, Tryz.ntmps29
  go_wp2_with (first | (refine gB 2 #[.slice none 0 0] 46 ?_; intro gb1036 hg w3 BK1036 hb; have GW1036 := bG HB hg; replace HB := bS HB hb; clear hb hg) | (refine gB 4 #[.slice none 0 0] 46 ?_; intro gb1037 hg w4 BK1037 hb; have GW1037 := bG HB hg; replace HB := bS HB hb; obtain ⟨NB1036_1037, NB1037_1036⟩ := bN BK1036 hg; replace BK1036 := bB BK1036 hb; clear hb hg; obtain ⟨hnb5, hnc5⟩ := nB NB1037_1036; obtain ⟨hcz6_0, hfz6_0⟩ := bK1 (w := w4) BK1037))
  go_loopg [5] k (fun kq v5 w' => ∃ (x5_1 : Int) (x1038000_1 : List (S28)) (u1038000 : Value), v5 = .int .i64 x5_1 ∧ Aside0 (spec_ReadCommittee.l0 kq a0 x5_1 x1038000_1 = some (r1, r2)) ∧ Aside0 (kq ≤ k) ∧ Aside0 (Kd.R k28 28 w' w.heap.size (fun _ => True) u1038000 x1038000_1) ∧ Aside0 (w'.heap[gb1036]? = some (.cells #[(.slice none 0 0)] 46 (0, 0))) ∧ Aside0 (w'.heap[gb1037]? = some (.cells #[u1038000] 46 (0, 0))) ∧ Aside0 (Below w.heap.size w w'))
  case atStart => exact ⟨(0), (([] : List (S28))), (.slice none 0 0), rS, H', ⟨Nat.le_refl _⟩, ⟨by first | exact Kd.R_nil _ _ _ _ _ | exact Kd.N_nil _ _ _ _ _ | exact Kd.V_nil _ _ _ _ _ | exact Kd.Q_nil _ _ _ _ _ | exact Kd.S_nil _ _ _ _ _⟩, ⟨bP BK1036⟩, ⟨bU BK1037⟩, ⟨bZ HB⟩⟩
  case round =>
   clear H'
   try clear c2
   try clear c2b0
   try clear c2b1
   try clear p2
   try clear c5
   try clear hcz6_0
   try clear hfz6_0
   obtain ⟨x5_1, x1038000_1, u1038000, rfl, HA, HK1, HO_1038000, BK1036, BK1037, HB⟩ := hrel
   cases gk with
   | zero => exact absurd HA.out (by simp [spec_ReadCommittee.l0])
   | succ k1 =>
    have H := HA.out
    clear HA
    simp only [spec_ReadCommittee.l0] at H
    by_cases c7 : x5_1 < 8
    ·rw [if_pos c7] at H
     have c7b0 := decide_eq_true c7
     clear c7
     obtain ⟨ji8, hji8⟩ : ∃ j_ : Int, (wrap64 (3 * x5_1)) = j_ := ⟨_, rfl⟩
     replace H : (if 0 ≤ (ji8) then (if (ji8) ≤ (wrap64 ((ji8) + 3)) then (if (wrap64 ((ji8) + 3)) ≤ (a0.size : Int) then ((spec_ReadPoint.f k1 (a0.extract ((ji8) : Int).toNat ((wrap64 ((ji8) + 3)) : Int).toNat)).bind fun bt1038 => (if bt1038.2.2.2 = true then (if x1038000_1.length < 5864062014805 then (spec_ReadCommittee.l0 k1 a0 (wrap64 (x5_1 + 1)) (x1038000_1 ++ [(⟨bt1038.1, bt1038.2.1, bt1038.2.2.1⟩ : S28)])) else (none)) else (some (([] : List (S28)), false)))) else (none)) else (none)) else (none)) = some (r1, r2) := jR hji8 H
     have hji8w : (IntKind.i64.wrap (3 * x5_1)) = ji8 := (i64_w _).trans hji8
     by_cases c9 : 0 ≤ (ji8)
     ·rw [if_pos c9] at H
      have c9b0 := eq_true c9
      have c9b1 := decide_eq_true c9
      clear c9
      by_cases c10 : (ji8) ≤ (wrap64 ((ji8) + 3))
      ·rw [if_pos c10] at H
       have c10b0 := eq_true c10
       have c10b1 := decide_eq_true c10
       by_cases c11 : (wrap64 ((ji8) + 3)) ≤ (a0.size : Int)
       ·rw [if_pos c11] at H
        have c11b0 := eq_true c11
        have c11b1 := decide_eq_true c11
        obtain ⟨⟨t1038, t1039, t1040, t1041⟩, A12, H⟩ := oB H
        by_cases c13 : t1041 = true
        ·subst c13
         rw [if_pos rfl] at H
         by_cases c14 : x1038000_1.length < 5864062014805
         ·rw [if_pos c14] at H
          have LMc14 := Aside0.mk c14
          clear c14
          obtain ⟨y1043, hy1043⟩ : ∃ y_ : List (S28), y_ = (x1038000_1 ++ [(⟨t1038, t1039, t1040⟩ : S28)]) := ⟨_, rfl⟩
          replace H : (spec_ReadCommittee.l0 k1 a0 (wrap64 (x5_1 + 1)) y1043) = some (r1, r2) := yR hy1043 H
          have Ny1043 := Aside0.mk hy1043
          clear hy1043
          have H' := Aside0.mk H
          clear H
          go_wp2_with (first | ((with_reducible refine gate_callee (f := 76) rfl ?_); refine goesL_ (some 27) rfl rfl Tryz.func76 (by kernel_rfl) rfl #[.string (a0.extract ((ji8) : Int).toNat ((wrap64 ((ji8) + 3)) : Int).toNat)] rfl (by (try simp only [List.map_toArray, List.map_cons, List.map_nil]); first | done | (simp only [hji8]; rfl) | rfl | (simp only [List.length_drop, List.length_take]; rfl)) ?_; (with_reducible refine (spec_ReadPoint.calls k1 (a0.extract ((ji8) : Int).toNat ((wrap64 ((ji8) + 3)) : Int).toNat) t1038 t1039 t1040 true _ A12.out).mono ?_); rintro e w15 ⟨rfl, hb⟩; refine ⟨_, rfl, ?_⟩; replace HO_1038000 := Aside0.mk (Kd.R_below (rP HO_1038000) hb); replace BK1036 := bB BK1036 hb; replace BK1037 := bB BK1037 hb; replace HB := bS HB hb; (try clear hb)) | ((with_reducible refine gate_dst (N := 6) rfl ?_); refine bE 6 #[.int .i64 0, .int .i64 0, .bool false] 28 ?_; intro gb1042 hg w16 hbox hb; replace HO_1038000 := Aside0.mk (Kd.R_below (Kd.R_elderB (rP HO_1038000) gb1042 (Nat.le_of_eq hg.symm)) hb); have BK1042 := Aside0.mk (hbox); have GW1042 := bG HB hg; replace HB := bS HB hb; obtain ⟨NB1036_1042, NB1042_1036⟩ := bN BK1036 hg; replace BK1036 := bB BK1036 hb; obtain ⟨NB1037_1042, NB1042_1037⟩ := bN BK1037 hg; replace BK1037 := bB BK1037 hb; clear hb hbox hg; obtain ⟨hnb17, hnc17⟩ := nB NB1042_1036; obtain ⟨hnb18, hnc18⟩ := nB NB1042_1037; obtain ⟨hcz19_0, hcz19_1, hcz19_2, hfz19_0, hfz19_1, hfz19_2⟩ := bK3 (w := w16) BK1042; obtain ⟨hnb20, hnc20⟩ := nB NB1037_1036; obtain ⟨hcz21_0, hfz21_0⟩ := bK1 (w := w16) BK1037) | ((with_reducible refine gate_builtin (b := .append) (xs := #[.tmp 34, .tmp 36]) rfl ?_); at_builtin; refine Kd.R_append k28 (w0 := w) w.heap.size rfl (.tmp 34) (.tmp 36) 26 28 (.agg #[(.int .i64 0), (.int .i64 0), (.bool false)]) 24 rfl Tryz.underlying26 info28 rfl (by decide) (by omega) u1038000 x1038000_1 (⟨t1038, t1039, t1040⟩ : S28) [.int .i64 t1038, .int .i64 t1039, .bool t1040] (fun k_ => k_ ≠ gb1042) (fun _ => False) rfl (by first | (go_simp; done) | (go_simp; rfl)) ?aP (fun _ hk => hk.elim) ?aF ?aO ?aB ?aS ?aL ?_; (case aP => exact k28_mkM _ _ _ (⟨t1038, t1039, t1040⟩ : S28)); (case aB => exact (bZ HB)); (case aF => exact (fun k_ hk => Kd.freshB (g := gb1042) (o := .cells #[.int .i64 t1038, .int .i64 t1039, .bool t1040] 28 (0, 0)) (bU BK1042) k_ hk)); (case aO => exact (by (with_reducible repeat (first | apply Kd.R_alloc | apply Kd.R_drewN | apply Kd.R_drew)); exact Kd.R_mono (Kd.R_far (p := ⟨gb1042, 2, none⟩) (Kd.R_far (p := ⟨gb1042, 1, none⟩) (Kd.R_far (p := ⟨gb1042, 0, none⟩) (Kd.R_mono HO_1038000.out (fun k_ hk => (⟨hk, hk.2⟩ : _ ∧ k_ ≠ gb1042))) (fun _ hk => hk.2) (.int .i64 t1038)) (fun _ hk => hk.2) (.int .i64 t1039)) (fun _ hk => hk.2) (.bool t1040)) (fun _ hk => hk.1.2))); (case aS => exact (below_size (bZ HB))); (case aL => have := LMc14.out; omega); intro v1044 w22 ho hb hg hat; rw [← Ny1043.out] at ho; replace BK1036 := Aside0.mk (blk_grown (bP BK1036) hg (Kd.R_ne HO_1038000.out BK1036.out (by decide))); replace BK1037 := Aside0.mk (blk_grown (bP BK1037) hg (Kd.R_ne HO_1038000.out BK1037.out (by decide))); replace BK1042 := Aside0.mk (blk_grown (g := gb1042) (o := .cells #[.int .i64 t1038, .int .i64 t1039, .bool t1040] 28 (0, 0)) (bU BK1042) hg (Kd.R_away HO_1038000.out (fun _ hk => hk.2))); replace HB := Aside0.mk (hb); have HO1045 := Aside0.mk (ho); clear HO_1038000; clear ho hb hg hat; obtain ⟨Ao23, co23, eo23⟩ := Kd.R_slice HO1045.out; subst eo23; obtain ⟨hcz24_0, hfz24_0⟩ := bK1 (w := w22) BK1037))
          go_roundg k1
          case measure => have := HK1.out; omega
          case rel => exact ⟨(wrap64 (x5_1 + 1)), (y1043), (.slice Ao23 y1043.length co23), rS, H', ⟨by have := HK1.out; omega⟩, ⟨by (with_reducible repeat (first | apply Kd.R_alloc | apply Kd.R_drewN | apply Kd.R_drew)); exact Kd.R_mono (Kd.R_far (p := ⟨gb1037, 0, none⟩) (Kd.R_types HO1045.out BK1037.out (by decide)) (fun _ hk => hk.2) (.slice Ao23 y1043.length co23)) (fun _ hk => trivial)⟩, ⟨bP BK1036⟩, ⟨bU BK1037⟩, ⟨bZ HB⟩⟩
         ·rw [if_neg c14] at H
          exact absurd H (by simp)
        ·replace c13 := Bool.eq_false_iff.mpr c13
         subst c13
         rw [if_neg (show ¬ (false = true) by decide)] at H
         simp only [Option.some.injEq, Prod.mk.injEq] at H
         obtain ⟨rfl, rfl⟩ := H
         go_wp2_with (first | ((with_reducible refine gate_callee (f := 76) rfl ?_); refine goesL_ (some 27) rfl rfl Tryz.func76 (by kernel_rfl) rfl #[.string (a0.extract ((ji8) : Int).toNat ((wrap64 ((ji8) + 3)) : Int).toNat)] rfl (by (try simp only [List.map_toArray, List.map_cons, List.map_nil]); first | done | (simp only [hji8]; rfl) | rfl | (simp only [List.length_drop, List.length_take]; rfl)) ?_; (with_reducible refine (spec_ReadPoint.calls k1 (a0.extract ((ji8) : Int).toNat ((wrap64 ((ji8) + 3)) : Int).toNat) t1038 t1039 t1040 false _ A12.out).mono ?_); rintro e w25 ⟨rfl, hb⟩; refine ⟨_, rfl, ?_⟩; replace HO_1038000 := Aside0.mk (Kd.R_below (rP HO_1038000) hb); replace BK1036 := bB BK1036 hb; replace BK1037 := bB BK1037 hb; replace HB := bS HB hb; (try clear hb)) | ((with_reducible refine gate_dst (N := 6) rfl ?_); refine bE 6 #[.int .i64 0, .int .i64 0, .bool false] 28 ?_; intro gb1042 hg w26 hbox hb; replace HO_1038000 := Aside0.mk (Kd.R_below (Kd.R_elderB (rP HO_1038000) gb1042 (Nat.le_of_eq hg.symm)) hb); have BK1042 := Aside0.mk (hbox); have GW1042 := bG HB hg; replace HB := bS HB hb; obtain ⟨NB1036_1042, NB1042_1036⟩ := bN BK1036 hg; replace BK1036 := bB BK1036 hb; obtain ⟨NB1037_1042, NB1042_1037⟩ := bN BK1037 hg; replace BK1037 := bB BK1037 hb; clear hb hbox hg; obtain ⟨hnb27, hnc27⟩ := nB NB1042_1036; obtain ⟨hnb28, hnc28⟩ := nB NB1042_1037; obtain ⟨hcz29_0, hcz29_1, hcz29_2, hfz29_0, hfz29_1, hfz29_2⟩ := bK3 (w := w26) BK1042; obtain ⟨hnb30, hnc30⟩ := nB NB1036_1037; obtain ⟨hcz31_0, hfz31_0⟩ := bK1 (w := w26) BK1036))
         refine bodyPost_ret (results_ct rfl _ _ gb1036 46 #[.slice none 0 0] (0, 0) _ rfl (bU BK1036) Tryz.underlying46 rfl (by kernel_rfl)) rfl ?_
         exact ⟨_, by first | rfl | (simp [errW_none, errW_some] <;> rfl) | (simp only [← hji8]; first | rfl | (simp [errW_none, errW_some] <;> rfl)) | (simp [*, errW_none, errW_some] <;> rfl), by first | exact Kd.R_nil _ _ _ _ _ | exact Kd.N_nil _ _ _ _ _ | exact Kd.V_nil _ _ _ _ _ | exact Kd.Q_nil _ _ _ _ _ | exact Kd.S_nil _ _ _ _ _, bZ HB⟩
       ·rw [if_neg c11] at H
        exact absurd H (by simp)
      ·rw [if_neg c10] at H
       exact absurd H (by simp)
     ·rw [if_neg c9] at H
      exact absurd H (by simp)
    ·rw [if_neg c7] at H
     have c7b0 := decide_eq_false c7
     clear c7
     obtain ⟨⟨t1046, t1047⟩, A32, H⟩ := oB H
     by_cases c33 : t1047 = true
     ·subst c33
      rw [if_pos rfl] at H
      by_cases c34 : t1046.toList = a0.toList
      ·rw [if_pos c34] at H
       have c34b0 : (t1046.toList == a0.toList) = true := beq_iff_eq.mpr c34
       have c34b1 : (t1046.toList != a0.toList) = false := bne_eq_false_iff_eq.mpr c34
       clear c34
       simp only [Option.some.injEq, Prod.mk.injEq] at H
       obtain ⟨rfl, rfl⟩ := H
       obtain ⟨hnb35, hnc35⟩ := nB NB1037_1036
       obtain ⟨hcz36_0, hfz36_0⟩ := bK1 (w := wr) BK1037
       obtain ⟨Ao37, co37, eo37⟩ := Kd.R_slice HO_1038000.out
       subst eo37
       go_wp2_with (first | (refine gC (some 41) Tryz.func26 #[.agg #[.slice Ao37 x1038000_1.length co37]] ?_; (with_reducible refine (spec_CommitteeText.calls k1 _ _ x1038000_1 t1046 true _ ?side1 ?side2 A32.out).mono ?_); (case side1 => exact cP ((Kd.R_reads' HO_1038000.out).2.2)); (case side2 => exact (Kd.R_reads' HO_1038000.out).2.1); rintro e w38 ⟨rfl, hb⟩; refine ⟨_, rfl, ?_⟩; replace HO_1038000 := Aside0.mk (Kd.R_below (rP HO_1038000) hb); replace BK1036 := bB BK1036 hb; replace BK1037 := bB BK1037 hb; replace HB := bS HB hb; (try clear hb); obtain ⟨hcz39_0, hfz39_0⟩ := bK1 (w := w38) BK1037; obtain ⟨hcz40_0, hfz40_0⟩ := bK1 (w := w38) BK1036))
       refine bodyPost_ret (results_ct rfl _ _ gb1036 46 #[.slice Ao37 x1038000_1.length co37] (0, 0) _ rfl (bU BK1036) Tryz.underlying46 rfl (by kernel_rfl)) rfl ?_
       exact ⟨_, by first | rfl | (simp [errW_none, errW_some] <;> rfl) | (simp [*, errW_none, errW_some] <;> rfl), by (with_reducible repeat (first | apply Kd.R_alloc | apply Kd.R_drewN | apply Kd.R_drew)); exact Kd.R_mono (Kd.R_far (p := ⟨gb1036, 0, none⟩) (Kd.R_types HO_1038000.out BK1036.out (by decide)) (fun _ hk => hk.2) (.slice Ao37 x1038000_1.length co37)) (fun _ hk => trivial), bZ HB⟩
      ·rw [if_neg c34] at H
       have c34b0 : (t1046.toList == a0.toList) = false := beq_eq_false_iff_ne.mpr c34
       have c34b1 : (t1046.toList != a0.toList) = true := bne_iff_ne.mpr c34
       simp only [Option.some.injEq, Prod.mk.injEq] at H
       obtain ⟨rfl, rfl⟩ := H
       obtain ⟨hnb41, hnc41⟩ := nB NB1037_1036
       obtain ⟨hcz42_0, hfz42_0⟩ := bK1 (w := wr) BK1037
       obtain ⟨Ao43, co43, eo43⟩ := Kd.R_slice HO_1038000.out
       subst eo43
       go_wp2_with (first | (refine gC (some 41) Tryz.func26 #[.agg #[.slice Ao43 x1038000_1.length co43]] ?_; (with_reducible refine (spec_CommitteeText.calls k1 _ _ x1038000_1 t1046 true _ ?side1 ?side2 A32.out).mono ?_); (case side1 => exact cP ((Kd.R_reads' HO_1038000.out).2.2)); (case side2 => exact (Kd.R_reads' HO_1038000.out).2.1); rintro e w44 ⟨rfl, hb⟩; refine ⟨_, rfl, ?_⟩; replace HO_1038000 := Aside0.mk (Kd.R_below (rP HO_1038000) hb); replace BK1036 := bB BK1036 hb; replace BK1037 := bB BK1037 hb; replace HB := bS HB hb; (try clear hb); obtain ⟨hcz45_0, hfz45_0⟩ := bK1 (w := w44) BK1036))
       refine bodyPost_ret (results_ct rfl _ _ gb1036 46 #[.slice none 0 0] (0, 0) _ rfl (bU BK1036) Tryz.underlying46 rfl (by kernel_rfl)) rfl ?_
       exact ⟨_, by first | rfl | (simp [errW_none, errW_some] <;> rfl) | (simp [*, errW_none, errW_some] <;> rfl), by first | exact Kd.R_nil _ _ _ _ _ | exact Kd.N_nil _ _ _ _ _ | exact Kd.V_nil _ _ _ _ _ | exact Kd.Q_nil _ _ _ _ _ | exact Kd.S_nil _ _ _ _ _, bZ HB⟩
     ·replace c33 := Bool.eq_false_iff.mpr c33
      subst c33
      rw [if_neg (show ¬ (false = true) by decide)] at H
      simp only [Option.some.injEq, Prod.mk.injEq] at H
      obtain ⟨rfl, rfl⟩ := H
      obtain ⟨hnb46, hnc46⟩ := nB NB1037_1036
      obtain ⟨hcz47_0, hfz47_0⟩ := bK1 (w := wr) BK1037
      obtain ⟨Ao48, co48, eo48⟩ := Kd.R_slice HO_1038000.out
      subst eo48
      go_wp2_with (first | (refine gC (some 41) Tryz.func26 #[.agg #[.slice Ao48 x1038000_1.length co48]] ?_; (with_reducible refine (spec_CommitteeText.calls k1 _ _ x1038000_1 t1046 false _ ?side1 ?side2 A32.out).mono ?_); (case side1 => exact cP ((Kd.R_reads' HO_1038000.out).2.2)); (case side2 => exact (Kd.R_reads' HO_1038000.out).2.1); rintro e w49 ⟨rfl, hb⟩; refine ⟨_, rfl, ?_⟩; replace HO_1038000 := Aside0.mk (Kd.R_below (rP HO_1038000) hb); replace BK1036 := bB BK1036 hb; replace BK1037 := bB BK1037 hb; replace HB := bS HB hb; (try clear hb); obtain ⟨hcz50_0, hfz50_0⟩ := bK1 (w := w49) BK1036))
      refine bodyPost_ret (results_ct rfl _ _ gb1036 46 #[.slice none 0 0] (0, 0) _ rfl (bU BK1036) Tryz.underlying46 rfl (by kernel_rfl)) rfl ?_
      exact ⟨_, by first | rfl | (simp [errW_none, errW_some] <;> rfl) | (simp [*, errW_none, errW_some] <;> rfl), by first | exact Kd.R_nil _ _ _ _ _ | exact Kd.N_nil _ _ _ _ _ | exact Kd.V_nil _ _ _ _ _ | exact Kd.Q_nil _ _ _ _ _ | exact Kd.S_nil _ _ _ _ _, bZ HB⟩
 ·rw [if_neg c2] at H
  have c2b0 : ((a0.size : Int) == 27) = false := beq_eq_false_iff_ne.mpr c2
  have c2b1 : ((a0.size : Int) != 27) = true := bne_iff_ne.mpr c2
  simp only [Option.some.injEq, Prod.mk.injEq] at H
  obtain ⟨rfl, rfl⟩ := H
  go_enter Tryz.func29, Tryz.ntmps29
  go_wp2_with (first | (refine gB 2 #[.slice none 0 0] 46 ?_; intro gb1036 hg w51 BK1036 hb; have GW1036 := bG HB hg; replace HB := bS HB hb; clear hb hg) | (refine gB 4 #[.slice none 0 0] 46 ?_; intro gb1037 hg w52 BK1037 hb; have GW1037 := bG HB hg; replace HB := bS HB hb; obtain ⟨NB1036_1037, NB1037_1036⟩ := bN BK1036 hg; replace BK1036 := bB BK1036 hb; clear hb hg; obtain ⟨hnb53, hnc53⟩ := nB NB1037_1036; obtain ⟨hcz54_0, hfz54_0⟩ := bK1 (w := w52) BK1037; obtain ⟨hcz55_0, hfz55_0⟩ := bK1 (w := w52) BK1036))
  refine bodyPost_ret (results_ct rfl _ _ gb1036 46 #[.slice none 0 0] (0, 0) _ rfl (bU BK1036) Tryz.underlying46 rfl (by kernel_rfl)) rfl ?_
  exact ⟨_, by first | rfl | (simp [errW_none, errW_some] <;> rfl) | (simp [*, errW_none, errW_some] <;> rfl), by first | exact Kd.R_nil _ _ _ _ _ | exact Kd.N_nil _ _ _ _ _ | exact Kd.V_nil _ _ _ _ _ | exact Kd.Q_nil _ _ _ _ _ | exact Kd.S_nil _ _ _ _ _, bZ HB⟩
def spec_l12Bits.f (s0_0 : List Int) (s0_1 : Int) (s0_2 : Int) : Option (Int × Int × Int) := (spec_l01Below.f s0_0 s0_1 s0_2 256).bind fun bt1048 => ((spec_l01PickInt.f s0_0 bt1048.2.1 bt1048.2.2 (([255, 63, 127, 191, 0, 1, 31, bt1048.1, (-1), 256] : List Int))).bind fun bt1054 => (some (bt1054.1, bt1054.2.1, bt1054.2.2)))
theorem spec_l12Bits.calls (g : Nat) (s0_0 : List Int) (s0_1 : Int) (s0_2 : Int) (r1 : Int) (r2 : Int) (r3 : Int) (w0 w : World) (hI : IsS90 w0 w g s0_0 s0_1 s0_2) (hB : Below w0.heap.size w0 w) (h : spec_l12Bits.f s0_0 s0_1 s0_2 = some (r1, r2, r3)) :
  Calls Tryz.prog 77 #[.pointer (some ⟨g, 0, none⟩)] w fun e w' => e = .returned (.int .i64 r1) ∧ IsS90 w0 w' g s0_0 r2 r3 ∧ Below w0.heap.size w0 w' ∧ KeepBut w w' g none := by
 have HI0 := Aside0.mk hI
 have HK := Aside0.mk (KeepBut.refl w g none)
 have HL := Aside0.mk hB.size
 clear hI
 have HW0 := Aside0.mk hB.size
 have HB := Aside0.mk hB
 clear hB
 unfold spec_l12Bits.f at h
 have H := h
 clear h
 obtain ⟨⟨t1048, t1049, t1050⟩, A2, H⟩ := oB H
 obtain ⟨y1051, hy1051⟩ : ∃ y_ : List Int, y_ = (([255, 63, 127, 191, 0, 1, 31, t1048, (-1), 256] : List Int)) := ⟨_, rfl⟩
 replace H : ((spec_l01PickInt.f s0_0 t1049 t1050 y1051).bind fun bt1054 => (some (bt1054.1, bt1054.2.1, bt1054.2.2))) = some (r1, r2, r3) := yR hy1051 H
 have Ny1051 := Aside0.mk hy1051
 clear hy1051
 obtain ⟨⟨t1054, t1055, t1056⟩, A3, H⟩ := oB H
 simp only [Option.some.injEq, Prod.mk.injEq] at H
 obtain ⟨rfl, rfl, rfl⟩ := H
 go_enter Tryz.func77, Tryz.ntmps77
 go_wp2_with (first | (refine gC (some 5) Tryz.func44 #[.pointer (some ⟨g, 0, none⟩), .int .i64 256] ?_; (with_reducible refine (spec_l01Below.calls g s0_0 s0_1 s0_2 256 t1048 t1049 t1050 w0 _ ?side1 ?side2 A2.out).mono ?_); (case side1 => exact iZ90 HI0); (case side2 => exact jZ90 HB HI0); rintro e w4 ⟨rfl, hi, hb, hk⟩; refine ⟨_, rfl, ?_⟩; replace HK := Aside0.mk (KeepBut.trans (kZ HK) hk (.inl rfl)); replace HB := Aside0.mk (hb); replace HI0 := Aside0.mk (hi); (try clear hb)) | ((with_reducible refine gate_dst (N := 6) rfl ?_); refine Kd.R_lit (Kd.int .i64) _ 3 ?hg (N := 6) ?hd (xs := ([255, 63, 127, 191, 0, 1, 31, t1048, (-1), 256] : List Int)) (inner := [.int .i64 255, .int .i64 63, .int .i64 127, .int .i64 191, .int .i64 0, .int .i64 1, .int .i64 31, .int .i64 t1048, .int .i64 (-1), .int .i64 256]) (ok := fun _ => True) (okp := fun _ => True) ?hr ?hp (fun _ hk => hk) trivial (Below.refl _ _) (Nat.le_refl _) (by simp) ?_; (case hd => rfl); (case hg => rfl); (case hr => first | (go_simp; done) | (go_simp; rfl)); (case hp => exact (Reps.one (show Kd.M (Kd.int .i64) _ _ _ 255 [.int .i64 255] from rfl) (Reps.one (show Kd.M (Kd.int .i64) _ _ _ 63 [.int .i64 63] from rfl) (Reps.one (show Kd.M (Kd.int .i64) _ _ _ 127 [.int .i64 127] from rfl) (Reps.one (show Kd.M (Kd.int .i64) _ _ _ 191 [.int .i64 191] from rfl) (Reps.one (show Kd.M (Kd.int .i64) _ _ _ 0 [.int .i64 0] from rfl) (Reps.one (show Kd.M (Kd.int .i64) _ _ _ 1 [.int .i64 1] from rfl) (Reps.one (show Kd.M (Kd.int .i64) _ _ _ 31 [.int .i64 31] from rfl) (Reps.one (show Kd.M (Kd.int .i64) _ _ _ t1048 [.int .i64 t1048] from rfl) (Reps.one (show Kd.M (Kd.int .i64) _ _ _ (-1) [.int .i64 (-1)] from rfl) (Reps.one (show Kd.M (Kd.int .i64) _ _ _ 256 [.int .i64 256] from rfl) (Reps.none _ _)))))))))))); intro v1052 w5 ho6 hb hg_ hnew_; clear hg_ hnew_; (first | rw [← Ny1051.out] at ho6 | (simp only [Int.reduceToNat] at ho6; rw [← Ny1051.out] at ho6)); have HO1053 := Aside0.mk (Kd.R_lower ho6 (keep_size (w := w) (g := g) (row := none) (kZ HK))); replace HK := Aside0.mk (KeepBut.trans (kZ HK) (KeepBut.of_below hb g none) (.inl rfl)); replace HB := Aside0.mk (below_step (jZ90 HB HI0) hb); replace HI0 := Aside0.mk (IsS90.below (iZ90 HI0) hb); clear hb ho6; obtain ⟨Ao7, co7, eo7⟩ := Kd.R_slice HO1053.out; subst eo7) | (refine gC (some 7) Tryz.func91 #[.pointer (some ⟨g, 0, none⟩), .slice Ao7 y1051.length co7] ?_; (with_reducible refine (spec_l01PickInt.calls g s0_0 t1049 t1050 _ _ y1051 t1054 t1055 t1056 w0 _ ?side1 ?side2 ?side3 ?side4 ?side5 A3.out).mono ?_); (case side1 => exact iZ90 HI0); (case side2 => exact jZ90 HB HI0); (case side3 => exact cP ((Kd.R_reads' HO1053.out).2.2)); (case side4 => exact (Kd.R_reads' HO1053.out).2.1); (case side5 => exact far_slice (IsS90.own_ne HI0.out HO1053.out (by decide))); rintro e w8 ⟨rfl, hi, hb, hk⟩; refine ⟨_, rfl, ?_⟩; replace HO1053 := Aside0.mk (Kd.R_mono (Kd.R_keep (IsS90.apart (show IsS90 w0 _ g s0_0 t1049 t1050 from iZ90 HI0) (rP HO1053) (by decide)) hk (fun _ h => h.2)) (fun _ h => h.1)); replace HK := Aside0.mk (KeepBut.trans (kZ HK) hk (.inl rfl)); replace HB := Aside0.mk (hb); replace HI0 := Aside0.mk (hi); (try clear hb)))
 go_ret
 exact ⟨by first | rfl | (simp [errW_none, errW_some] <;> rfl) | (simp [*, errW_none, errW_some] <;> rfl), iZ90 HI0, jZ90 HB HI0, kZ HK⟩
def spec_DrawJoined.f (k : Nat) (l0 : List Int) : Option ((List (S28)) × Int) := (spec_l01New.f k l0).bind fun bt1058 => ((spec_l12Bits.f bt1058.1 bt1058.2.1 bt1058.2.2).bind fun bt1062 => ((spec_l12Any.f k bt1058.1 bt1062.2.1 bt1062.2.2).bind fun bt1065 => (some (bt1065.1, bt1062.1))))
theorem spec_DrawJoined.calls (k : Nat) (A0 : Option Addr) (c0 : Nat) (l0 : List Int) (r1 : List (S28)) (r2 : Int) (w : World) (hr0 : Kd.C (Kd.int .u8) w A0 l0.length l0) (hc0 : l0.length ≤ c0) (h : spec_DrawJoined.f k l0 = some (r1, r2)) :
  Calls Tryz.prog 30 #[.slice A0 l0.length c0] w fun e w' => ∃ v0_ : Value, e = .returned (.tuple #[.agg #[v0_], .int .i64 r2]) ∧ Kd.Q k28 28 w' w.heap.size (fun _ => True) v0_ r1 ∧ Below w.heap.size w w' := by
 have hu46 := Tryz.underlying46
 have HR0 := Aside0.mk hr0
 have HC0 := Aside0.mk hc0
 clear hr0 hc0
 have HB := Aside0.mk (Below.refl w.heap.size w)
 unfold spec_DrawJoined.f at h
 have H := h
 clear h
 obtain ⟨⟨t1058, t1059, t1060⟩, A2, H⟩ := oB H
 obtain ⟨⟨t1062, t1063, t1064⟩, A3, H⟩ := oB H
 obtain ⟨⟨t1065, t1068, t1069⟩, A4, H⟩ := oB H
 simp only [Option.some.injEq, Prod.mk.injEq] at H
 obtain ⟨rfl, rfl⟩ := H
 go_enter Tryz.func30, Tryz.ntmps30
 go_wp2_with (first | (refine gB 2 #[.slice none 0 0] 46 ?_; intro gb1057 hg w5 BK1057 hb; have GW1057 := bG HB hg; have GE1057 := bG HB hg; replace HB := bS HB hb; clear hb hg) | (refine gC (some 7) Tryz.func42 #[.slice A0 l0.length c0] ?_; (with_reducible refine (spec_l01New.calls k _ _ l0 t1058 t1059 t1060 w _ ?side1 ?side2 ?side3 A2.out).mono ?_); (case side1 => repeat (first | (with_reducible first | exact HB.out | apply below_alloc | apply pw_below_drewN | apply below_drew1 | refine below_set ?_ GE1057.out) | exact HB.out)); (case side2 => exact HR0.out); (case side3 => exact HC0.out); rintro e w6 ⟨g1061, rfl, hi, hb, hb2⟩; refine ⟨_, rfl, ?_⟩; replace HB := Aside0.mk (hb); have HI1061 := Aside0.mk (hi); have NB1061_1057 := Aside0.mk (IsS90.ne_blk hi (blk_below (bP BK1057) hb2) (by decide)); have NB1057_1061 := Aside0.mk (Ne.symm (IsS90.ne_blk hi (blk_below (bP BK1057) hb2) (by decide))); replace BK1057 := Aside0.mk (blk_below (bP BK1057) hb2); (try clear hb)) | (refine gC (some 9) Tryz.func77 #[.pointer (some ⟨g1061, 0, none⟩)] ?_; (with_reducible refine (spec_l12Bits.calls g1061 t1058 t1059 t1060 t1062 t1063 t1064 w _ ?side1 ?side2 A3.out).mono ?_); (case side1 => exact iZ90 HI1061); (case side2 => exact jZ90 HB HI1061); rintro e w7 ⟨rfl, hi, hb, hk⟩; refine ⟨_, rfl, ?_⟩; replace BK1057 := Aside0.mk (KeepBut.blk hk (g' := gb1057) (o := .cells #[.slice none 0 0] 46 (0, 0)) (bP BK1057) NB1057_1061.out (by simp)); replace HB := Aside0.mk (hb); replace HI1061 := Aside0.mk (hi); (try clear hb)) | (refine gC (some 11) Tryz.func69 #[.pointer (some ⟨g1061, 0, none⟩)] ?_; (with_reducible refine (spec_l12Any.calls k g1061 t1058 t1063 t1064 t1065 t1068 t1069 w _ ?side1 ?side2 A4.out).mono ?_); (case side1 => exact iZ90 HI1061); (case side2 => exact jZ90 HB HI1061); rintro e w8 ⟨v1066, rfl, ho0, hi, hb, hk⟩; refine ⟨_, rfl, ?_⟩; replace BK1057 := Aside0.mk (KeepBut.blk hk (g' := gb1057) (o := .cells #[.slice none 0 0] 46 (0, 0)) (bP BK1057) NB1057_1061.out (by simp)); have HO1067 := Aside0.mk (Kd.Q_lower ho0 (below_size (jZ90 HB HI1061))); replace HB := Aside0.mk (hb); replace HI1061 := Aside0.mk (hi); (try clear hb); (try clear ho0); obtain ⟨Ao9, co9, eo9, _⟩ := Kd.Q_slice HO1067.out; subst eo9; obtain ⟨hnb10, hnc10⟩ := nB NB1057_1061; obtain ⟨hcz11_0, hfz11_0⟩ := bK1 (w := w8) BK1057))
 refine bodyPost_ret (results_ct rfl _ _ gb1057 46 #[.slice Ao9 t1065.length co9] (0, 0) _ rfl (bU BK1057) Tryz.underlying46 rfl (by kernel_rfl)) rfl ?_
 exact ⟨_, by first | rfl | (simp [errW_none, errW_some] <;> rfl) | (simp [*, errW_none, errW_some] <;> rfl), by (with_reducible repeat (first | apply Kd.Q_alloc | apply Kd.Q_drewN | apply Kd.Q_drew)); exact Kd.Q_mono (Kd.Q_far (p := ⟨gb1057, 0, none⟩) (Kd.Q_types HO1067.out BK1057.out (by decide)) (fun _ hk => hk.2) (.slice Ao9 t1065.length co9)) (fun _ hk => trivial), jZ90 HB HI1061⟩
def spec_DrawSignBits.f (k : Nat) (l0 : List Int) : Option (Int × Int × ByteArray) := (spec_l01New.f k l0).bind fun bt1070 => ((spec_l12Bits.f bt1070.1 bt1070.2.1 bt1070.2.2).bind fun bt1074 => ((spec_l01Below.f bt1070.1 bt1074.2.1 bt1074.2.2 50).bind fun bt1077 => ((spec_l01Text.f k bt1070.1 bt1077.2.1 bt1077.2.2 3).bind fun bt1080 => (some (bt1077.1, bt1074.1, bt1080.1)))))
theorem spec_DrawSignBits.calls (k : Nat) (A0 : Option Addr) (c0 : Nat) (l0 : List Int) (r1 : Int) (r2 : Int) (r3 : ByteArray) (w : World) (hr0 : Kd.C (Kd.int .u8) w A0 l0.length l0) (hc0 : l0.length ≤ c0) (h : spec_DrawSignBits.f k l0 = some (r1, r2, r3)) :
  Calls Tryz.prog 31 #[.slice A0 l0.length c0] w fun e w' => e = .returned (.tuple #[.int .i64 r1, .int .i64 r2, .string r3]) ∧ Below w.heap.size w w' := by
 have HR0 := Aside0.mk hr0
 have HC0 := Aside0.mk hc0
 clear hr0 hc0
 have HB := Aside0.mk (Below.refl w.heap.size w)
 unfold spec_DrawSignBits.f at h
 have H := h
 clear h
 obtain ⟨⟨t1070, t1071, t1072⟩, A2, H⟩ := oB H
 obtain ⟨⟨t1074, t1075, t1076⟩, A3, H⟩ := oB H
 obtain ⟨⟨t1077, t1078, t1079⟩, A4, H⟩ := oB H
 obtain ⟨⟨t1080, t1081, t1082⟩, A5, H⟩ := oB H
 simp only [Option.some.injEq, Prod.mk.injEq] at H
 obtain ⟨rfl, rfl, rfl⟩ := H
 go_enter Tryz.func31, Tryz.ntmps31
 go_wp2_with (first | (refine gC (some 9) Tryz.func42 #[.slice A0 l0.length c0] ?_; (with_reducible refine (spec_l01New.calls k _ _ l0 t1070 t1071 t1072 w _ ?side1 ?side2 ?side3 A2.out).mono ?_); (case side1 => repeat (first | (with_reducible first | exact HB.out | apply below_alloc | apply pw_below_drewN | apply below_drew1) | exact HB.out)); (case side2 => exact HR0.out); (case side3 => exact HC0.out); rintro e w6 ⟨g1073, rfl, hi, hb, hb2⟩; refine ⟨_, rfl, ?_⟩; replace HB := Aside0.mk (hb); have HI1073 := Aside0.mk (hi); (try clear hb)) | (refine gC (some 11) Tryz.func77 #[.pointer (some ⟨g1073, 0, none⟩)] ?_; (with_reducible refine (spec_l12Bits.calls g1073 t1070 t1071 t1072 t1074 t1075 t1076 w _ ?side1 ?side2 A3.out).mono ?_); (case side1 => exact iZ90 HI1073); (case side2 => exact jZ90 HB HI1073); rintro e w7 ⟨rfl, hi, hb, hk⟩; refine ⟨_, rfl, ?_⟩; replace HB := Aside0.mk (hb); replace HI1073 := Aside0.mk (hi); (try clear hb)) | (refine gC (some 13) Tryz.func44 #[.pointer (some ⟨g1073, 0, none⟩), .int .i64 50] ?_; (with_reducible refine (spec_l01Below.calls g1073 t1070 t1075 t1076 50 t1077 t1078 t1079 w _ ?side1 ?side2 A4.out).mono ?_); (case side1 => exact iZ90 HI1073); (case side2 => exact jZ90 HB HI1073); rintro e w8 ⟨rfl, hi, hb, hk⟩; refine ⟨_, rfl, ?_⟩; replace HB := Aside0.mk (hb); replace HI1073 := Aside0.mk (hi); (try clear hb)) | (refine gC (some 17) Tryz.func49 #[.pointer (some ⟨g1073, 0, none⟩), .int .i64 3] ?_; (with_reducible refine (spec_l01Text.calls k g1073 t1070 t1078 t1079 3 t1080 t1081 t1082 w _ ?side1 ?side2 A5.out).mono ?_); (case side1 => exact iZ90 HI1073); (case side2 => exact jZ90 HB HI1073); rintro e w9 ⟨rfl, hi, hb, hk⟩; refine ⟨_, rfl, ?_⟩; replace HB := Aside0.mk (hb); replace HI1073 := Aside0.mk (hi); (try clear hb)))
 go_ret3
 exact ⟨by first | rfl | (simp [errW_none, errW_some] <;> rfl) | (simp [*, errW_none, errW_some] <;> rfl), jZ90 HB HI1073⟩
def impl_isBits.f (a0 : Int) : Option (Bool) := if a0 ≥ 0 then (some (decide (a0 ≤ 255))) else (some false)
theorem impl_isBits.calls (a0 : Int) (r : Bool) (w : World) (h : impl_isBits.f a0 = some r) :
  Calls Tryz.prog 78 #[.int .i64 a0] w fun e w' => e = .returned (.bool r) ∧ Drawn0 w w' := by
 unfold impl_isBits.f at h
 have H := h
 clear h
 by_cases c2 : a0 ≥ 0
 ·rw [if_pos c2] at H
  have c2b0 := decide_eq_true c2
  clear c2
  obtain rfl := Option.some.inj H
  go_enter Tryz.func78, Tryz.ntmps78
  go_wp2
  go_ret
  exact ⟨rS, rD⟩
 ·rw [if_neg c2] at H
  have c2b0 := decide_eq_false c2
  clear c2
  obtain rfl := Option.some.inj H
  go_enter Tryz.func78, Tryz.ntmps78
  go_wp2
  go_ret
  exact ⟨rS, rD⟩
end Go.Proofs.YtkdmplfldfagnaaGreatDoor.Pf
end
section
namespace Go.Proofs.YtkdmplfldfagnaaGreatDoor.Pf
open Go.RowKit Go.Proofs.YtkdmplfldfagnaaGreatDoorW.PrintWords Go.Proofs.YtkdmplfldfagnaaGreatDoorW.PrintLast Go.Proofs.YtkdmplfldfagnaaGreatDoorW.PrintMore
attribute [local go_sem] max2_int min2_int max_two min_two max_three min_three max_four min_four   -- for this text's walks alone
set_option linter.unusedVariables false
set_option linter.unusedSimpArgs false
set_option maxHeartbeats 8000000
set_option maxRecDepth 100000
mutual
def impl_Joined.j0 : Nat → Int → Bool → List (S28) → Option ((List (S28)))
 | 0, _, _, _ => none
 | k + 1, x1, x15, x1086000 => if x15 = true then (some ([] : List (S28))) else (impl_Joined.l0 k x1 ([] : List (S28)) x1086000 (x1086000.length : Int) 0)
def impl_Joined.l0 : Nat → Int → List (S28) → List (S28) → Int → Int → Option ((List (S28)))
 | 0, _, _, _, _, _ => none
 | k + 1, x1, x5, x17, x18, x19 => if x19 < x18 then (if 0 ≤ x19 then (if x19 < (x17.length : Int) then (if 0 ≤ (IntKind.u64.wrap (x19)) then (if (Go.bits .and .i64 (shr .i64 x1 (IntKind.u64.wrap (x19))) 1) = 1 then (if x5.length < 5864062014805 then (impl_Joined.l0 k x1 (x5 ++ [(⟨(rd_T28 x17 x19).f0, (rd_T28 x17 x19).f1, (rd_T28 x17 x19).f2⟩ : S28)]) x17 x18 (wrap64 (x19 + 1))) else (none)) else (impl_Joined.l0 k x1 x5 x17 x18 (wrap64 (x19 + 1)))) else (none)) else (none)) else (none)) else (some x5)
end
def impl_Joined.f (k : Nat) (l0_0 : List (S28)) (a1 : Int) : Option ((List (S28))) := (impl_isBits.f a1).bind fun t1086 => (if t1086 = true then ((impl_CommitteeOk.f k l0_0).bind fun t1087 => (impl_Joined.j0 k a1 (!t1087) l0_0)) else (impl_Joined.j0 k a1 true l0_0))
theorem impl_Joined.calls (k : Nat) (A0_0 : Option Addr) (c0_0 : Nat) (l0_0 : List (S28)) (a1 : Int) (r : List (S28)) (w : World) (hr0_0 : Kd.C k28 w A0_0 l0_0.length l0_0) (hc0_0 : l0_0.length ≤ c0_0) (h : impl_Joined.f k l0_0 a1 = some r) :
  Calls Tryz.prog 33 #[.agg #[.slice A0_0 l0_0.length c0_0], .int .i64 a1] w fun e w' => ∃ v0_ : Value, e = .returned (v0_) ∧ Kd.R k28 28 w' w.heap.size (fun _ => True) v0_ r ∧ Below w.heap.size w w' := by
 have hu46 := Tryz.underlying46
 have hu28 := Tryz.underlying28
 have HR0_0 := Aside0.mk hr0_0
 have HC0_0 := Aside0.mk hc0_0
 clear hr0_0 hc0_0
 have HB := Aside0.mk (Below.refl w.heap.size w)
 unfold impl_Joined.f at h
 have H := h
 clear h
 have HC3 := Aside0.mk H
 clear H
 go_enter Tryz.func33, Tryz.ntmps33
 go_upto_region 1 with (first | (refine gB 2 #[.slice A0_0 l0_0.length c0_0] 46 ?_; intro gb1085 hg w4 BK1085 hb; have GW1085 := bG HB hg; replace HB := bS HB hb; clear hb hg))
 (try simp only [Act.put, List.setIfInBounds_toArray, List.set_cons_zero, List.set_cons_succ])
 go_cut [15] (fun v15 wc => ∃ (kq : Nat) (x15_2 : Bool), v15 = .bool x15_2 ∧ Aside0 (impl_Joined.j0 kq a1 x15_2 l0_0 = some r) ∧ Aside0 (kq ≤ k) ∧ Aside0 (wc.heap[gb1085]? = some (.cells #[(.slice A0_0 l0_0.length c0_0)] 46 (0, 0))) ∧ Aside0 (Below w.heap.size w wc))
 case first =>
  have H := HC3.out
  clear HC3
  obtain ⟨t1086, A5, H⟩ := oB H
  by_cases c6 : t1086 = true
  ·subst c6
   rw [if_pos rfl] at H
   obtain ⟨t1087, A7, H⟩ := oB H
   have H' := Aside0.mk H
   clear H
   go_wp2_with (first | (refine gC (some 9) Tryz.func78 #[.int .i64 a1] ?_; (with_reducible refine (impl_isBits.calls a1 true _ A5.out).mono ?_); rintro e w' ⟨rfl, ⟨nd, rfl⟩⟩; refine ⟨_, rfl, ?_⟩; obtain ⟨hcz8_0, hfz8_0⟩ := bK1 (w := w4) BK1085) | (go_at_call 39; (with_reducible refine (impl_CommitteeOk.calls k _ _ l0_0 t1087 _ ?side1 ?side2 A7.out).mono ?_); (case side1 => exact cP (Kd.C_below HR0_0.out (bZ HB))); (case side2 => exact HC0_0.out); rintro e w9 ⟨rfl, hb⟩; replace BK1085 := bB BK1085 hb; replace HB := bS HB hb; (try clear hb)))
   go_meet
   case rel => exact ⟨_, (!t1087), rS, H', ⟨by first | omega | exact Nat.le_refl _⟩, ⟨bP BK1085⟩, ⟨bZ HB⟩⟩
  ·replace c6 := Bool.eq_false_iff.mpr c6
   subst c6
   rw [if_neg (show ¬ (false = true) by decide)] at H
   have H' := Aside0.mk H
   clear H
   go_wp2_with (first | (refine gC (some 9) Tryz.func78 #[.int .i64 a1] ?_; (with_reducible refine (impl_isBits.calls a1 false _ A5.out).mono ?_); rintro e w' ⟨rfl, ⟨nd, rfl⟩⟩; refine ⟨_, rfl, ?_⟩))
   go_meet
   case rel => exact ⟨_, (true), rS, H', ⟨by first | omega | exact Nat.le_refl _⟩, ⟨bP BK1085⟩, ⟨bZ HB⟩⟩
 case rest =>
  clear HC3
  try clear p2
  try clear c3
  try clear c6
  try clear c7
  try clear hcz8_0
  try clear hfz8_0
  obtain ⟨kq, x15_2, rfl, HA, HJ2, BK1085, HB⟩ := hcut
  cases kq with
  | zero => exact absurd HA.out (by simp [impl_Joined.j0])
  | succ kj2 =>
   have H := HA.out
   clear HA
   simp only [impl_Joined.j0] at H
   by_cases c10 : x15_2 = true
   ·subst c10
    rw [if_pos rfl] at H
    obtain rfl := Option.some.inj H
    go_wp2
    go_ret
    exact ⟨_, by first | rfl | (simp [errW_none, errW_some] <;> rfl) | (simp [*, errW_none, errW_some] <;> rfl), by first | exact Kd.R_nil _ _ _ _ _ | exact Kd.N_nil _ _ _ _ _ | exact Kd.V_nil _ _ _ _ _ | exact Kd.Q_nil _ _ _ _ _ | exact Kd.S_nil _ _ _ _ _, bZ HB⟩
   ·replace c10 := Bool.eq_false_iff.mpr c10
    subst c10
    rw [if_neg (show ¬ (false = true) by decide)] at H
    have H' := Aside0.mk H
    clear H
    obtain ⟨hcz11_0, hfz11_0⟩ := bK1 (w := wc) BK1085
    go_wp2
    go_loopg [5, 19] kj2 (fun kq v5 v19 w' => ∃ (x5_2 : List (S28)) (x19_2 : Int), v19 = .int .i64 x19_2 ∧ Aside0 (impl_Joined.l0 kq a1 x5_2 l0_0 (l0_0.length : Int) x19_2 = some r) ∧ Aside0 (kq ≤ kj2) ∧ Aside0 (Kd.R k28 28 w' w.heap.size (fun _ => True) v5 x5_2) ∧ Aside0 (w'.heap[gb1085]? = some (.cells #[(.slice A0_0 l0_0.length c0_0)] 46 (0, 0))) ∧ Aside0 (Below w.heap.size w w'))
    case atStart => exact ⟨(([] : List (S28))), (0), rS, H', ⟨Nat.le_refl _⟩, ⟨by first | exact Kd.R_nil _ _ _ _ _ | exact Kd.N_nil _ _ _ _ _ | exact Kd.V_nil _ _ _ _ _ | exact Kd.Q_nil _ _ _ _ _ | exact Kd.S_nil _ _ _ _ _⟩, ⟨bP BK1085⟩, ⟨bZ HB⟩⟩
    case round =>
     clear H'
     try clear c1
     try clear p2
     try clear c3
     try clear c6
     try clear c7
     try clear c10
     try clear hcz11_0
     try clear hcz8_0
     try clear hfz11_0
     try clear hfz8_0
     try clear p2
     obtain ⟨x5_2, x19_2, rfl, HA, HK2, HO_5, BK1085, HB⟩ := hrel
     cases gk with
     | zero => exact absurd HA.out (by simp [impl_Joined.l0])
     | succ k2 =>
      have H := HA.out
      clear HA
      simp only [impl_Joined.l0] at H
      by_cases c12 : x19_2 < (l0_0.length : Int)
      ·rw [if_pos c12] at H
       have c12b0 := decide_eq_true c12
       clear c12
       by_cases c13 : 0 ≤ x19_2
       ·rw [if_pos c13] at H
        have c13b0 := decide_eq_true c13
        clear c13
        by_cases c14 : x19_2 < (l0_0.length : Int)
        ·rw [if_pos c14] at H
         have c14b0 := decide_eq_true c14
         clear c14
         obtain ⟨ji15, hji15⟩ : ∃ j_ : Int, (IntKind.u64.wrap (x19_2)) = j_ := ⟨_, rfl⟩
         replace H : (if 0 ≤ (ji15) then (if (Go.bits .and .i64 (shr .i64 a1 (ji15)) 1) = 1 then (if x5_2.length < 5864062014805 then (impl_Joined.l0 k2 a1 (x5_2 ++ [(⟨(rd_T28 l0_0 x19_2).f0, (rd_T28 l0_0 x19_2).f1, (rd_T28 l0_0 x19_2).f2⟩ : S28)]) l0_0 (l0_0.length : Int) (wrap64 (x19_2 + 1))) else (none)) else (impl_Joined.l0 k2 a1 x5_2 l0_0 (l0_0.length : Int) (wrap64 (x19_2 + 1)))) else (none)) = some r := jR hji15 H
         by_cases c16 : 0 ≤ (ji15)
         ·rw [if_pos c16] at H
          have c16b0 := eq_true c16
          have c16b1 := decide_eq_true c16
          clear c16
          obtain ⟨ji17, hji17⟩ : ∃ j_ : Int, (shr .i64 a1 (ji15)) = j_ := ⟨_, rfl⟩
          replace H : (if (Go.bits .and .i64 (ji17) 1) = 1 then (if x5_2.length < 5864062014805 then (impl_Joined.l0 k2 a1 (x5_2 ++ [(⟨(rd_T28 l0_0 x19_2).f0, (rd_T28 l0_0 x19_2).f1, (rd_T28 l0_0 x19_2).f2⟩ : S28)]) l0_0 (l0_0.length : Int) (wrap64 (x19_2 + 1))) else (none)) else (impl_Joined.l0 k2 a1 x5_2 l0_0 (l0_0.length : Int) (wrap64 (x19_2 + 1)))) = some r := jR hji17 H
          have hji17_ : (a1 / 2 ^ min (ji15).toNat 64) = ji17 := hji17
          have hji17z : (ji15) ≤ 64 → (a1 / 2 ^ (ji15).toNat) = ji17 := shr_small hji17
          by_cases c18 : (Go.bits .and .i64 (ji17) 1) = 1
          ·rw [if_pos c18] at H
           have c18b0 : ((Go.bits .and .i64 (ji17) 1) == 1) = true := beq_iff_eq.mpr c18
           have c18b1 : ((Go.bits .and .i64 (ji17) 1) != 1) = false := bne_eq_false_iff_eq.mpr c18
           clear c18
           by_cases c19 : x5_2.length < 5864062014805
           ·rw [if_pos c19] at H
            have LMc19 := Aside0.mk c19
            clear c19
            obtain ⟨y1090, hy1090⟩ : ∃ y_ : List (S28), y_ = (x5_2 ++ [(⟨(rd_T28 l0_0 x19_2).f0, (rd_T28 l0_0 x19_2).f1, (rd_T28 l0_0 x19_2).f2⟩ : S28)]) := ⟨_, rfl⟩
            replace H : (impl_Joined.l0 k2 a1 y1090 l0_0 (l0_0.length : Int) (wrap64 (x19_2 + 1))) = some r := yR hy1090 H
            have Ny1090 := Aside0.mk hy1090
            clear hy1090
            have H' := Aside0.mk H
            clear H
            have p1088 : 0 ≤ (x19_2 : Int) := aQ
            have q1088 : x19_2 < (l0_0.length : Int) := aQ
            obtain ⟨ad1088, e1088, hx1088_0, hx1088_1, hx1088_2⟩ := at_T28 HR0_0.out x19_2 p1088 q1088
            cases e1088
            replace hx1088_0 := (hC HB hx1088_0 :)
            replace hx1088_1 := (hC HB hx1088_1 :)
            replace hx1088_2 := (hC HB hx1088_2 :)
            replace p1088 := eq_true p1088
            replace q1088 := eq_true q1088
            go_wp2_with (first | ((with_reducible refine gate_dst (N := 7) rfl ?_); refine bE 7 #[.int .i64 0, .int .i64 0, .bool false] 28 ?_; intro gb1089 hg w20 hbox hb; replace HO_5 := Aside0.mk (Kd.R_below (Kd.R_elderB (rP HO_5) gb1089 (Nat.le_of_eq hg.symm)) hb); have BK1089 := Aside0.mk (hbox); have GW1089 := bG HB hg; replace HB := bS HB hb; obtain ⟨NB1085_1089, NB1089_1085⟩ := bN BK1085 hg; replace BK1085 := bB BK1085 hb; clear hb hbox hg; obtain ⟨hnb21, hnc21⟩ := nB NB1089_1085; obtain ⟨hcz22_0, hcz22_1, hcz22_2, hfz22_0, hfz22_1, hfz22_2⟩ := bK3 (w := w20) BK1089) | ((with_reducible refine gate_builtin (b := .append) (xs := #[.tmp 30, .tmp 32]) rfl ?_); at_builtin; refine Kd.R_append k28 (w0 := w) w.heap.size rfl (.tmp 30) (.tmp 32) 26 28 (.agg #[(.int .i64 0), (.int .i64 0), (.bool false)]) 24 rfl Tryz.underlying26 info28 rfl (by decide) (by omega) u5 x5_2 (⟨(rd_T28 l0_0 x19_2).f0, (rd_T28 l0_0 x19_2).f1, (rd_T28 l0_0 x19_2).f2⟩ : S28) [.int .i64 ((rd_T28 l0_0 x19_2).f0), .int .i64 ((rd_T28 l0_0 x19_2).f1), .bool ((rd_T28 l0_0 x19_2).f2)] (fun k_ => k_ ≠ gb1089) (fun _ => False) rfl (by first | (go_simp; done) | (go_simp; rfl)) ?aP (fun _ hk => hk.elim) ?aF ?aO ?aB ?aS ?aL ?_; (case aP => exact k28_mkM _ _ _ (⟨(rd_T28 l0_0 x19_2).f0, (rd_T28 l0_0 x19_2).f1, (rd_T28 l0_0 x19_2).f2⟩ : S28)); (case aB => exact (bZ HB)); (case aF => exact (fun k_ hk => Kd.freshB (g := gb1089) (o := .cells #[.int .i64 ((rd_T28 l0_0 x19_2).f0), .int .i64 ((rd_T28 l0_0 x19_2).f1), .bool ((rd_T28 l0_0 x19_2).f2)] 28 (0, 0)) (bU BK1089) k_ hk)); (case aO => exact (by (with_reducible repeat (first | apply Kd.R_alloc | apply Kd.R_drewN | apply Kd.R_drew)); exact Kd.R_mono (Kd.R_far (p := ⟨gb1089, 2, none⟩) (Kd.R_far (p := ⟨gb1089, 1, none⟩) (Kd.R_far (p := ⟨gb1089, 0, none⟩) (Kd.R_mono HO_5.out (fun k_ hk => (⟨hk, hk.2⟩ : _ ∧ k_ ≠ gb1089))) (fun _ hk => hk.2) (.int .i64 ((rd_T28 l0_0 x19_2).f0))) (fun _ hk => hk.2) (.int .i64 ((rd_T28 l0_0 x19_2).f1))) (fun _ hk => hk.2) (.bool ((rd_T28 l0_0 x19_2).f2))) (fun _ hk => hk.1.2))); (case aS => exact (below_size (bZ HB))); (case aL => have := LMc19.out; omega); intro v1091 w23 ho hb hg hat; rw [← Ny1090.out] at ho; replace BK1085 := Aside0.mk (blk_grown (bP BK1085) hg (Kd.R_ne HO_5.out BK1085.out (by decide))); replace BK1089 := Aside0.mk (blk_grown (g := gb1089) (o := .cells #[.int .i64 ((rd_T28 l0_0 x19_2).f0), .int .i64 ((rd_T28 l0_0 x19_2).f1), .bool ((rd_T28 l0_0 x19_2).f2)] 28 (0, 0)) (bU BK1089) hg (Kd.R_away HO_5.out (fun _ hk => hk.2))); replace HB := Aside0.mk (hb); have HO1092 := Aside0.mk (ho); clear HO_5; clear ho hb hg hat))
            go_roundg k2
            case measure => have := HJ2.out; have := HK2.out; omega
            case rel => exact ⟨(y1090), (wrap64 (x19_2 + 1)), rS, H', ⟨by have := HJ2.out; have := HK2.out; omega⟩, ⟨by (with_reducible repeat (first | apply Kd.R_alloc | apply Kd.R_drewN | apply Kd.R_drew)); exact Kd.R_mono HO1092.out (fun _ hk => trivial)⟩, ⟨bP BK1085⟩, ⟨bZ HB⟩⟩
           ·rw [if_neg c19] at H
            exact absurd H (by simp)
          ·rw [if_neg c18] at H
           have c18b0 : ((Go.bits .and .i64 (ji17) 1) == 1) = false := beq_eq_false_iff_ne.mpr c18
           have c18b1 : ((Go.bits .and .i64 (ji17) 1) != 1) = true := bne_iff_ne.mpr c18
           have H' := Aside0.mk H
           clear H
           have p1088 : 0 ≤ (x19_2 : Int) := aQ
           have q1088 : x19_2 < (l0_0.length : Int) := aQ
           obtain ⟨ad1088, e1088, hx1088_0, hx1088_1, hx1088_2⟩ := at_T28 HR0_0.out x19_2 p1088 q1088
           cases e1088
           replace hx1088_0 := (hC HB hx1088_0 :)
           replace hx1088_1 := (hC HB hx1088_1 :)
           replace hx1088_2 := (hC HB hx1088_2 :)
           replace p1088 := eq_true p1088
           replace q1088 := eq_true q1088
           go_wp2_with (first | ((with_reducible refine gate_dst (N := 7) rfl ?_); refine bE 7 #[.int .i64 0, .int .i64 0, .bool false] 28 ?_; intro gb1089 hg w24 hbox hb; replace HO_5 := Aside0.mk (Kd.R_below (Kd.R_elderB (rP HO_5) gb1089 (Nat.le_of_eq hg.symm)) hb); have BK1089 := Aside0.mk (hbox); have GW1089 := bG HB hg; replace HB := bS HB hb; obtain ⟨NB1085_1089, NB1089_1085⟩ := bN BK1085 hg; replace BK1085 := bB BK1085 hb; clear hb hbox hg; obtain ⟨hnb25, hnc25⟩ := nB NB1089_1085; obtain ⟨hcz26_0, hcz26_1, hcz26_2, hfz26_0, hfz26_1, hfz26_2⟩ := bK3 (w := w24) BK1089))
           go_roundg k2
           case measure => have := HJ2.out; have := HK2.out; omega
           case rel => exact ⟨(x5_2), (wrap64 (x19_2 + 1)), rS, H', ⟨by have := HJ2.out; have := HK2.out; omega⟩, ⟨by (with_reducible repeat (first | apply Kd.R_alloc | apply Kd.R_drewN | apply Kd.R_drew)); exact Kd.R_mono (Kd.R_far (p := ⟨gb1089, 2, none⟩) (Kd.R_far (p := ⟨gb1089, 1, none⟩) (Kd.R_far (p := ⟨gb1089, 0, none⟩) (Kd.R_mono HO_5.out (fun k_ hk => (⟨hk, hk.2⟩ : _ ∧ k_ ≠ gb1089))) (fun _ hk => hk.2) (.int .i64 ((rd_T28 l0_0 x19_2).f0))) (fun _ hk => hk.2) (.int .i64 ((rd_T28 l0_0 x19_2).f1))) (fun _ hk => hk.2) (.bool ((rd_T28 l0_0 x19_2).f2))) (fun _ hk => trivial)⟩, ⟨bP BK1085⟩, ⟨bZ HB⟩⟩
         ·rw [if_neg c16] at H
          exact absurd H (by simp)
        ·rw [if_neg c14] at H
         exact absurd H (by simp)
       ·rw [if_neg c13] at H
        exact absurd H (by simp)
      ·rw [if_neg c12] at H
       have c12b0 := decide_eq_false c12
       clear c12
       obtain rfl := Option.some.inj H
       go_wp2
       go_ret
       exact ⟨_, by first | rfl | (simp [errW_none, errW_some] <;> rfl) | (simp [*, errW_none, errW_some] <;> rfl), by (with_reducible repeat (first | apply Kd.R_alloc | apply Kd.R_drewN | apply Kd.R_drew)); exact HO_5.out, bZ HB⟩
end Go.Proofs.YtkdmplfldfagnaaGreatDoor.Pf
end
section
namespace Go.Proofs.YtkdmplfldfagnaaGreatDoor.Pf
open Go.RowKit Go.Proofs.YtkdmplfldfagnaaGreatDoorW.PrintWords Go.Proofs.YtkdmplfldfagnaaGreatDoorW.PrintLast Go.Proofs.YtkdmplfldfagnaaGreatDoorW.PrintMore
attribute [local go_sem] max2_int min2_int max_two min_two max_three min_three max_four min_four   -- for this text's walks alone
set_option linter.unusedVariables false
set_option linter.unusedSimpArgs false
set_option maxHeartbeats 8000000
set_option maxRecDepth 100000
mutual
def spec_Joined.j0 : Nat → Int → List (S28) → Bool → List (S28) → Option ((List (S28)))
 | 0, _, _, _, _ => none
 | k + 1, x1, x5, x15, x1094000 => if x15 = true then (some x5) else (spec_Joined.l0 k x1 x5 0 x1094000)
def spec_Joined.l0 : Nat → Int → List (S28) → Int → List (S28) → Option ((List (S28)))
 | 0, _, _, _, _ => none
 | k + 1, x1, x5, x6, x1094000 => if x6 < 8 then (if 0 ≤ (IntKind.u64.wrap (x6)) then (if (Int.tmod (shr .i64 x1 (IntKind.u64.wrap (x6))) 2) = 1 then (if 0 ≤ x6 then (if x6 < (x1094000.length : Int) then (if x5.length < 5864062014805 then (spec_Joined.l0 k x1 (x5 ++ [(⟨(rd_T28 x1094000 x6).f0, (rd_T28 x1094000 x6).f1, (rd_T28 x1094000 x6).f2⟩ : S28)]) (wrap64 (x6 + 1)) x1094000) else (none)) else (none)) else (none)) else (spec_Joined.l0 k x1 x5 (wrap64 (x6 + 1)) x1094000)) else (none)) else (some x5)
end
def spec_Joined.f (k : Nat) (l0_0 : List (S28)) (a1 : Int) : Option ((List (S28))) := (some (([] : List (S28)) : List (S28))).bind fun y1094 => ((spec_CommitteeOk.f k l0_0).bind fun t1097 => (if t1097 = true then ((spec_l01In.f a1 0 255).bind fun t1098 => (spec_Joined.j0 k a1 y1094 (!t1098) l0_0)) else (spec_Joined.j0 k a1 y1094 true l0_0)))
theorem spec_Joined.calls (k : Nat) (A0_0 : Option Addr) (c0_0 : Nat) (l0_0 : List (S28)) (a1 : Int) (r : List (S28)) (w : World) (hr0_0 : Kd.C k28 w A0_0 l0_0.length l0_0) (hc0_0 : l0_0.length ≤ c0_0) (h : spec_Joined.f k l0_0 a1 = some r) :
  Calls Tryz.prog 34 #[.agg #[.slice A0_0 l0_0.length c0_0], .int .i64 a1] w fun e w' => ∃ v0_ : Value, e = .returned (v0_) ∧ Kd.R k28 28 w' w.heap.size (fun _ => True) v0_ r ∧ Below w.heap.size w w' := by
 have hu46 := Tryz.underlying46
 have hu28 := Tryz.underlying28
 have HR0_0 := Aside0.mk hr0_0
 have HC0_0 := Aside0.mk hc0_0
 clear hr0_0 hc0_0
 have HB := Aside0.mk (Below.refl w.heap.size w)
 unfold spec_Joined.f at h
 have H := h
 clear h
 obtain ⟨y1094, hy1094⟩ : ∃ y_ : List (S28), y_ = (([] : List (S28))) := ⟨_, rfl⟩
 replace H : ((spec_CommitteeOk.f k l0_0).bind fun t1097 => (if t1097 = true then ((spec_l01In.f a1 0 255).bind fun t1098 => (spec_Joined.j0 k a1 y1094 (!t1098) l0_0)) else (spec_Joined.j0 k a1 y1094 true l0_0))) = some r := yR hy1094 H
 have Ny1094 := Aside0.mk hy1094
 clear hy1094
 have HC3 := Aside0.mk H
 clear H
 go_enter Tryz.func34, Tryz.ntmps34
 go_upto_region 2 with (first | (refine gB 2 #[.slice A0_0 l0_0.length c0_0] 46 ?_; intro gb1093 hg w4 BK1093 hb; have GW1093 := bG HB hg; replace HB := bS HB hb; clear hb hg) | ((with_reducible refine gate_dst (N := 7) rfl ?_); refine Kd.R_lit k28 _ 28 ?hg (N := 7) ?hd (xs := ([] : List (S28))) (inner := []) (ok := fun _ => True) (okp := fun _ => True) ?hr ?hp (fun _ hk => hk) trivial (Below.refl _ _) (Nat.le_refl _) (by simp) ?_; (case hd => rfl); (case hg => rfl); (case hr => first | (go_simp; done) | (go_simp; rfl)); (case hp => exact (Reps.none _ _)); intro v1095 w5 ho6 hb hg_ hnew_; clear hg_ hnew_; (first | rw [← Ny1094.out] at ho6 | (simp only [Int.reduceToNat] at ho6; rw [← Ny1094.out] at ho6)); have HO1096 := Aside0.mk (Kd.R_lower ho6 (below_size (bZ HB))); replace BK1093 := bB BK1093 hb; replace HB := bS HB hb; clear hb ho6))
 (try simp only [Act.put, List.setIfInBounds_toArray, List.set_cons_zero, List.set_cons_succ])
 go_cut [15] (fun v15 wc => ∃ (kq : Nat) (x15_2 : Bool), v15 = .bool x15_2 ∧ Aside0 (spec_Joined.j0 kq a1 y1094 x15_2 l0_0 = some r) ∧ Aside0 (kq ≤ k) ∧ Aside0 (Kd.R k28 28 wc w.heap.size (fun _ => True) v1095 y1094) ∧ Aside0 (wc.heap[gb1093]? = some (.cells #[(.slice A0_0 l0_0.length c0_0)] 46 (0, 0))) ∧ Aside0 (Below w.heap.size w wc))
 case first =>
  have H := HC3.out
  clear HC3
  obtain ⟨t1097, A7, H⟩ := oB H
  by_cases c8 : t1097 = true
  ·subst c8
   rw [if_pos rfl] at H
   obtain ⟨t1098, A9, H⟩ := oB H
   have H' := Aside0.mk H
   clear H
   obtain ⟨hcz10_0, hfz10_0⟩ := bK1 (w := w5) BK1093
   go_wp2_with (first | (refine gC (some 9) Tryz.func72 #[.agg #[.slice A0_0 l0_0.length c0_0]] ?_; (with_reducible refine (spec_CommitteeOk.calls k _ _ l0_0 true _ ?side1 ?side2 A7.out).mono ?_); (case side1 => exact cP (Kd.C_below HR0_0.out HB.out)); (case side2 => exact HC0_0.out); rintro e w11 ⟨rfl, hb⟩; refine ⟨_, rfl, ?_⟩; replace HO1096 := Aside0.mk (Kd.R_below (rP HO1096) hb); replace BK1093 := bB BK1093 hb; replace HB := bS HB hb; (try clear hb)) | (go_at_call 79; (with_reducible refine (spec_l01In.calls a1 0 255 t1098 _ A9.out).mono ?_); rintro e w' ⟨rfl, ⟨nd, rfl⟩⟩))
   go_meet
   case rel => exact ⟨_, (!t1098), rS, H', ⟨by first | omega | exact Nat.le_refl _⟩, ⟨rP HO1096⟩, ⟨bP BK1093⟩, ⟨bZ HB⟩⟩
  ·replace c8 := Bool.eq_false_iff.mpr c8
   subst c8
   rw [if_neg (show ¬ (false = true) by decide)] at H
   have H' := Aside0.mk H
   clear H
   obtain ⟨hcz12_0, hfz12_0⟩ := bK1 (w := w5) BK1093
   go_wp2_with (first | (refine gC (some 9) Tryz.func72 #[.agg #[.slice A0_0 l0_0.length c0_0]] ?_; (with_reducible refine (spec_CommitteeOk.calls k _ _ l0_0 false _ ?side1 ?side2 A7.out).mono ?_); (case side1 => exact cP (Kd.C_below HR0_0.out HB.out)); (case side2 => exact HC0_0.out); rintro e w13 ⟨rfl, hb⟩; refine ⟨_, rfl, ?_⟩; replace HO1096 := Aside0.mk (Kd.R_below (rP HO1096) hb); replace BK1093 := bB BK1093 hb; replace HB := bS HB hb; (try clear hb)))
   go_meet
   case rel => exact ⟨_, (true), rS, H', ⟨by first | omega | exact Nat.le_refl _⟩, ⟨rP HO1096⟩, ⟨bP BK1093⟩, ⟨bZ HB⟩⟩
 case rest =>
  clear HC3
  try clear p2
  try clear c3
  try clear c7
  try clear c8
  try clear hcz10_0
  try clear hcz12_0
  try clear hfz10_0
  try clear hfz12_0
  obtain ⟨kq, x15_2, rfl, HA, HJ2, HO_5, BK1093, HB⟩ := hcut
  cases kq with
  | zero => exact absurd HA.out (by simp [spec_Joined.j0])
  | succ kj2 =>
   have H := HA.out
   clear HA
   simp only [spec_Joined.j0] at H
   by_cases c14 : x15_2 = true
   ·subst c14
    rw [if_pos rfl] at H
    obtain rfl := Option.some.inj H
    go_wp2
    go_ret
    exact ⟨_, by first | rfl | (simp [errW_none, errW_some] <;> rfl) | (simp [*, errW_none, errW_some] <;> rfl), by (with_reducible repeat (first | apply Kd.R_alloc | apply Kd.R_drewN | apply Kd.R_drew)); exact HO_5.out, bZ HB⟩
   ·replace c14 := Bool.eq_false_iff.mpr c14
    subst c14
    rw [if_neg (show ¬ (false = true) by decide)] at H
    have H' := Aside0.mk H
    clear H
    go_wp2
    go_loopg [5, 6] kj2 (fun kq v5 v6 w' => ∃ (x5_2 : List (S28)) (x6_2 : Int), v6 = .int .i64 x6_2 ∧ Aside0 (spec_Joined.l0 kq a1 x5_2 x6_2 l0_0 = some r) ∧ Aside0 (kq ≤ kj2) ∧ Aside0 (Kd.R k28 28 w' w.heap.size (fun _ => True) v5 x5_2) ∧ Aside0 (w'.heap[gb1093]? = some (.cells #[(.slice A0_0 l0_0.length c0_0)] 46 (0, 0))) ∧ Aside0 (Below w.heap.size w w'))
    case atStart => exact ⟨(y1094), (0), rS, H', ⟨Nat.le_refl _⟩, ⟨rP HO_5⟩, ⟨bP BK1093⟩, ⟨bZ HB⟩⟩
    case round =>
     clear H'
     try clear c1
     try clear p2
     try clear c3
     try clear c7
     try clear c8
     try clear c14
     try clear hcz10_0
     try clear hcz12_0
     try clear hfz10_0
     try clear hfz12_0
     try clear p2
     obtain ⟨x5_2, x6_2, rfl, HA, HK2, HO_5, BK1093, HB⟩ := hrel
     cases gk with
     | zero => exact absurd HA.out (by simp [spec_Joined.l0])
     | succ k2 =>
      have H := HA.out
      clear HA
      simp only [spec_Joined.l0] at H
      by_cases c15 : x6_2 < 8
      ·rw [if_pos c15] at H
       have c15b0 := decide_eq_true c15
       clear c15
       obtain ⟨ji16, hji16⟩ : ∃ j_ : Int, (IntKind.u64.wrap (x6_2)) = j_ := ⟨_, rfl⟩
       replace H : (if 0 ≤ (ji16) then (if (Int.tmod (shr .i64 a1 (ji16)) 2) = 1 then (if 0 ≤ x6_2 then (if x6_2 < (l0_0.length : Int) then (if x5_2.length < 5864062014805 then (spec_Joined.l0 k2 a1 (x5_2 ++ [(⟨(rd_T28 l0_0 x6_2).f0, (rd_T28 l0_0 x6_2).f1, (rd_T28 l0_0 x6_2).f2⟩ : S28)]) (wrap64 (x6_2 + 1)) l0_0) else (none)) else (none)) else (none)) else (spec_Joined.l0 k2 a1 x5_2 (wrap64 (x6_2 + 1)) l0_0)) else (none)) = some r := jR hji16 H
       by_cases c17 : 0 ≤ (ji16)
       ·rw [if_pos c17] at H
        have c17b0 := eq_true c17
        have c17b1 := decide_eq_true c17
        clear c17
        obtain ⟨ji18, hji18⟩ : ∃ j_ : Int, (shr .i64 a1 (ji16)) = j_ := ⟨_, rfl⟩
        replace H : (if (Int.tmod (ji18) 2) = 1 then (if 0 ≤ x6_2 then (if x6_2 < (l0_0.length : Int) then (if x5_2.length < 5864062014805 then (spec_Joined.l0 k2 a1 (x5_2 ++ [(⟨(rd_T28 l0_0 x6_2).f0, (rd_T28 l0_0 x6_2).f1, (rd_T28 l0_0 x6_2).f2⟩ : S28)]) (wrap64 (x6_2 + 1)) l0_0) else (none)) else (none)) else (none)) else (spec_Joined.l0 k2 a1 x5_2 (wrap64 (x6_2 + 1)) l0_0)) = some r := jR hji18 H
        have hji18_ : (a1 / 2 ^ min (ji16).toNat 64) = ji18 := hji18
        have hji18z : (ji16) ≤ 64 → (a1 / 2 ^ (ji16).toNat) = ji18 := shr_small hji18
        by_cases c19 : (Int.tmod (ji18) 2) = 1
        ·rw [if_pos c19] at H
         have c19b0 : ((Int.tmod (ji18) 2) == 1) = true := beq_iff_eq.mpr c19
         have c19b1 : ((Int.tmod (ji18) 2) != 1) = false := bne_eq_false_iff_eq.mpr c19
         clear c19
         by_cases c20 : 0 ≤ x6_2
         ·rw [if_pos c20] at H
          have c20b0 := decide_eq_true c20
          clear c20
          by_cases c21 : x6_2 < (l0_0.length : Int)
          ·rw [if_pos c21] at H
           have c21b0 := decide_eq_true c21
           clear c21
           by_cases c22 : x5_2.length < 5864062014805
           ·rw [if_pos c22] at H
            have LMc22 := Aside0.mk c22
            clear c22
            obtain ⟨y1100, hy1100⟩ : ∃ y_ : List (S28), y_ = (x5_2 ++ [(⟨(rd_T28 l0_0 x6_2).f0, (rd_T28 l0_0 x6_2).f1, (rd_T28 l0_0 x6_2).f2⟩ : S28)]) := ⟨_, rfl⟩
            replace H : (spec_Joined.l0 k2 a1 y1100 (wrap64 (x6_2 + 1)) l0_0) = some r := yR hy1100 H
            have Ny1100 := Aside0.mk hy1100
            clear hy1100
            have H' := Aside0.mk H
            clear H
            obtain ⟨hcz23_0, hfz23_0⟩ := bK1 (w := wr) BK1093
            have p1099 : 0 ≤ (x6_2 : Int) := aQ
            have q1099 : x6_2 < (l0_0.length : Int) := aQ
            obtain ⟨ad1099, e1099, hx1099_0, hx1099_1, hx1099_2⟩ := at_T28 HR0_0.out x6_2 p1099 q1099
            cases e1099
            replace hx1099_0 := (hC HB hx1099_0 :)
            replace hx1099_1 := (hC HB hx1099_1 :)
            replace hx1099_2 := (hC HB hx1099_2 :)
            replace p1099 := eq_true p1099
            replace q1099 := eq_true q1099
            go_wp2_with (first | ((with_reducible refine gate_builtin (b := .append) (xs := #[.tmp 27, .tmp 33]) rfl ?_); at_builtin; refine Kd.R_append k28 (w0 := w) w.heap.size rfl (.tmp 27) (.tmp 33) 26 28 (.agg #[(.int .i64 0), (.int .i64 0), (.bool false)]) 24 rfl Tryz.underlying26 info28 rfl (by decide) (by omega) u5 x5_2 (⟨(rd_T28 l0_0 x6_2).f0, (rd_T28 l0_0 x6_2).f1, (rd_T28 l0_0 x6_2).f2⟩ : S28) [.int .i64 ((rd_T28 l0_0 x6_2).f0), .int .i64 ((rd_T28 l0_0 x6_2).f1), .bool ((rd_T28 l0_0 x6_2).f2)] (fun _ => True) (fun _ => False) rfl rfl ?aP (fun _ hk => hk.elim) ?aF ?aO ?aB ?aS ?aL ?_; (case aP => exact k28_mkM _ _ _ (⟨(rd_T28 l0_0 x6_2).f0, (rd_T28 l0_0 x6_2).f1, (rd_T28 l0_0 x6_2).f2⟩ : S28)); (case aB => exact (bZ HB)); (case aF => exact (fun _ _ => trivial)); (case aO => exact (rP HO_5)); (case aS => exact (below_size (bZ HB))); (case aL => have := LMc22.out; omega); intro v1101 w24 ho hb hg hat; rw [← Ny1100.out] at ho; replace BK1093 := Aside0.mk (blk_grown (bP BK1093) hg (Kd.R_ne HO_5.out BK1093.out (by decide))); replace HB := Aside0.mk (hb); have HO1102 := Aside0.mk (ho); clear HO_5; clear ho hb hg hat))
            go_roundg k2
            case measure => have := HJ2.out; have := HK2.out; omega
            case rel => exact ⟨(y1100), (wrap64 (x6_2 + 1)), rS, H', ⟨by have := HJ2.out; have := HK2.out; omega⟩, ⟨rP HO1102⟩, ⟨bP BK1093⟩, ⟨bZ HB⟩⟩
           ·rw [if_neg c22] at H
            exact absurd H (by simp)
          ·rw [if_neg c21] at H
           exact absurd H (by simp)
         ·rw [if_neg c20] at H
          exact absurd H (by simp)
        ·rw [if_neg c19] at H
         have c19b0 : ((Int.tmod (ji18) 2) == 1) = false := beq_eq_false_iff_ne.mpr c19
         have c19b1 : ((Int.tmod (ji18) 2) != 1) = true := bne_iff_ne.mpr c19
         have H' := Aside0.mk H
         clear H
         go_wp2
         go_roundg k2
         case measure => have := HJ2.out; have := HK2.out; omega
         case rel => exact ⟨(x5_2), (wrap64 (x6_2 + 1)), rS, H', ⟨by have := HJ2.out; have := HK2.out; omega⟩, ⟨rP HO_5⟩, ⟨bP BK1093⟩, ⟨bZ HB⟩⟩
       ·rw [if_neg c17] at H
        exact absurd H (by simp)
      ·rw [if_neg c15] at H
       have c15b0 := decide_eq_false c15
       clear c15
       obtain rfl := Option.some.inj H
       go_wp2
       go_ret
       exact ⟨_, by first | rfl | (simp [errW_none, errW_some] <;> rfl) | (simp [*, errW_none, errW_some] <;> rfl), by (with_reducible repeat (first | apply Kd.R_alloc | apply Kd.R_drewN | apply Kd.R_drew)); exact HO_5.out, bZ HB⟩
end Go.Proofs.YtkdmplfldfagnaaGreatDoor.Pf
end
section
namespace Go.Proofs.YtkdmplfldfagnaaGreatDoor.Pf
open Go.RowKit Go.Proofs.YtkdmplfldfagnaaGreatDoorW.PrintWords Go.Proofs.YtkdmplfldfagnaaGreatDoorW.PrintLast Go.Proofs.YtkdmplfldfagnaaGreatDoorW.PrintMore
attribute [local go_sem] max2_int min2_int max_two min_two max_three min_three max_four min_four   -- for this text's walks alone
set_option linter.unusedVariables false
set_option linter.unusedSimpArgs false
set_option maxHeartbeats 8000000
set_option maxRecDepth 100000
def impl_ScOf.f (a0 : Int) : Option (Int) := (impl_remainder.f a0 1009).bind fun t159 => (some t159)
theorem impl_ScOf.calls (a0 : Int) (r : Int) (w : World) (h : impl_ScOf.f a0 = some r) :
  Calls Tryz.prog 46 #[.int .i64 a0] w fun e w' => e = .returned (.int .i64 r) ∧ Drawn0 w w' := by
 have H : ((impl_remainder.f a0 1009).bind fun t159 => (some t159)) = some r := h
 clear h
 obtain ⟨t159, A2, H⟩ := oB H
 obtain rfl := Option.some.inj H
 go_enter Tryz.func46, Tryz.ntmps46
 go_wp2_with (first | (refine gC (some 4) Tryz.func86 #[.int .i64 a0, .int .i64 1009] ?_; (with_reducible refine (impl_remainder.calls a0 1009 t159 _ A2.out).mono ?_); rintro e w' ⟨rfl, ⟨nd, rfl⟩⟩; refine ⟨_, rfl, ?_⟩))
 go_ret
 exact ⟨rS, rD⟩
def impl_Base.f  : Option (Int × Int × Bool) := some (8445, 859, false)
theorem impl_Base.calls  (r1 : Int) (r2 : Int) (r3 : Bool) (w : World) (h : impl_Base.f  = some (r1, r2, r3)) :
  Calls Tryz.prog 20 #[] w fun e w' => e = .returned (.agg #[.int .i64 r1, .int .i64 r2, .bool r3]) ∧ Below w.heap.size w w' := by
 have hu28 := Tryz.underlying28
 have HB := Aside0.mk (Below.refl w.heap.size w)
 have H : (some (8445, 859, false)) = some (r1, r2, r3) := h
 clear h
 simp only [Option.some.injEq, Prod.mk.injEq] at H
 obtain ⟨rfl, rfl, rfl⟩ := H
 go_enter Tryz.func20, Tryz.ntmps20
 go_wp2_with (first | (refine gB 0 #[.int .i64 0, .int .i64 0, .bool false] 28 ?_; intro gb101 hg w1 BK101 hb; have GW101 := bG HB hg; replace HB := bS HB hb; clear hb hg; obtain ⟨hcz2_0, hcz2_1, hcz2_2, hfz2_0, hfz2_1, hfz2_2⟩ := bK3 (w := w1) BK101))
 refine rC gb101 28 #[.int .i64 8445, .int .i64 859, .bool false] (bU BK101) Tryz.underlying28 ?_
 exact ⟨rR, bZ HB⟩
def impl_SecretsOf.l0 : Nat → Int → List Int → Int → Option (List Int)
 | 0, _, _, _ => none
 | k + 1, x0, x3, x7 => if x7 < 8 then (if x3.length < 17592186044416 then (impl_SecretsOf.l0 k x0 (x3 ++ [wrap64 (1 + (Int.tmod (wrap64 ((wrap64 ((wrap64 (x0 * 31)) + (wrap64 (x7 * 57)))) + 7)) 1007))]) (wrap64 (x7 + 1))) else (none)) else (some x3)
def impl_SecretsOf.f (k : Nat) (a0 : Int) : Option (List Int) := (impl_remainder.f a0 1000).bind fun t1103 => (impl_SecretsOf.l0 k t1103 ([] : List Int) 0)
theorem impl_SecretsOf.mono_l : ∀ k, (∀ y0 y1 y2, LeO (impl_SecretsOf.l0 k y0 y1 y2) (impl_SecretsOf.l0 (k + 1) y0 y1 y2))
 | 0 => fun _ _ _ r h => by simp [impl_SecretsOf.l0] at h
 | k + 1 => by
  have ih0 := impl_SecretsOf.mono_l k
  ·intro y0 y1 y2
   unfold impl_SecretsOf.l0
   with_reducible repeat' first | exact ih0 _ _ _ | exact LeO.refl _ | exact LeO.none _ | refine LeO.ite ?_ ?_ | refine LeO.bind ?_ (fun _ => ?_)
theorem impl_SecretsOf.mono : ∀ a0 k, LeO (impl_SecretsOf.f k a0) (impl_SecretsOf.f (k + 1) a0) := by
 intro a0 k
 have ih0 := impl_SecretsOf.mono_l k
 unfold impl_SecretsOf.f
 with_reducible repeat' first | exact ih0 _ _ _ | exact LeO.refl _ | exact LeO.none _ | refine LeO.ite ?_ ?_ | refine LeO.bind ?_ (fun _ => ?_)
theorem impl_SecretsOf.calls (k : Nat) (a0 : Int) (r : List Int) (w : World) (h : impl_SecretsOf.f k a0 = some r) :
  Calls Tryz.prog 80 #[.int .i64 a0] w fun e w' => ∃ v0_ : Value, e = .returned (v0_) ∧ Kd.R (Kd.int .i64) 3 w' w.heap.size (fun _ => True) v0_ r ∧ Below w.heap.size w w' := by
 have HB := Aside0.mk (Below.refl w.heap.size w)
 unfold impl_SecretsOf.f at h
 have H := h
 clear h
 obtain ⟨t1103, A2, H⟩ := oB H
 have H' := Aside0.mk H
 clear H
 go_enter Tryz.func80, Tryz.ntmps80
 go_wp2_with (first | (refine gC (some 6) Tryz.func86 #[.int .i64 a0, .int .i64 1000] ?_; (with_reducible refine (impl_remainder.calls a0 1000 t1103 _ A2.out).mono ?_); rintro e w' ⟨rfl, ⟨nd, rfl⟩⟩; refine ⟨_, rfl, ?_⟩))
 go_loopg [3, 7] k (fun kq v3 v7 w' => ∃ (x3_1 : List Int) (x7_1 : Int), v7 = .int .i64 x7_1 ∧ Aside0 (impl_SecretsOf.l0 kq t1103 x3_1 x7_1 = some r) ∧ Aside0 (kq ≤ k) ∧ Aside0 (Kd.R (Kd.int .i64) 3 w' w.heap.size (fun _ => True) v3 x3_1) ∧ Aside0 (Below w.heap.size w w'))
 case atStart => exact ⟨(([] : List Int)), (0), rS, H', ⟨Nat.le_refl _⟩, ⟨by first | exact Kd.R_nil _ _ _ _ _ | exact Kd.N_nil _ _ _ _ _ | exact Kd.V_nil _ _ _ _ _ | exact Kd.Q_nil _ _ _ _ _ | exact Kd.S_nil _ _ _ _ _⟩, ⟨bZ HB⟩⟩
 case round =>
  clear H'
  try clear p2
  obtain ⟨x3_1, x7_1, rfl, HA, HK1, HO_3, HB⟩ := hrel
  cases gk with
  | zero => exact absurd HA.out (by simp [impl_SecretsOf.l0])
  | succ k1 =>
   have H := HA.out
   clear HA
   simp only [impl_SecretsOf.l0] at H
   by_cases c3 : x7_1 < 8
   ·rw [if_pos c3] at H
    have c3b0 := decide_eq_true c3
    clear c3
    by_cases c4 : x3_1.length < 17592186044416
    ·rw [if_pos c4] at H
     have LMc4 := Aside0.mk c4
     clear c4
     obtain ⟨y1104, hy1104⟩ : ∃ y_ : List Int, y_ = (x3_1 ++ [wrap64 (1 + (Int.tmod (wrap64 ((wrap64 ((wrap64 (t1103 * 31)) + (wrap64 (x7_1 * 57)))) + 7)) 1007))]) := ⟨_, rfl⟩
     replace H : (impl_SecretsOf.l0 k1 t1103 y1104 (wrap64 (x7_1 + 1))) = some r := yR hy1104 H
     have Ny1104 := Aside0.mk hy1104
     clear hy1104
     have H' := Aside0.mk H
     clear H
     go_wp2_with (first | ((with_reducible refine gate_builtin (b := .append) (xs := #[.tmp 10, .tmp 19]) rfl ?_); at_builtin; refine Kd.R_append (Kd.int .i64) (w0 := w) w.heap.size rfl (.tmp 10) (.tmp 19) 24 3 (.int .i64 0) 8 rfl Tryz.underlying24 info3 rfl (by decide) (by omega) u3 x3_1 (wrap64 (1 + (Int.tmod (wrap64 ((wrap64 ((wrap64 (t1103 * 31)) + (wrap64 (x7_1 * 57)))) + 7)) 1007))) [.int .i64 (wrap64 (1 + (Int.tmod (wrap64 ((wrap64 ((wrap64 (t1103 * 31)) + (wrap64 (x7_1 * 57)))) + 7)) 1007)))] (fun _ => True) (fun _ => False) rfl rfl ?aP (fun _ hk => hk.elim) ?aF ?aO ?aB ?aS ?aL ?_; (case aP => exact rfl); (case aB => exact (bZ HB)); (case aF => exact (fun _ _ => trivial)); (case aO => exact (rP HO_3)); (case aS => exact (below_size (bZ HB))); (case aL => have := LMc4.out; omega); intro v1105 w5 ho hb hg hat; rw [← Ny1104.out] at ho; replace HB := Aside0.mk (hb); have HO1106 := Aside0.mk (ho); clear HO_3; clear ho hb hg hat))
     go_roundg k1
     case measure => have := HK1.out; omega
     case rel => exact ⟨(y1104), (wrap64 (x7_1 + 1)), rS, H', ⟨by have := HK1.out; omega⟩, ⟨rP HO1106⟩, ⟨bZ HB⟩⟩
    ·rw [if_neg c4] at H
     exact absurd H (by simp)
   ·rw [if_neg c3] at H
    have c3b0 := decide_eq_false c3
    clear c3
    obtain rfl := Option.some.inj H
    go_wp2
    go_ret
    exact ⟨_, by first | rfl | (simp [errW_none, errW_some] <;> rfl) | (simp [*, errW_none, errW_some] <;> rfl), by (with_reducible repeat (first | apply Kd.R_alloc | apply Kd.R_drewN | apply Kd.R_drew)); exact HO_3.out, bZ HB⟩
def spec_ScAdd.f (a0 : Int) (a1 : Int) : Option (Int) := (spec_ScOf.f a0).bind fun t755 => ((spec_ScOf.f a1).bind fun t756 => ((spec_ScOf.f (wrap64 (t755 + t756))).bind fun t757 => (some t757)))
theorem spec_ScAdd.calls (a0 : Int) (a1 : Int) (r : Int) (w : World) (h : spec_ScAdd.f a0 a1 = some r) :
  Calls Tryz.prog 11 #[.int .i64 a0, .int .i64 a1] w fun e w' => e = .returned (.int .i64 r) ∧ Drawn0 w w' := by
 unfold spec_ScAdd.f at h
 have H := h
 clear h
 obtain ⟨t755, A3, H⟩ := oB H
 obtain ⟨t756, A4, H⟩ := oB H
 obtain ⟨t757, A5, H⟩ := oB H
 obtain rfl := Option.some.inj H
 go_enter Tryz.func11, Tryz.ntmps11
 go_wp2_with (first | (refine gC (some 6) Tryz.func16 #[.int .i64 a0] ?_; (with_reducible refine (spec_ScOf.calls a0 t755 _ A3.out).mono ?_); rintro e w' ⟨rfl, ⟨nd, rfl⟩⟩; refine ⟨_, rfl, ?_⟩) | (refine gC (some 8) Tryz.func16 #[.int .i64 a1] ?_; (with_reducible refine (spec_ScOf.calls a1 t756 _ A4.out).mono ?_); rintro e w' ⟨rfl, ⟨nd, rfl⟩⟩; refine ⟨_, rfl, ?_⟩) | (refine gC (some 10) Tryz.func16 #[.int .i64 (wrap64 (t755 + t756))] ?_; (with_reducible refine (spec_ScOf.calls (wrap64 (t755 + t756)) t757 _ A5.out).mono ?_); rintro e w' ⟨rfl, ⟨nd, rfl⟩⟩; refine ⟨_, rfl, ?_⟩))
 go_ret
 exact ⟨rS, rD⟩
def spec_LevelsOf.l0 : Nat → Int → Int → Option (Int)
 | 0, _, _ => none
 | k + 1, x0, x3 => if 0 ≤ (IntKind.u64.wrap (x3)) then (if (shl .i64 1 (IntKind.u64.wrap (x3))) < x0 then (spec_LevelsOf.l0 k x0 (wrap64 (x3 + 1))) else (some x3)) else (none)
def spec_LevelsOf.f (k : Nat) (a0 : Int) : Option (Int) := (spec_l01In.f a0 0 32).bind fun t1145 => (if t1145 = true then (spec_LevelsOf.l0 k a0 0) else (some (-1)))
theorem spec_LevelsOf.mono_l : ∀ k, (∀ y0 y1, LeO (spec_LevelsOf.l0 k y0 y1) (spec_LevelsOf.l0 (k + 1) y0 y1))
 | 0 => fun _ _ r h => by simp [spec_LevelsOf.l0] at h
 | k + 1 => by
  have ih0 := spec_LevelsOf.mono_l k
  ·intro y0 y1
   unfold spec_LevelsOf.l0
   with_reducible repeat' first | exact ih0 _ _ | exact LeO.refl _ | exact LeO.none _ | refine LeO.ite ?_ ?_ | refine LeO.bind ?_ (fun _ => ?_)
theorem spec_LevelsOf.mono : ∀ a0 k, LeO (spec_LevelsOf.f k a0) (spec_LevelsOf.f (k + 1) a0) := by
 intro a0 k
 have ih0 := spec_LevelsOf.mono_l k
 unfold spec_LevelsOf.f
 with_reducible repeat' first | exact ih0 _ _ | exact LeO.refl _ | exact LeO.none _ | refine LeO.ite ?_ ?_ | refine LeO.bind ?_ (fun _ => ?_)
theorem spec_LevelsOf.calls (k : Nat) (a0 : Int) (r : Int) (w : World) (h : spec_LevelsOf.f k a0 = some r) :
  Calls Tryz.prog 144 #[.int .i64 a0] w fun e w' => e = .returned (.int .i64 r) ∧ Drawn0 w w' := by
 unfold spec_LevelsOf.f at h
 have H := h
 clear h
 obtain ⟨t1145, A2, H⟩ := oB H
 by_cases c3 : t1145 = true
 ·subst c3
  rw [if_pos rfl] at H
  have H' := Aside0.mk H
  clear H
  go_enter Tryz.func144, Tryz.ntmps144
  go_wp2_with (first | (refine gC (some 5) Tryz.func79 #[.int .i64 a0, .int .i64 0, .int .i64 32] ?_; (with_reducible refine (spec_l01In.calls a0 0 32 true _ A2.out).mono ?_); rintro e w' ⟨rfl, ⟨nd, rfl⟩⟩; refine ⟨_, rfl, ?_⟩))
  go_loopg [3] k (fun kq v3 w' => ∃ (x3_1 : Int), v3 = .int .i64 x3_1 ∧ Aside0 (spec_LevelsOf.l0 kq a0 x3_1 = some r) ∧ Aside0 (kq ≤ k) ∧ Drawn0 w w')
  case atStart => exact ⟨(0), rS, H', ⟨Nat.le_refl _⟩, by repeat (first | exact Drawn0.refl _ | apply Drawn0.step)⟩
  case round =>
   clear H'
   try clear c1
   try clear p2
   try clear c3
   obtain ⟨x3_1, rfl, HA, HK1, ⟨m1, rfl⟩⟩ := hrel
   cases gk with
   | zero => exact absurd HA.out (by simp [spec_LevelsOf.l0])
   | succ k1 =>
    have H := HA.out
    clear HA
    simp only [spec_LevelsOf.l0] at H
    obtain ⟨ji4, hji4⟩ : ∃ j_ : Int, (IntKind.u64.wrap (x3_1)) = j_ := ⟨_, rfl⟩
    replace H : (if 0 ≤ (ji4) then (if (shl .i64 1 (ji4)) < a0 then (spec_LevelsOf.l0 k1 a0 (wrap64 (x3_1 + 1))) else (some x3_1)) else (none)) = some r := jR hji4 H
    by_cases c5 : 0 ≤ (ji4)
    ·rw [if_pos c5] at H
     have c5b0 := eq_true c5
     have c5b1 := decide_eq_true c5
     clear c5
     obtain ⟨ji6, hji6⟩ : ∃ j_ : Int, (shl .i64 1 (ji4)) = j_ := ⟨_, rfl⟩
     replace H : (if (ji6) < a0 then (spec_LevelsOf.l0 k1 a0 (wrap64 (x3_1 + 1))) else (some x3_1)) = some r := jR hji6 H
     have hji6_ : (IntKind.i64.wrap (1 * 2 ^ min (ji4).toNat 64)) = ji6 := hji6
     have hji6z : (ji4) ≤ 64 → (IntKind.i64.wrap (1 * 2 ^ (ji4).toNat)) = ji6 := shl_small hji6
     have hji6u : (IntKind.i64.wrap (2 ^ min (ji4).toNat 64)) = ji6 := by have h_ := hji6_; rw [Int.one_mul] at h_; exact h_
     have hji6v : (ji4) ≤ 64 → (IntKind.i64.wrap (2 ^ (ji4).toNat)) = ji6 := fun hle_ => by have h_ := hji6z hle_; rw [Int.one_mul] at h_; exact h_
     have hji6y : (wrap64 (1 * 2 ^ min (ji4).toNat 64)) = ji6 := (i64_w _).symm.trans hji6_
     have hji6x : (ji4) ≤ 64 → (wrap64 (1 * 2 ^ (ji4).toNat)) = ji6 := fun h_ => (i64_w _).symm.trans (hji6z h_)
     by_cases c7 : (ji6) < a0
     ·rw [if_pos c7] at H
      have c7b0 := decide_eq_true c7
      clear c7
      have H' := Aside0.mk H
      clear H
      go_wp2
      go_roundg k1
      case measure => have := HK1.out; omega
      case rel => exact ⟨(wrap64 (x3_1 + 1)), rS, H', ⟨by have := HK1.out; omega⟩, by repeat (first | exact Drawn0.refl _ | apply Drawn0.step)⟩
     ·rw [if_neg c7] at H
      have c7b0 := decide_eq_false c7
      clear c7
      obtain rfl := Option.some.inj H
      go_wp2
      go_ret
      exact ⟨by first | rfl | (simp; done) | (simp only [← hji4, ← hji6] <;> (first | rfl | simp)) | (simp [*]; done), by repeat (first | exact Drawn0.refl _ | apply Drawn0.step)⟩
    ·rw [if_neg c5] at H
     exact absurd H (by simp)
 ·replace c3 := Bool.eq_false_iff.mpr c3
  subst c3
  rw [if_neg (show ¬ (false = true) by decide)] at H
  obtain rfl := Option.some.inj H
  go_enter Tryz.func144, Tryz.ntmps144
  go_wp2_with (first | (refine gC (some 5) Tryz.func79 #[.int .i64 a0, .int .i64 0, .int .i64 32] ?_; (with_reducible refine (spec_l01In.calls a0 0 32 false _ A2.out).mono ?_); rintro e w' ⟨rfl, ⟨nd, rfl⟩⟩; refine ⟨_, rfl, ?_⟩))
  go_ret
  exact ⟨rS, rD⟩
def bits_OnesCount64.f (a0 : Int) : Option (Int) := some (Go.bits .and .i64 (wrap64 (IntKind.u64.wrap ((IntKind.u64.wrap ((IntKind.u64.wrap ((Go.bits .and .u64 (IntKind.u64.wrap (((IntKind.u64.wrap ((Go.bits .and .u64 ((IntKind.u64.wrap ((Go.bits .and .u64 (a0 / 2) 6148914691236517205) + (Go.bits .and .u64 a0 6148914691236517205))) / 4) 3689348814741910323) + (Go.bits .and .u64 (IntKind.u64.wrap ((Go.bits .and .u64 (a0 / 2) 6148914691236517205) + (Go.bits .and .u64 a0 6148914691236517205))) 3689348814741910323))) / 16) + (IntKind.u64.wrap ((Go.bits .and .u64 ((IntKind.u64.wrap ((Go.bits .and .u64 (a0 / 2) 6148914691236517205) + (Go.bits .and .u64 a0 6148914691236517205))) / 4) 3689348814741910323) + (Go.bits .and .u64 (IntKind.u64.wrap ((Go.bits .and .u64 (a0 / 2) 6148914691236517205) + (Go.bits .and .u64 a0 6148914691236517205))) 3689348814741910323))))) 1085102592571150095) + ((Go.bits .and .u64 (IntKind.u64.wrap (((IntKind.u64.wrap ((Go.bits .and .u64 ((IntKind.u64.wrap ((Go.bits .and .u64 (a0 / 2) 6148914691236517205) + (Go.bits .and .u64 a0 6148914691236517205))) / 4) 3689348814741910323) + (Go.bits .and .u64 (IntKind.u64.wrap ((Go.bits .and .u64 (a0 / 2) 6148914691236517205) + (Go.bits .and .u64 a0 6148914691236517205))) 3689348814741910323))) / 16) + (IntKind.u64.wrap ((Go.bits .and .u64 ((IntKind.u64.wrap ((Go.bits .and .u64 (a0 / 2) 6148914691236517205) + (Go.bits .and .u64 a0 6148914691236517205))) / 4) 3689348814741910323) + (Go.bits .and .u64 (IntKind.u64.wrap ((Go.bits .and .u64 (a0 / 2) 6148914691236517205) + (Go.bits .and .u64 a0 6148914691236517205))) 3689348814741910323))))) 1085102592571150095) / 256))) + ((IntKind.u64.wrap ((Go.bits .and .u64 (IntKind.u64.wrap (((IntKind.u64.wrap ((Go.bits .and .u64 ((IntKind.u64.wrap ((Go.bits .and .u64 (a0 / 2) 6148914691236517205) + (Go.bits .and .u64 a0 6148914691236517205))) / 4) 3689348814741910323) + (Go.bits .and .u64 (IntKind.u64.wrap ((Go.bits .and .u64 (a0 / 2) 6148914691236517205) + (Go.bits .and .u64 a0 6148914691236517205))) 3689348814741910323))) / 16) + (IntKind.u64.wrap ((Go.bits .and .u64 ((IntKind.u64.wrap ((Go.bits .and .u64 (a0 / 2) 6148914691236517205) + (Go.bits .and .u64 a0 6148914691236517205))) / 4) 3689348814741910323) + (Go.bits .and .u64 (IntKind.u64.wrap ((Go.bits .and .u64 (a0 / 2) 6148914691236517205) + (Go.bits .and .u64 a0 6148914691236517205))) 3689348814741910323))))) 1085102592571150095) + ((Go.bits .and .u64 (IntKind.u64.wrap (((IntKind.u64.wrap ((Go.bits .and .u64 ((IntKind.u64.wrap ((Go.bits .and .u64 (a0 / 2) 6148914691236517205) + (Go.bits .and .u64 a0 6148914691236517205))) / 4) 3689348814741910323) + (Go.bits .and .u64 (IntKind.u64.wrap ((Go.bits .and .u64 (a0 / 2) 6148914691236517205) + (Go.bits .and .u64 a0 6148914691236517205))) 3689348814741910323))) / 16) + (IntKind.u64.wrap ((Go.bits .and .u64 ((IntKind.u64.wrap ((Go.bits .and .u64 (a0 / 2) 6148914691236517205) + (Go.bits .and .u64 a0 6148914691236517205))) / 4) 3689348814741910323) + (Go.bits .and .u64 (IntKind.u64.wrap ((Go.bits .and .u64 (a0 / 2) 6148914691236517205) + (Go.bits .and .u64 a0 6148914691236517205))) 3689348814741910323))))) 1085102592571150095) / 256))) / 65536))) + ((IntKind.u64.wrap ((IntKind.u64.wrap ((Go.bits .and .u64 (IntKind.u64.wrap (((IntKind.u64.wrap ((Go.bits .and .u64 ((IntKind.u64.wrap ((Go.bits .and .u64 (a0 / 2) 6148914691236517205) + (Go.bits .and .u64 a0 6148914691236517205))) / 4) 3689348814741910323) + (Go.bits .and .u64 (IntKind.u64.wrap ((Go.bits .and .u64 (a0 / 2) 6148914691236517205) + (Go.bits .and .u64 a0 6148914691236517205))) 3689348814741910323))) / 16) + (IntKind.u64.wrap ((Go.bits .and .u64 ((IntKind.u64.wrap ((Go.bits .and .u64 (a0 / 2) 6148914691236517205) + (Go.bits .and .u64 a0 6148914691236517205))) / 4) 3689348814741910323) + (Go.bits .and .u64 (IntKind.u64.wrap ((Go.bits .and .u64 (a0 / 2) 6148914691236517205) + (Go.bits .and .u64 a0 6148914691236517205))) 3689348814741910323))))) 1085102592571150095) + ((Go.bits .and .u64 (IntKind.u64.wrap (((IntKind.u64.wrap ((Go.bits .and .u64 ((IntKind.u64.wrap ((Go.bits .and .u64 (a0 / 2) 6148914691236517205) + (Go.bits .and .u64 a0 6148914691236517205))) / 4) 3689348814741910323) + (Go.bits .and .u64 (IntKind.u64.wrap ((Go.bits .and .u64 (a0 / 2) 6148914691236517205) + (Go.bits .and .u64 a0 6148914691236517205))) 3689348814741910323))) / 16) + (IntKind.u64.wrap ((Go.bits .and .u64 ((IntKind.u64.wrap ((Go.bits .and .u64 (a0 / 2) 6148914691236517205) + (Go.bits .and .u64 a0 6148914691236517205))) / 4) 3689348814741910323) + (Go.bits .and .u64 (IntKind.u64.wrap ((Go.bits .and .u64 (a0 / 2) 6148914691236517205) + (Go.bits .and .u64 a0 6148914691236517205))) 3689348814741910323))))) 1085102592571150095) / 256))) + ((IntKind.u64.wrap ((Go.bits .and .u64 (IntKind.u64.wrap (((IntKind.u64.wrap ((Go.bits .and .u64 ((IntKind.u64.wrap ((Go.bits .and .u64 (a0 / 2) 6148914691236517205) + (Go.bits .and .u64 a0 6148914691236517205))) / 4) 3689348814741910323) + (Go.bits .and .u64 (IntKind.u64.wrap ((Go.bits .and .u64 (a0 / 2) 6148914691236517205) + (Go.bits .and .u64 a0 6148914691236517205))) 3689348814741910323))) / 16) + (IntKind.u64.wrap ((Go.bits .and .u64 ((IntKind.u64.wrap ((Go.bits .and .u64 (a0 / 2) 6148914691236517205) + (Go.bits .and .u64 a0 6148914691236517205))) / 4) 3689348814741910323) + (Go.bits .and .u64 (IntKind.u64.wrap ((Go.bits .and .u64 (a0 / 2) 6148914691236517205) + (Go.bits .and .u64 a0 6148914691236517205))) 3689348814741910323))))) 1085102592571150095) + ((Go.bits .and .u64 (IntKind.u64.wrap (((IntKind.u64.wrap ((Go.bits .and .u64 ((IntKind.u64.wrap ((Go.bits .and .u64 (a0 / 2) 6148914691236517205) + (Go.bits .and .u64 a0 6148914691236517205))) / 4) 3689348814741910323) + (Go.bits .and .u64 (IntKind.u64.wrap ((Go.bits .and .u64 (a0 / 2) 6148914691236517205) + (Go.bits .and .u64 a0 6148914691236517205))) 3689348814741910323))) / 16) + (IntKind.u64.wrap ((Go.bits .and .u64 ((IntKind.u64.wrap ((Go.bits .and .u64 (a0 / 2) 6148914691236517205) + (Go.bits .and .u64 a0 6148914691236517205))) / 4) 3689348814741910323) + (Go.bits .and .u64 (IntKind.u64.wrap ((Go.bits .and .u64 (a0 / 2) 6148914691236517205) + (Go.bits .and .u64 a0 6148914691236517205))) 3689348814741910323))))) 1085102592571150095) / 256))) / 65536))) / 4294967296)))) 127)
theorem bits_OnesCount64.calls (a0 : Int) (r : Int) (w : World) (h : bits_OnesCount64.f a0 = some r) :
  Calls Tryz.prog 130 #[.int .u64 a0] w fun e w' => e = .returned (.int .i64 r) ∧ Drawn0 w w' := by
 unfold bits_OnesCount64.f at h
 have H := h
 clear h
 obtain rfl := Option.some.inj H
 go_enter Tryz.func130, Tryz.ntmps130
 go_wp2
 go_ret
 exact ⟨rS, rD⟩
def bits_OnesCount.f (a0 : Int) : Option (Int) := (bits_OnesCount64.f a0).bind fun t1187 => (some t1187)
theorem bits_OnesCount.calls (a0 : Int) (r : Int) (w : World) (h : bits_OnesCount.f a0 = some r) :
  Calls Tryz.prog 85 #[.int .u64 a0] w fun e w' => e = .returned (.int .i64 r) ∧ Drawn0 w w' := by
 have H : ((bits_OnesCount64.f a0).bind fun t1187 => (some t1187)) = some r := h
 clear h
 obtain ⟨t1187, A2, H⟩ := oB H
 obtain rfl := Option.some.inj H
 go_enter Tryz.func85, Tryz.ntmps85
 go_wp2_with (first | (refine gC (some 7) Tryz.func130 #[.int .u64 a0] ?_; (with_reducible refine (bits_OnesCount64.calls a0 t1187 _ A2.out).mono ?_); rintro e w' ⟨rfl, ⟨nd, rfl⟩⟩; refine ⟨_, rfl, ?_⟩))
 go_ret
 exact ⟨rS, rD⟩
def impl_CountBits.f (a0 : Int) : Option (Int) := (impl_isBits.f a0).bind fun t1188 => (if t1188 = true then ((bits_OnesCount.f (IntKind.u64.wrap (a0))).bind fun t1189 => (some t1189)) else (some 0))
theorem impl_CountBits.calls (a0 : Int) (r : Int) (w : World) (h : impl_CountBits.f a0 = some r) :
  Calls Tryz.prog 40 #[.int .i64 a0] w fun e w' => e = .returned (.int .i64 r) ∧ Drawn0 w w' := by
 unfold impl_CountBits.f at h
 have H := h
 clear h
 obtain ⟨t1188, A2, H⟩ := oB H
 by_cases c3 : t1188 = true
 ·subst c3
  rw [if_pos rfl] at H
  obtain ⟨t1189, A4, H⟩ := oB H
  obtain rfl := Option.some.inj H
  go_enter Tryz.func40, Tryz.ntmps40
  go_wp2_with (first | (refine gC (some 4) Tryz.func78 #[.int .i64 a0] ?_; (with_reducible refine (impl_isBits.calls a0 true _ A2.out).mono ?_); rintro e w' ⟨rfl, ⟨nd, rfl⟩⟩; refine ⟨_, rfl, ?_⟩) | (refine gC (some 8) Tryz.func85 #[.int .u64 (IntKind.u64.wrap (a0))] ?_; (with_reducible refine (bits_OnesCount.calls (IntKind.u64.wrap (a0)) t1189 _ A4.out).mono ?_); rintro e w' ⟨rfl, ⟨nd, rfl⟩⟩; refine ⟨_, rfl, ?_⟩))
  go_ret
  exact ⟨rS, rD⟩
 ·replace c3 := Bool.eq_false_iff.mpr c3
  subst c3
  rw [if_neg (show ¬ (false = true) by decide)] at H
  obtain rfl := Option.some.inj H
  go_enter Tryz.func40, Tryz.ntmps40
  go_wp2_with (first | (refine gC (some 4) Tryz.func78 #[.int .i64 a0] ?_; (with_reducible refine (impl_isBits.calls a0 false _ A2.out).mono ?_); rintro e w' ⟨rfl, ⟨nd, rfl⟩⟩; refine ⟨_, rfl, ?_⟩))
  go_ret
  exact ⟨rS, rD⟩
def spec_CountBits.l0 : Nat → Int → Int → Int → Option (Int)
 | 0, _, _, _ => none
 | k + 1, x0, x3, x4 => if x4 < 8 then (if 0 ≤ (IntKind.u64.wrap (x4)) then (spec_CountBits.l0 k x0 (wrap64 (x3 + (Int.tmod (shr .i64 x0 (IntKind.u64.wrap (x4))) 2))) (wrap64 (x4 + 1))) else (none)) else (some x3)
def spec_CountBits.f (k : Nat) (a0 : Int) : Option (Int) := (spec_l01In.f a0 0 255).bind fun t1190 => (if t1190 = true then (spec_CountBits.l0 k a0 0 0) else (some 0))
theorem spec_CountBits.mono_l : ∀ k, (∀ y0 y1 y2, LeO (spec_CountBits.l0 k y0 y1 y2) (spec_CountBits.l0 (k + 1) y0 y1 y2))
 | 0 => fun _ _ _ r h => by simp [spec_CountBits.l0] at h
 | k + 1 => by
  have ih0 := spec_CountBits.mono_l k
  ·intro y0 y1 y2
   unfold spec_CountBits.l0
   with_reducible repeat' first | exact ih0 _ _ _ | exact LeO.refl _ | exact LeO.none _ | refine LeO.ite ?_ ?_ | refine LeO.bind ?_ (fun _ => ?_)
theorem spec_CountBits.mono : ∀ a0 k, LeO (spec_CountBits.f k a0) (spec_CountBits.f (k + 1) a0) := by
 intro a0 k
 have ih0 := spec_CountBits.mono_l k
 unfold spec_CountBits.f
 with_reducible repeat' first | exact ih0 _ _ _ | exact LeO.refl _ | exact LeO.none _ | refine LeO.ite ?_ ?_ | refine LeO.bind ?_ (fun _ => ?_)
theorem spec_CountBits.calls (k : Nat) (a0 : Int) (r : Int) (w : World) (h : spec_CountBits.f k a0 = some r) :
  Calls Tryz.prog 41 #[.int .i64 a0] w fun e w' => e = .returned (.int .i64 r) ∧ Drawn0 w w' := by
 unfold spec_CountBits.f at h
 have H := h
 clear h
 obtain ⟨t1190, A2, H⟩ := oB H
 by_cases c3 : t1190 = true
 ·subst c3
  rw [if_pos rfl] at H
  have H' := Aside0.mk H
  clear H
  go_enter Tryz.func41, Tryz.ntmps41
  go_wp2_with (first | (refine gC (some 6) Tryz.func79 #[.int .i64 a0, .int .i64 0, .int .i64 255] ?_; (with_reducible refine (spec_l01In.calls a0 0 255 true _ A2.out).mono ?_); rintro e w' ⟨rfl, ⟨nd, rfl⟩⟩; refine ⟨_, rfl, ?_⟩))
  go_loopg [3, 4] k (fun kq v3 v4 w' => ∃ (x3_1 : Int) (x4_1 : Int), v3 = .int .i64 x3_1 ∧ v4 = .int .i64 x4_1 ∧ Aside0 (spec_CountBits.l0 kq a0 x3_1 x4_1 = some r) ∧ Aside0 (kq ≤ k) ∧ Drawn0 w w')
  case atStart => exact ⟨(0), (0), rS, rS, H', ⟨Nat.le_refl _⟩, by repeat (first | exact Drawn0.refl _ | apply Drawn0.step)⟩
  case round =>
   clear H'
   try clear p2
   try clear c3
   obtain ⟨x3_1, x4_1, rfl, rfl, HA, HK1, ⟨m1, rfl⟩⟩ := hrel
   cases gk with
   | zero => exact absurd HA.out (by simp [spec_CountBits.l0])
   | succ k1 =>
    have H := HA.out
    clear HA
    simp only [spec_CountBits.l0] at H
    by_cases c4 : x4_1 < 8
    ·rw [if_pos c4] at H
     have c4b0 := decide_eq_true c4
     clear c4
     obtain ⟨ji5, hji5⟩ : ∃ j_ : Int, (IntKind.u64.wrap (x4_1)) = j_ := ⟨_, rfl⟩
     replace H : (if 0 ≤ (ji5) then (spec_CountBits.l0 k1 a0 (wrap64 (x3_1 + (Int.tmod (shr .i64 a0 (ji5)) 2))) (wrap64 (x4_1 + 1))) else (none)) = some r := jR hji5 H
     by_cases c6 : 0 ≤ (ji5)
     ·rw [if_pos c6] at H
      have c6b0 := eq_true c6
      have c6b1 := decide_eq_true c6
      clear c6
      obtain ⟨ji7, hji7⟩ : ∃ j_ : Int, (shr .i64 a0 (ji5)) = j_ := ⟨_, rfl⟩
      replace H : (spec_CountBits.l0 k1 a0 (wrap64 (x3_1 + (Int.tmod (ji7) 2))) (wrap64 (x4_1 + 1))) = some r := jR hji7 H
      have hji7_ : (a0 / 2 ^ min (ji5).toNat 64) = ji7 := hji7
      have hji7z : (ji5) ≤ 64 → (a0 / 2 ^ (ji5).toNat) = ji7 := shr_small hji7
      have H' := Aside0.mk H
      clear H
      go_wp2
      go_roundg k1
      case measure => have := HK1.out; omega
      case rel => exact ⟨(wrap64 (x3_1 + (Int.tmod (ji7) 2))), (wrap64 (x4_1 + 1)), (by first | rfl | (simp; done) | (simp only [← hji7] <;> (first | rfl | simp)) | (simp [*]; done)), rS, H', ⟨by have := HK1.out; omega⟩, by repeat (first | exact Drawn0.refl _ | apply Drawn0.step)⟩
     ·rw [if_neg c6] at H
      exact absurd H (by simp)
    ·rw [if_neg c4] at H
     have c4b0 := decide_eq_false c4
     clear c4
     obtain rfl := Option.some.inj H
     go_wp2
     go_ret
     exact ⟨rS, rD⟩
 ·replace c3 := Bool.eq_false_iff.mpr c3
  subst c3
  rw [if_neg (show ¬ (false = true) by decide)] at H
  obtain rfl := Option.some.inj H
  go_enter Tryz.func41, Tryz.ntmps41
  go_wp2_with (first | (refine gC (some 6) Tryz.func79 #[.int .i64 a0, .int .i64 0, .int .i64 255] ?_; (with_reducible refine (spec_l01In.calls a0 0 255 false _ A2.out).mono ?_); rintro e w' ⟨rfl, ⟨nd, rfl⟩⟩; refine ⟨_, rfl, ?_⟩))
  go_ret
  exact ⟨rS, rD⟩


end Go.Proofs.YtkdmplfldfagnaaGreatDoor.Pf
end
section
namespace Go.Proofs.YtkdmplfldfagnaaGreatDoor.Pf
open Go.RowKit Go.Proofs.YtkdmplfldfagnaaGreatDoorW.PrintWords Go.Proofs.YtkdmplfldfagnaaGreatDoorW.PrintLast Go.Proofs.YtkdmplfldfagnaaGreatDoorW.PrintMore
attribute [local go_sem] max2_int min2_int max_two min_two max_three min_three max_four min_four   -- for this text's walks alone
set_option linter.unusedVariables false
set_option linter.unusedSimpArgs false
set_option maxHeartbeats 8000000
set_option maxRecDepth 100000
attribute [local go_sem high] eqA28
def laws_samePoints.l0 : Nat → List (S28) → List (S28) → Int → Option (Bool)
 | 0, _, _, _ => none
 | k + 1, x0, x1, x5 => if x5 < (x0.length : Int) then (if 0 ≤ x5 then (if x5 < (x1.length : Int) then (if (!(((rd_T28 x0 x5).f0) == ((rd_T28 x1 x5).f0)) || (!(((rd_T28 x0 x5).f1) == ((rd_T28 x1 x5).f1)) || (!(((rd_T28 x0 x5).f2) == ((rd_T28 x1 x5).f2))))) = true then (some false) else (laws_samePoints.l0 k x0 x1 (wrap64 (x5 + 1)))) else (none)) else (none)) else (some true)
def laws_samePoints.f (k : Nat) (l0 : List (S28)) (l1 : List (S28)) : Option (Bool) := if (l0.length : Int) = (l1.length : Int) then (laws_samePoints.l0 k l0 l1 0) else (some false)
theorem laws_samePoints.calls (k : Nat) (A0 : Option Addr) (c0 : Nat) (l0 : List (S28)) (A1 : Option Addr) (c1 : Nat) (l1 : List (S28)) (r : Bool) (w : World) (hr0 : Kd.C k28 w A0 l0.length l0) (hc0 : l0.length ≤ c0) (hr1 : Kd.C k28 w A1 l1.length l1) (hc1 : l1.length ≤ c1) (h : laws_samePoints.f k l0 l1 = some r) :
  Calls Tryz.prog 32 #[.slice A0 l0.length c0, .slice A1 l1.length c1] w fun e w' => e = .returned (.bool r) ∧ Drawn0 w w' := by
 have hu28 := Tryz.underlying28
 have HR0 := Aside0.mk hr0
 have HC0 := Aside0.mk hc0
 clear hr0 hc0
 have HR1 := Aside0.mk hr1
 have HC1 := Aside0.mk hc1
 clear hr1 hc1
 unfold laws_samePoints.f at h
 have H := h
 clear h
 by_cases c3 : (l0.length : Int) = (l1.length : Int)
 ·rw [if_pos c3] at H
  have c3b0 : ((l0.length : Int) == (l1.length : Int)) = true := beq_iff_eq.mpr c3
  have c3b1 : ((l0.length : Int) != (l1.length : Int)) = false := bne_eq_false_iff_eq.mpr c3
  have c3b2 : (l0.length == l1.length) = true := by first | simpa using c3 | (simp at c3 ⊢; omega)
  clear c3
  have H' := Aside0.mk H
  clear H
  go_enter Tryz.func32, Tryz.ntmps32
  go_wp2
  repeat (go_quiet (fail); try go_wp2)
  go_loopg [5] k (fun kq v5 w' => ∃ (x5_1 : Int), v5 = .int .i64 x5_1 ∧ Aside0 (laws_samePoints.l0 kq l0 l1 x5_1 = some r) ∧ Aside0 (kq ≤ k) ∧ Drawn0 w w')
  case atStart => exact ⟨(0), rS, H', ⟨Nat.le_refl _⟩, by repeat (first | exact Drawn0.refl _ | apply Drawn0.step)⟩
  case round =>
   clear H'
   try clear c1
   try clear p2
   try clear c3
   try clear c3b0
   try clear c3b1
   try clear c3b2
   obtain ⟨x5_1, rfl, HA, HK1, ⟨m1, rfl⟩⟩ := hrel
   cases gk with
   | zero => exact absurd HA.out (by simp [laws_samePoints.l0])
   | succ k1 =>
    have H := HA.out
    clear HA
    simp only [laws_samePoints.l0] at H
    by_cases c4 : x5_1 < (l0.length : Int)
    ·rw [if_pos c4] at H
     have c4b0 := decide_eq_true c4
     clear c4
     by_cases c5 : 0 ≤ x5_1
     ·rw [if_pos c5] at H
      have c5b0 := decide_eq_true c5
      clear c5
      by_cases c6 : x5_1 < (l1.length : Int)
      ·rw [if_pos c6] at H
       have c6b0 := decide_eq_true c6
       clear c6
       by_cases c7 : (!(((rd_T28 l0 x5_1).f0) == ((rd_T28 l1 x5_1).f0)) || (!(((rd_T28 l0 x5_1).f1) == ((rd_T28 l1 x5_1).f1)) || (!(((rd_T28 l0 x5_1).f2) == ((rd_T28 l1 x5_1).f2))))) = true
       ·rw [if_pos c7] at H
        have c7b0 : (!(((rd_T28 l0 x5_1).f0) == ((rd_T28 l1 x5_1).f0)) || (!(((rd_T28 l0 x5_1).f1) == ((rd_T28 l1 x5_1).f1)) || (!(((rd_T28 l0 x5_1).f2) == ((rd_T28 l1 x5_1).f2))))) = true := c7
        clear c7
        obtain rfl := Option.some.inj H
        have p1083 : 0 ≤ (x5_1 : Int) := aQ
        have q1083 : x5_1 < (l0.length : Int) := aQ
        obtain ⟨ad1083, e1083, hx1083_0, hx1083_1, hx1083_2⟩ := at_T28 HR0.out x5_1 p1083 q1083
        cases e1083
        replace p1083 := eq_true p1083
        replace q1083 := eq_true q1083
        have p1084 : 0 ≤ (x5_1 : Int) := aQ
        have q1084 : x5_1 < (l1.length : Int) := aQ
        obtain ⟨ad1084, e1084, hx1084_0, hx1084_1, hx1084_2⟩ := at_T28 HR1.out x5_1 p1084 q1084
        cases e1084
        replace p1084 := eq_true p1084
        replace q1084 := eq_true q1084
        go_wp2
        repeat (go_quiet (fail); try go_wp2)
        go_ret
        exact ⟨rS, rD⟩
       ·rw [if_neg c7] at H
        have c7b0 : (!(((rd_T28 l0 x5_1).f0) == ((rd_T28 l1 x5_1).f0)) || (!(((rd_T28 l0 x5_1).f1) == ((rd_T28 l1 x5_1).f1)) || (!(((rd_T28 l0 x5_1).f2) == ((rd_T28 l1 x5_1).f2))))) = false := by simpa using c7
        clear c7
        have H' := Aside0.mk H
        clear H
        have p1083 : 0 ≤ (x5_1 : Int) := aQ
        have q1083 : x5_1 < (l0.length : Int) := aQ
        obtain ⟨ad1083, e1083, hx1083_0, hx1083_1, hx1083_2⟩ := at_T28 HR0.out x5_1 p1083 q1083
        cases e1083
        replace p1083 := eq_true p1083
        replace q1083 := eq_true q1083
        have p1084 : 0 ≤ (x5_1 : Int) := aQ
        have q1084 : x5_1 < (l1.length : Int) := aQ
        obtain ⟨ad1084, e1084, hx1084_0, hx1084_1, hx1084_2⟩ := at_T28 HR1.out x5_1 p1084 q1084
        cases e1084
        replace p1084 := eq_true p1084
        replace q1084 := eq_true q1084
        go_wp2
        repeat (go_quiet (fail); try go_wp2)
        go_roundg k1
        case measure => have := HK1.out; omega
        case rel => exact ⟨(wrap64 (x5_1 + 1)), rS, H', ⟨by have := HK1.out; omega⟩, by repeat (first | exact Drawn0.refl _ | apply Drawn0.step)⟩
      ·rw [if_neg c6] at H
       exact absurd H (by simp)
     ·rw [if_neg c5] at H
      exact absurd H (by simp)
    ·rw [if_neg c4] at H
     have c4b0 := decide_eq_false c4
     clear c4
     obtain rfl := Option.some.inj H
     go_wp2
     repeat (go_quiet (fail); try go_wp2)
     go_ret
     exact ⟨rS, rD⟩
 ·rw [if_neg c3] at H
  have c3b0 : ((l0.length : Int) == (l1.length : Int)) = false := beq_eq_false_iff_ne.mpr c3
  have c3b1 : ((l0.length : Int) != (l1.length : Int)) = true := bne_iff_ne.mpr c3
  have c3b2 : (l0.length == l1.length) = false := by first | simpa using c3 | (simp at c3 ⊢; omega)
  obtain rfl := Option.some.inj H
  go_enter Tryz.func32, Tryz.ntmps32
  go_wp2
  repeat (go_quiet (fail); try go_wp2)
  go_ret
  exact ⟨rS, rD⟩
end Go.Proofs.YtkdmplfldfagnaaGreatDoor.Pf
end
section
namespace Go.Proofs.YtkdmplfldfagnaaGreatDoor.Kp
open Go.RowKit Go.Proofs.YtkdmplfldfagnaaGreatDoorW.PrintWords Go.Proofs.YtkdmplfldfagnaaGreatDoorW.PrintLast Go.Proofs.YtkdmplfldfagnaaGreatDoorW.PrintMore
attribute [local go_sem] max2_int min2_int max_two min_two max_three min_three max_four min_four   -- for this text's walks alone
set_option linter.unusedVariables false
set_option linter.unusedSimpArgs false
def errW : Option Int → Value
  | none => .nilIface
  | some c => .iface 0 (.int .i64 c)
theorem errW_none : errW none = .nilIface := rfl
theorem errW_some (c : Int) : errW (some c) = .iface 0 (.int .i64 c) := rfl
theorem info3 : (Tryz.prog.info? 3).map (fun i => (i.zero, i.size, i.bytes)) = some (some (.int .i64 0), 1, 8) := by kernel_rfl
theorem info5 : (Tryz.prog.info? 5).map (fun i => (i.zero, i.size, i.bytes)) = some (some (.int .u8 0), 1, 1) := by kernel_rfl
theorem info9 : (Tryz.prog.info? 9).map (fun i => (i.zero, i.size, i.bytes)) = some (some (.string ⟨#[]⟩), 1, 16) := by kernel_rfl
theorem info28 : (Tryz.prog.info? 28).map (fun i => (i.zero, i.size, i.bytes)) = some (some (.agg #[(.int .i64 0), (.int .i64 0), (.bool false)]), 3, 24) := by kernel_rfl
structure S28 where
  f0 : Int
  f1 : Int
  f2 : Bool
def z28 : S28 := ⟨(0 : Int), (0 : Int), false⟩
def k28 : Kd S28 := Kd.iso (Kd.pair (Kd.int .i64) (Kd.pair (Kd.int .i64) Kd.bool)) (fun x : S28 => (x.f0, x.f1, x.f2))
theorem k28_open {w : World} {x : S28} {cs : List Value} (h : k28.K w x cs) : cs = [.int .i64 x.f0, .int .i64 x.f1, .bool x.f2] := by
  obtain ⟨_, _, rfl, rfl, ⟨_, _, rfl, rfl, rfl⟩⟩ := h
  exact rfl
theorem k28_openM {w : World} {base : Nat} {ok : Nat → Prop} {x : S28} {cs : List Value} (h : k28.M w base ok x cs) : cs = [.int .i64 x.f0, .int .i64 x.f1, .bool x.f2] := by
  obtain ⟨_, _, rfl, rfl, ⟨_, _, rfl, rfl, rfl⟩⟩ := h
  exact rfl
theorem k28_mkM (w : World) (base : Nat) (ok : Nat → Prop) (x : S28)  : k28.M w base ok x [.int .i64 x.f0, .int .i64 x.f1, .bool x.f2] := ⟨[.int .i64 x.f0], [.int .i64 x.f1, .bool x.f2], rfl, rfl, ⟨[.int .i64 x.f1], [.bool x.f2], rfl, rfl, rfl⟩⟩
def rd_T28 (xs : List S28) (i : Int) : S28 := xs.getD i.toNat z28
theorem at_T28 {w : World} {A : Option Addr} {n : Nat} {xs : List S28} (h : Kd.C k28 w A n xs) (i : Int) (h0 : 0 ≤ i) (h1 : i < n) : ∃ ad , A = some ad ∧ w.cell? (ad.add (i.toNat * 3)) = some (.int .i64 (rd_T28 xs i).f0) ∧ w.cell? ⟨(ad.add (i.toNat * 3)).block, (ad.add (i.toNat * 3)).off + 1, none⟩ = some (.int .i64 (rd_T28 xs i).f1) ∧ w.cell? ⟨(ad.add (i.toNat * 3)).block, (ad.add (i.toNat * 3)).off + 2, none⟩ = some (.bool (rd_T28 xs i).f2) := by
  obtain ⟨ad, c, e, _, hK, hc0⟩ := Kd.C_get h z28 i h0 h1
  have hc : ∀ j u, c[j]? = some u → w.cell? (ad.add (i.toNat * 3 + j)) = some u := hc0
  obtain rfl := k28_open hK
  exact ⟨ad, e, hc 0 _ rfl, by rw [← add_field _ _ 1 (by omega)]; exact hc 1 _ rfl, by rw [← add_field _ _ 2 (by omega)]; exact hc 2 _ rfl⟩
def bits_RotateLeft64.f (a0 : Int) (a1 : Int) : Option (Int) := if 0 ≤ (Go.bits .and .u64 (IntKind.u64.wrap (a1)) 63) then (if 0 ≤ (IntKind.u64.wrap (64 - (Go.bits .and .u64 (IntKind.u64.wrap (a1)) 63))) then (some (Go.bits .or .u64 (shl .u64 a0 (Go.bits .and .u64 (IntKind.u64.wrap (a1)) 63)) (shr .u64 a0 (IntKind.u64.wrap (64 - (Go.bits .and .u64 (IntKind.u64.wrap (a1)) 63)))))) else (none)) else (none)
set_option maxHeartbeats 8000000 in
set_option maxRecDepth 100000 in
theorem bits_RotateLeft64.calls (a0 : Int) (a1 : Int) (r : Int) (w : World) (h : bits_RotateLeft64.f a0 a1 = some r) :
  Calls Tryz.prog 152 #[.int .u64 a0, .int .i64 a1] w fun e w' => e = .returned (.int .u64 r) ∧ Drawn0 w w' := by
 have H : (if 0 ≤ (Go.bits .and .u64 (IntKind.u64.wrap (a1)) 63) then (if 0 ≤ (IntKind.u64.wrap (64 - (Go.bits .and .u64 (IntKind.u64.wrap (a1)) 63))) then (some (Go.bits .or .u64 (shl .u64 a0 (Go.bits .and .u64 (IntKind.u64.wrap (a1)) 63)) (shr .u64 a0 (IntKind.u64.wrap (64 - (Go.bits .and .u64 (IntKind.u64.wrap (a1)) 63)))))) else (none)) else (none)) = some r := h
 clear h
 obtain ⟨ji3, hji3⟩ : ∃ j_ : Int, (Go.bits .and .u64 (IntKind.u64.wrap (a1)) 63) = j_ := ⟨_, rfl⟩
 replace H : (if 0 ≤ (ji3) then (if 0 ≤ (IntKind.u64.wrap (64 - (ji3))) then (some (Go.bits .or .u64 (shl .u64 a0 (ji3)) (shr .u64 a0 (IntKind.u64.wrap (64 - (ji3)))))) else (none)) else (none)) = some r := by first | (rw [hji3] at H; exact H) | (simp only [hji3] at H ⊢; exact H)
 by_cases c4 : 0 ≤ (ji3)
 ·rw [if_pos c4] at H
  have c4b0 := eq_true c4
  have c4b1 : decide (0 ≤ (ji3)) = true := decide_eq_true c4
  clear c4
  obtain ⟨ji5, hji5⟩ : ∃ j_ : Int, (shl .u64 a0 (ji3)) = j_ := ⟨_, rfl⟩
  replace H : (if 0 ≤ (IntKind.u64.wrap (64 - (ji3))) then (some (Go.bits .or .u64 (ji5) (shr .u64 a0 (IntKind.u64.wrap (64 - (ji3)))))) else (none)) = some r := by first | (rw [hji5] at H; exact H) | (simp only [hji5] at H ⊢; exact H)
  have hji5_ : (IntKind.u64.wrap (a0 * 2 ^ min (ji3).toNat 64)) = ji5 := hji5
  have hji5z : (ji3) ≤ 64 → (IntKind.u64.wrap (a0 * 2 ^ (ji3).toNat)) = ji5 := shl_small hji5
  obtain ⟨ji6, hji6⟩ : ∃ j_ : Int, (IntKind.u64.wrap (64 - (ji3))) = j_ := ⟨_, rfl⟩
  replace H : (if 0 ≤ (ji6) then (some (Go.bits .or .u64 (ji5) (shr .u64 a0 (ji6)))) else (none)) = some r := by first | (rw [hji6] at H; exact H) | (simp only [hji6] at H ⊢; exact H)
  by_cases c7 : 0 ≤ (ji6)
  ·rw [if_pos c7] at H
   have c7b0 := eq_true c7
   have c7b1 : decide (0 ≤ (ji6)) = true := decide_eq_true c7
   clear c7
   obtain ⟨ji8, hji8⟩ : ∃ j_ : Int, (shr .u64 a0 (ji6)) = j_ := ⟨_, rfl⟩
   replace H : (some (Go.bits .or .u64 (ji5) (ji8))) = some r := by first | (rw [hji8] at H; exact H) | (simp only [hji8] at H ⊢; exact H)
   have hji8_ : (a0 / 2 ^ min (ji6).toNat 64) = ji8 := hji8
   have hji8z : (ji6) ≤ 64 → (a0 / 2 ^ (ji6).toNat) = ji8 := shr_small hji8
   obtain rfl := Option.some.inj H
   go_enter Tryz.func152, Tryz.ntmps152
   go_wp2
   go_ret
   exact ⟨by first | rfl | (simp; done) | (simp only [← hji3, ← hji5, ← hji6, ← hji8] <;> (first | rfl | simp)) | (simp [*]; done), by repeat (first | exact Drawn0.refl _ | apply Drawn0.step)⟩
  ·rw [if_neg c7] at H
   exact absurd H (by simp)
 ·rw [if_neg c4] at H
  exact absurd H (by simp)
def impl_wordBytes.l0 : Nat → List Int → Int → Int → Option (List Int)
 | 0, _, _, _ => none
 | k + 1, x0, x1, x5 => if x5 < 8 then (if x0.length < 140737488355328 then (impl_wordBytes.l0 k (x0 ++ [(x1) % 256]) (x1 / 256) (wrap64 (x5 + 1))) else (none)) else (some x0)
def impl_wordBytes.f (k : Nat) (l0 : List Int) (a1 : Int) : Option (List Int) := impl_wordBytes.l0 k l0 a1 0
set_option maxHeartbeats 8000000 in
set_option maxRecDepth 100000 in
theorem impl_wordBytes.calls (k : Nat) (P0_ : Nat → Prop) (u9000_ : Value) (l0 : List Int) (a1 : Int) (r : List Int) (w0 w : World) (hB : Below w0.heap.size w0 w) (ho0 : Kd.R (Kd.int .u8) 5 w w0.heap.size P0_ u9000_ l0) (h : impl_wordBytes.f k l0 a1 = some r) :
  Calls Tryz.prog 134 #[u9000_, .int .u64 a1] w fun e w' => ∃ v0_ : Value, e = .returned (v0_) ∧ Kd.R (Kd.int .u8) 5 w' w0.heap.size (fun k_ => (P0_ k_ ∨ w.heap.size ≤ k_)) v0_ r ∧ Below w0.heap.size w0 w' ∧ Kept w w' (fun k_ => P0_ k_) := by
 have HO0 := Aside0.mk (show Kd.R (Kd.int .u8) 5 w w0.heap.size (fun k_ => (P0_ k_ ∨ w.heap.size ≤ k_)) u9000_ l0 from Kd.R_mono ho0 (fun k_ hk => (.inl hk)))
 have HK := Aside0.mk (Kept.refl w (fun k_ => P0_ k_))
 have HW0 := Aside0.mk hB.size
 have HB := Aside0.mk hB
 clear hB
 have H : (impl_wordBytes.l0 k l0 a1 0) = some r := h
 clear h
 have H' := Aside0.mk H
 clear H
 go_enter Tryz.func134, Tryz.ntmps134
 go_wp2
 go_loopg [0, 1, 5] k (fun kq v0 v1 v5 w' => ∃ (x0_1 : List Int) (x1_1 : Int) (x5_1 : Int), v1 = .int .u64 x1_1 ∧ v5 = .int .i64 x5_1 ∧ Aside0 (impl_wordBytes.l0 kq x0_1 x1_1 x5_1 = some r) ∧ Aside0 (kq ≤ k) ∧ Aside0 (Kd.R (Kd.int .u8) 5 w' w0.heap.size (fun k_ => (P0_ k_ ∨ w.heap.size ≤ k_)) v0 x0_1) ∧ Aside0 (Kept w w' (fun k_ => P0_ k_)) ∧ Aside0 (Below w0.heap.size w0 w'))
 case atStart => exact ⟨(l0), (a1), (0), rS, rS, H', ⟨Nat.le_refl _⟩, ⟨rP HO0⟩, ⟨by repeat (first | (with_reducible first | exact HK.out | apply Kept.alloc | apply Kept.drewN | apply Kept.drew) | exact HK.out)⟩, ⟨bZ HB⟩⟩
 case round =>
  clear H'
  try clear c1
  try clear p2
  obtain ⟨x0_1, x1_1, x5_1, rfl, rfl, HA, HK1, HO_0, HK, HB⟩ := hrel
  cases gk with
  | zero => exact absurd HA.out (by simp [impl_wordBytes.l0])
  | succ k1 =>
   have H := HA.out
   clear HA
   simp only [impl_wordBytes.l0] at H
   by_cases c3 : x5_1 < 8
   ·rw [if_pos c3] at H
    have c3b0 : decide (x5_1 < 8) = true := decide_eq_true c3
    clear c3
    by_cases c4 : x0_1.length < 140737488355328
    ·rw [if_pos c4] at H
     have LMc4 := Aside0.mk c4
     clear c4
     obtain ⟨y637, hy637⟩ : ∃ y_ : List Int, y_ = (x0_1 ++ [(x1_1) % 256]) := ⟨_, rfl⟩
     replace H : (impl_wordBytes.l0 k1 y637 (x1_1 / 256) (wrap64 (x5_1 + 1))) = some r := by first | (rw [hy637]; with_reducible exact H) | (have H2_ := (Option.bind_some _ _).symm.trans H; rw [hy637]; with_reducible exact H2_) | (have H2_ := (Option.bind_some _ _).symm.trans H; with_reducible exact H2_) | with_reducible exact H | (rw [hy637]; exact H) | exact H
     have Ny637 := Aside0.mk hy637
     clear hy637
     have H' := Aside0.mk H
     clear H
     go_wp2_with (first | ((with_reducible refine gate_builtin (b := .append) (xs := #[.tmp 7, .tmp 10]) rfl ?_); at_builtin; refine Kd.R_append (Kd.int .u8) (w0 := w0) w0.heap.size rfl (.tmp 7) (.tmp 10) 22 5 (.int .u8 0) 1 rfl Tryz.underlying22 info5 rfl (by decide) (by omega) u0 x0_1 ((x1_1) % 256) [.int .u8 ((x1_1) % 256)] (fun k_ => (P0_ k_ ∨ w.heap.size ≤ k_)) (fun _ => False) rfl rfl ?aP (fun _ hk => hk.elim) ?aF ?aO ?aB ?aS ?aL ?_; (case aP => exact rfl); (case aB => exact (bZ HB)); (case aF => exact (fun k_ hk => (.inr (Nat.le_trans (by first | exact HK.out.1 | exact (show Kept w _ (fun k_ => P0_ k_) from by repeat (first | (with_reducible first | exact HK.out | apply Kept.alloc | apply Kept.drewN | apply Kept.drew) | exact HK.out)).1) hk)))); (case aO => exact (rP HO_0)); (case aS => exact (below_size (bZ HB))); (case aL => have := LMc4.out; omega); intro v638 w5 ho hb hg hat; rw [← Ny637.out] at ho; replace HB := Aside0.mk (hb); replace HK := Aside0.mk (Kept.of_grown (S := (fun k_ => P0_ k_)) hg (by repeat (first | (with_reducible first | exact HK.out | apply Kept.alloc | apply Kept.drewN | apply Kept.drew) | exact HK.out)) (fun k_ e_ => (HO_0.out.1 k_ e_))); have HO639 := Aside0.mk (ho); clear HO_0; clear ho hb hg hat))
     go_roundg k1
     case measure => have := HK1.out; omega
     case rel => exact ⟨(y637), (x1_1 / 256), (wrap64 (x5_1 + 1)), rS, rS, H', ⟨by have := HK1.out; omega⟩, ⟨rP HO639⟩, ⟨by repeat (first | (with_reducible first | exact HK.out | apply Kept.alloc | apply Kept.drewN | apply Kept.drew) | exact HK.out)⟩, ⟨bZ HB⟩⟩
    ·rw [if_neg c4] at H
     exact absurd H (by simp)
   ·rw [if_neg c3] at H
    have c3b0 : decide (x5_1 < 8) = false := decide_eq_false c3
    clear c3
    obtain rfl := Option.some.inj H
    go_wp2
    go_ret
    exact ⟨_, by first | rfl | (simp [errW_none, errW_some] <;> rfl) | (simp [*, errW_none, errW_some] <;> rfl), by (with_reducible repeat (first | apply Kd.R_alloc | apply Kd.R_drewN | apply Kd.R_drew)); exact HO_0.out, bZ HB, by repeat (first | (with_reducible first | exact HK.out | apply Kept.alloc | apply Kept.drewN | apply Kept.drew) | exact HK.out)⟩
def impl_wordAt.l0 : Nat → ByteArray → Int → Int → Int → Option (Int)
 | 0, _, _, _, _ => none
 | k + 1, x0, x1, x5, x6 => if x6 ≥ 0 then (if 0 ≤ (wrap64 (x1 + x6)) then (if (wrap64 (x1 + x6)) < (x0.size : Int) then (impl_wordAt.l0 k x0 x1 (Go.bits .or .u64 (IntKind.u64.wrap (x5 * 256)) (IntKind.u64.wrap (bt x0 (wrap64 (x1 + x6))))) (wrap64 (x6 - 1))) else (none)) else (none)) else (some x5)
def impl_wordAt.f (k : Nat) (a0 : ByteArray) (a1 : Int) : Option (Int) := impl_wordAt.l0 k a0 a1 0 7
set_option maxHeartbeats 8000000 in
set_option maxRecDepth 100000 in
theorem impl_wordAt.calls (k : Nat) (a0 : ByteArray) (a1 : Int) (r : Int) (w : World) (h : impl_wordAt.f k a0 a1 = some r) :
  Calls Tryz.prog 94 #[.string a0, .int .i64 a1] w fun e w' => e = .returned (.int .u64 r) ∧ Drawn0 w w' := by
 have H : (impl_wordAt.l0 k a0 a1 0 7) = some r := h
 clear h
 have H' := Aside0.mk H
 clear H
 go_enter Tryz.func94, Tryz.ntmps94
 go_wp2
 go_loopg [5, 6] k (fun kq v5 v6 w' => ∃ (x5_1 : Int) (x6_1 : Int), v5 = .int .u64 x5_1 ∧ v6 = .int .i64 x6_1 ∧ Aside0 (impl_wordAt.l0 kq a0 a1 x5_1 x6_1 = some r) ∧ Aside0 (kq ≤ k) ∧ Drawn0 w w')
 case atStart => exact ⟨(0), (7), rS, rS, H', ⟨Nat.le_refl _⟩, by repeat (first | exact Drawn0.refl _ | apply Drawn0.step)⟩
 case round =>
  clear H'
  try clear p2
  obtain ⟨x5_1, x6_1, rfl, rfl, HA, HK1, ⟨m1, rfl⟩⟩ := hrel
  cases gk with
  | zero => exact absurd HA.out (by simp [impl_wordAt.l0])
  | succ k1 =>
   have H := HA.out
   clear HA
   simp only [impl_wordAt.l0] at H
   by_cases c3 : x6_1 ≥ 0
   ·rw [if_pos c3] at H
    have c3b0 : decide (0 ≤ x6_1) = true := decide_eq_true c3
    clear c3
    obtain ⟨ji4, hji4⟩ : ∃ j_ : Int, (wrap64 (a1 + x6_1)) = j_ := ⟨_, rfl⟩
    replace H : (if 0 ≤ (ji4) then (if (ji4) < (a0.size : Int) then (impl_wordAt.l0 k1 a0 a1 (Go.bits .or .u64 (IntKind.u64.wrap (x5_1 * 256)) (IntKind.u64.wrap (bt a0 (ji4)))) (wrap64 (x6_1 - 1))) else (none)) else (none)) = some r := by first | (rw [hji4] at H; exact H) | (simp only [hji4] at H ⊢; exact H)
    have hji4w : (IntKind.i64.wrap (a1 + x6_1)) = ji4 := (i64_w _).trans hji4
    by_cases c5 : 0 ≤ (ji4)
    ·rw [if_pos c5] at H
     have c5b0 : decide (0 ≤ (ji4)) = true := decide_eq_true c5
     clear c5
     by_cases c6 : (ji4) < (a0.size : Int)
     ·rw [if_pos c6] at H
      have c6b0 : decide ((ji4) < (a0.size : Int)) = true := decide_eq_true c6
      clear c6
      have H' := Aside0.mk H
      clear H
      have p7 : 0 ≤ ((ji4) : Int) := of_decide_eq_true (by first | (with_reducible assumption) | assumption)
      have q7 : (ji4) < (a0.size : Int) := of_decide_eq_true (by first | (with_reducible assumption) | assumption)
      have hx7 := bt_at a0 (ji4)
      replace p7 := eq_true p7
      replace q7 := eq_true q7
      go_wp2
      go_roundg k1
      case measure => have := HK1.out; omega
      case rel => exact ⟨(Go.bits .or .u64 (IntKind.u64.wrap (x5_1 * 256)) (IntKind.u64.wrap (bt a0 (ji4)))), (wrap64 (x6_1 - 1)), (by first | rfl | (simp; done) | (simp only [← hji4] <;> (first | rfl | simp)) | (simp [*]; done)), rS, H', ⟨by have := HK1.out; omega⟩, by repeat (first | exact Drawn0.refl _ | apply Drawn0.step)⟩
     ·rw [if_neg c6] at H
      exact absurd H (by simp)
    ·rw [if_neg c5] at H
     exact absurd H (by simp)
   ·rw [if_neg c3] at H
    have c3b0 : decide (0 ≤ x6_1) = false := decide_eq_false c3
    clear c3
    obtain rfl := Option.some.inj H
    go_wp2
    go_ret
    exact ⟨rS, rD⟩
def spec_l03Turn.f (a0 : Int) (a1 : Int) : Option (Int) := if 0 ≤ a1 then (if 0 ≤ (IntKind.u64.wrap (64 - a1)) then (some (Go.bits .or .u64 (shl .u64 a0 a1) (shr .u64 a0 (IntKind.u64.wrap (64 - a1))))) else (none)) else (none)
set_option maxHeartbeats 8000000 in
set_option maxRecDepth 100000 in
theorem spec_l03Turn.calls (a0 : Int) (a1 : Int) (r : Int) (w : World) (h : spec_l03Turn.f a0 a1 = some r) :
  Calls Tryz.prog 155 #[.int .u64 a0, .int .u64 a1] w fun e w' => e = .returned (.int .u64 r) ∧ Drawn0 w w' := by
 have H : (if 0 ≤ a1 then (if 0 ≤ (IntKind.u64.wrap (64 - a1)) then (some (Go.bits .or .u64 (shl .u64 a0 a1) (shr .u64 a0 (IntKind.u64.wrap (64 - a1))))) else (none)) else (none)) = some r := h
 clear h
 by_cases c3 : 0 ≤ a1
 ·rw [if_pos c3] at H
  have c3b0 := eq_true c3
  have c3b1 : decide (0 ≤ a1) = true := decide_eq_true c3
  clear c3
  obtain ⟨ji4, hji4⟩ : ∃ j_ : Int, (shl .u64 a0 a1) = j_ := ⟨_, rfl⟩
  replace H : (if 0 ≤ (IntKind.u64.wrap (64 - a1)) then (some (Go.bits .or .u64 (ji4) (shr .u64 a0 (IntKind.u64.wrap (64 - a1))))) else (none)) = some r := by first | (rw [hji4] at H; exact H) | (simp only [hji4] at H ⊢; exact H)
  have hji4_ : (IntKind.u64.wrap (a0 * 2 ^ min a1.toNat 64)) = ji4 := hji4
  have hji4z : a1 ≤ 64 → (IntKind.u64.wrap (a0 * 2 ^ a1.toNat)) = ji4 := shl_small hji4
  obtain ⟨ji5, hji5⟩ : ∃ j_ : Int, (IntKind.u64.wrap (64 - a1)) = j_ := ⟨_, rfl⟩
  replace H : (if 0 ≤ (ji5) then (some (Go.bits .or .u64 (ji4) (shr .u64 a0 (ji5)))) else (none)) = some r := by first | (rw [hji5] at H; exact H) | (simp only [hji5] at H ⊢; exact H)
  by_cases c6 : 0 ≤ (ji5)
  ·rw [if_pos c6] at H
   have c6b0 := eq_true c6
   have c6b1 : decide (0 ≤ (ji5)) = true := decide_eq_true c6
   clear c6
   obtain ⟨ji7, hji7⟩ : ∃ j_ : Int, (shr .u64 a0 (ji5)) = j_ := ⟨_, rfl⟩
   replace H : (some (Go.bits .or .u64 (ji4) (ji7))) = some r := by first | (rw [hji7] at H; exact H) | (simp only [hji7] at H ⊢; exact H)
   have hji7_ : (a0 / 2 ^ min (ji5).toNat 64) = ji7 := hji7
   have hji7z : (ji5) ≤ 64 → (a0 / 2 ^ (ji5).toNat) = ji7 := shr_small hji7
   obtain rfl := Option.some.inj H
   go_enter Tryz.func155, Tryz.ntmps155
   go_wp2
   go_ret
   exact ⟨by first | rfl | (simp; done) | (simp only [← hji4, ← hji5, ← hji7] <;> (first | rfl | simp)) | (simp [*]; done), by repeat (first | exact Drawn0.refl _ | apply Drawn0.step)⟩
  ·rw [if_neg c6] at H
   exact absurd H (by simp)
 ·rw [if_neg c3] at H
  exact absurd H (by simp)
def spec_l03Word.l0 : Nat → ByteArray → Int → Int → Int → Option (Int)
 | 0, _, _, _, _ => none
 | k + 1, x0, x1, x5, x6 => if x6 ≥ 0 then (if 0 ≤ (wrap64 (x1 + x6)) then (if (wrap64 (x1 + x6)) < (x0.size : Int) then (spec_l03Word.l0 k x0 x1 (Go.bits .or .u64 (IntKind.u64.wrap (x5 * 256)) (IntKind.u64.wrap (bt x0 (wrap64 (x1 + x6))))) (wrap64 (x6 - 1))) else (none)) else (none)) else (some x5)
def spec_l03Word.f (k : Nat) (a0 : ByteArray) (a1 : Int) : Option (Int) := spec_l03Word.l0 k a0 a1 0 7
set_option maxHeartbeats 8000000 in
set_option maxRecDepth 100000 in
theorem spec_l03Word.calls (k : Nat) (a0 : ByteArray) (a1 : Int) (r : Int) (w : World) (h : spec_l03Word.f k a0 a1 = some r) :
  Calls Tryz.prog 108 #[.string a0, .int .i64 a1] w fun e w' => e = .returned (.int .u64 r) ∧ Drawn0 w w' := by
 have H : (spec_l03Word.l0 k a0 a1 0 7) = some r := h
 clear h
 have H' := Aside0.mk H
 clear H
 go_enter Tryz.func108, Tryz.ntmps108
 go_wp2
 go_loopg [5, 6] k (fun kq v5 v6 w' => ∃ (x5_1 : Int) (x6_1 : Int), v5 = .int .u64 x5_1 ∧ v6 = .int .i64 x6_1 ∧ Aside0 (spec_l03Word.l0 kq a0 a1 x5_1 x6_1 = some r) ∧ Aside0 (kq ≤ k) ∧ Drawn0 w w')
 case atStart => exact ⟨(0), (7), rS, rS, H', ⟨Nat.le_refl _⟩, by repeat (first | exact Drawn0.refl _ | apply Drawn0.step)⟩
 case round =>
  clear H'
  try clear c1
  try clear p2
  obtain ⟨x5_1, x6_1, rfl, rfl, HA, HK1, ⟨m1, rfl⟩⟩ := hrel
  cases gk with
  | zero => exact absurd HA.out (by simp [spec_l03Word.l0])
  | succ k1 =>
   have H := HA.out
   clear HA
   simp only [spec_l03Word.l0] at H
   by_cases c3 : x6_1 ≥ 0
   ·rw [if_pos c3] at H
    have c3b0 : decide (0 ≤ x6_1) = true := decide_eq_true c3
    clear c3
    obtain ⟨ji4, hji4⟩ : ∃ j_ : Int, (wrap64 (a1 + x6_1)) = j_ := ⟨_, rfl⟩
    replace H : (if 0 ≤ (ji4) then (if (ji4) < (a0.size : Int) then (spec_l03Word.l0 k1 a0 a1 (Go.bits .or .u64 (IntKind.u64.wrap (x5_1 * 256)) (IntKind.u64.wrap (bt a0 (ji4)))) (wrap64 (x6_1 - 1))) else (none)) else (none)) = some r := by first | (rw [hji4] at H; exact H) | (simp only [hji4] at H ⊢; exact H)
    have hji4w : (IntKind.i64.wrap (a1 + x6_1)) = ji4 := (i64_w _).trans hji4
    by_cases c5 : 0 ≤ (ji4)
    ·rw [if_pos c5] at H
     have c5b0 : decide (0 ≤ (ji4)) = true := decide_eq_true c5
     clear c5
     by_cases c6 : (ji4) < (a0.size : Int)
     ·rw [if_pos c6] at H
      have c6b0 : decide ((ji4) < (a0.size : Int)) = true := decide_eq_true c6
      clear c6
      have H' := Aside0.mk H
      clear H
      have p7 : 0 ≤ ((ji4) : Int) := of_decide_eq_true (by first | (with_reducible assumption) | assumption)
      have q7 : (ji4) < (a0.size : Int) := of_decide_eq_true (by first | (with_reducible assumption) | assumption)
      have hx7 := bt_at a0 (ji4)
      replace p7 := eq_true p7
      replace q7 := eq_true q7
      go_wp2
      go_roundg k1
      case measure => have := HK1.out; omega
      case rel => exact ⟨(Go.bits .or .u64 (IntKind.u64.wrap (x5_1 * 256)) (IntKind.u64.wrap (bt a0 (ji4)))), (wrap64 (x6_1 - 1)), (by first | rfl | (simp; done) | (simp only [← hji4] <;> (first | rfl | simp)) | (simp [*]; done)), rS, H', ⟨by have := HK1.out; omega⟩, by repeat (first | exact Drawn0.refl _ | apply Drawn0.step)⟩
     ·rw [if_neg c6] at H
      exact absurd H (by simp)
    ·rw [if_neg c5] at H
     exact absurd H (by simp)
   ·rw [if_neg c3] at H
    have c3b0 : decide (0 ≤ x6_1) = false := decide_eq_false c3
    clear c3
    obtain rfl := Option.some.inj H
    go_wp2
    go_ret
    exact ⟨rS, rD⟩
end Go.Proofs.YtkdmplfldfagnaaGreatDoor.Kp
end
section
namespace Go.Proofs.YtkdmplfldfagnaaGreatDoor.Kp
open Go.RowKit Go.Proofs.YtkdmplfldfagnaaGreatDoorW.PrintWords Go.Proofs.YtkdmplfldfagnaaGreatDoorW.PrintLast Go.Proofs.YtkdmplfldfagnaaGreatDoorW.PrintMore
set_option linter.unusedVariables false
set_option linter.unusedSimpArgs false
set_option maxHeartbeats 8000000
set_option maxRecDepth 100000
def ga (s : List Int) (i : Nat) : Int := s.getD i 0
def ue (xs : List Int) : Array Value := (xs.map (Value.int .u64)).toArray
theorem ue_get {xs : List Int} {i : Nat} (h : i < xs.length) : (ue xs)[i]? = some (.int .u64 (ga xs i)) := by
  unfold ue ga
  rw [List.getElem?_toArray, List.getElem?_map, List.getElem?_eq_getElem h, List.getD_eq_getElem?_getD, List.getElem?_eq_getElem h]
  rfl
theorem ue_set (xs : List Int) (i : Nat) (v : Int) : (ue xs).setIfInBounds i (.int .u64 v) = ue (xs.set i v) := by
  unfold ue
  rw [List.setIfInBounds_toArray, List.map_set]
abbrev xr (a b : Int) : Int := Go.bits .xor .u64 a b
def turnsL : List Int := [0, 1, 62, 28, 27, 36, 44, 6, 55, 20, 3, 10, 43, 25, 39, 41, 45, 15, 21, 8, 18, 2, 61, 56, 14]
def rcL : List Int := [1, 32898, 9223372036854808714, 9223372039002292224, 32907, 2147483649, 9223372039002292353, 9223372036854808585, 138, 136, 2147516425, 2147483658, 2147516555, 9223372036854775947, 9223372036854808713, 9223372036854808579, 9223372036854808578, 9223372036854775936, 32778, 9223372039002259466, 9223372039002292353, 9223372036854808704, 2147483649, 9223372039002292232]
structure Tab (w : World) : Prop where
  t : ∀ i : Nat, i < 25 → w.cell? ⟨0, i, none⟩ = some (.int .i64 (ga turnsL i))
  r : ∀ i : Nat, i < 24 → w.cell? ⟨1, i, none⟩ = some (.int .u64 (ga rcL i))
  s : 0 < w.heap.size ∧ 1 < w.heap.size
theorem Tab.below {w w' : World} (h : Tab w) (hb : Below w.heap.size w w') : Tab w' :=
  ⟨fun i hi => (hb.cell (p := ⟨0, i, none⟩) h.s.1).trans (h.t i hi), fun i hi => (hb.cell (p := ⟨1, i, none⟩) h.s.2).trans (h.r i hi), ⟨Nat.lt_of_lt_of_le h.s.1 hb.size, Nat.lt_of_lt_of_le h.s.2 hb.size⟩⟩
def rl (v n : Int) : Int := Go.bits .or .u64 (shl .u64 v (Go.bits .and .u64 (IntKind.u64.wrap n) 63)) (shr .u64 v (IntKind.u64.wrap (64 - (Go.bits .and .u64 (IntKind.u64.wrap n) 63))))
def rok (n : Int) : Bool := decide (0 ≤ (Go.bits .and .u64 (IntKind.u64.wrap n) 63)) && decide (0 ≤ (IntKind.u64.wrap (64 - (Go.bits .and .u64 (IntKind.u64.wrap n) 63))))
theorem rot_f {v n : Int} (h : rok n = true) : bits_RotateLeft64.f v n = some (rl v n) := by
  unfold rok at h
  simp only [Bool.and_eq_true, decide_eq_true_eq] at h
  unfold bits_RotateLeft64.f rl
  rw [if_pos h.1, if_pos h.2]
theorem rok_one : rok 1 = true := by decide +kernel
theorem rok_turns : ∀ i : Fin 25, rok (ga turnsL i.val) = true := by decide +kernel
def col (s : List Int) (x : Nat) : Int := xr (xr (xr (xr (ga s x) (ga s (x + 5))) (ga s (x + 10))) (ga s (x + 15))) (ga s (x + 20))
def cst (s : List Int) : Nat → List Int
  | 0 => List.replicate 5 0
  | k + 1 => (cst s k).set k (col s k)
theorem cst_len (s : List Int) (k : Nat) : (cst s k).length = 5 := by
  induction k with
  | zero => rfl
  | succ k ih => simp [cst, ih]
def dd (c : List Int) (x : Nat) : Int := xr (ga c ((x + 4) % 5)) (rl (ga c ((x + 1) % 5)) 1)
def bat (s c : List Int) (y x : Nat) : Int := rl (xr (ga s (x + 5 * y)) (dd c x)) (ga turnsL (x + 5 * y))
def bst (s c : List Int) : Nat → List Int
  | 0 => List.replicate 25 0
  | m + 1 => (bst s c m).set (m / 5 + 5 * ((2 * (m % 5) + 3 * (m / 5)) % 5)) (bat s c (m / 5) (m % 5))
theorem bst_len (s c : List Int) (k : Nat) : (bst s c k).length = 25 := by
  induction k with
  | zero => rfl
  | succ k ih => simp [bst, ih]
theorem bst_succ (s c : List Int) {y x : Nat} (h : x < 5) : bst s c (5 * y + (x + 1)) = (bst s c (5 * y + x)).set (y + 5 * ((2 * x + 3 * y) % 5)) (bat s c y x) := by
  rw [show 5 * y + (x + 1) = (5 * y + x) + 1 by omega]
  simp only [bst]
  rw [show (5 * y + x) / 5 = y by omega, show (5 * y + x) % 5 = x by omega]
def u64not (x : Int) : Int := Go.bits .xor .u64 IntKind.u64.max x
def chi (b : List Int) (y x : Nat) : Int := xr (ga b (x + 5 * y)) (Go.bits .and .u64 (u64not (ga b ((x + 1) % 5 + 5 * y))) (ga b ((x + 2) % 5 + 5 * y)))
def sst (s b : List Int) : Nat → List Int
  | 0 => s
  | m + 1 => (sst s b m).set m (chi b (m / 5) (m % 5))
theorem sst_len (s b : List Int) (k : Nat) : (sst s b k).length = s.length := by
  induction k with
  | zero => rfl
  | succ k ih => simp [sst, ih]
theorem sst_succ (s b : List Int) {y x : Nat} (h : x < 5) : sst s b (5 * y + (x + 1)) = (sst s b (5 * y + x)).set (x + 5 * y) (chi b y x) := by
  rw [show 5 * y + (x + 1) = (5 * y + x) + 1 by omega]
  simp only [sst]
  rw [show (5 * y + x) / 5 = y by omega, show (5 * y + x) % 5 = x by omega, show 5 * y + x = x + 5 * y by omega]
def roundI (s : List Int) (n : Nat) : List Int :=
  let t := sst s (bst s (cst s 5) 25) 25
  t.set 0 (xr (ga t 0) (ga rcL n))
theorem roundI_len (s : List Int) (n : Nat) : (roundI s n).length = s.length := by simp [roundI, sst_len]
def impl_round.T4 : Bool × List (List Nat × List Nat) := (true, [([], []), ([], []), ([], []), ([1], [1]), ([3, 2], [2, 3]), ([4], [4]), ([], []), ([], []), ([7], [7]), ([6], [6]), ([9, 8], [8, 9]), ([10], [10]), ([5, 11], [5, 11]), ([], []), ([], []), ([14], [14]), ([13], [13]), ([16, 15], [15, 16]), ([17], [17]), ([12, 18], [12, 18]), ([], []), ([], []), ([21], [21]), ([20], [20]), ([23, 22], [22, 23]), ([24], [24]), ([19, 25], [19, 25]), ([], []), ([], []), ([28], [28]), ([27], [27]), ([30, 29], [29, 30]), ([31], [31]), ([26, 32], [26, 32]), ([0, 0, 1, 2, 3, 4, 5, 6, 7, 8, 9, 10, 11, 12, 13, 14, 15, 16, 17, 18, 19, 20, 21, 22, 23, 24, 25, 26, 27, 28, 29, 30, 31, 32, 33], [0]), ([34, 33, 0, 1, 2, 3, 4, 5, 6, 7, 8, 9, 10, 11, 12, 13, 14, 15, 16, 17, 18, 19, 20, 21, 22, 23, 24, 25, 26, 27, 28, 29, 30, 31, 32, 33], [33, 34])])
def impl_round.B4 : List Nat := [0, 0, 0, 2, 14, 30, 0, 0, 128, 64, 960, 1984, 4094, 0, 0, 16384, 8192, 122880, 253952, 524286, 0, 0, 2097152, 1048576, 15728640, 32505856, 67108862, 0, 0, 268435456, 134217728, 2013265920, 4160749568, 8589934590, 17179869183, 34359738367]
theorem impl_round.tab4 : rtab .any (opsOf Tryz.f133 4) = impl_round.T4 := by kernel_rfl
theorem impl_round.bits4 : waitsOk impl_round.T4.2 impl_round.B4 = true := by kernel_rfl
def impl_round.T13 : Bool × List (List Nat × List Nat) := (true, [([], []), ([0], [0]), ([1], [1]), ([2], [2]), ([3], [3]), ([], []), ([5], [5]), ([6], [6]), ([7], [7]), ([8], [8]), ([9], [9]), ([4, 10], [4, 10]), ([11, 10, 0, 1, 2, 3, 4, 5, 6, 7, 8, 9, 10, 11], [11])])
def impl_round.B13 : List Nat := [0, 1, 3, 7, 15, 0, 32, 96, 224, 480, 992, 2047, 4095]
theorem impl_round.tab13 : rtab .any (opsOf Tryz.f133 13) = impl_round.T13 := by kernel_rfl
theorem impl_round.bits13 : waitsOk impl_round.T13.2 impl_round.B13 = true := by kernel_rfl
def impl_round.T14 : Bool × List (List Nat × List Nat) := (true, [([], []), ([], []), ([1], [1]), ([], []), ([3], [3]), ([2, 4], [2, 4]), ([5], [5]), ([6], [6]), ([0, 7], [0, 7]), ([], []), ([], []), ([], []), ([11], [11]), ([10, 12], [10, 12]), ([9], [9]), ([14, 13], [13, 14]), ([15], [15]), ([], []), ([16, 17], [16, 17]), ([], []), ([], []), ([20], [20]), ([19, 21], [19, 21]), ([22], [22]), ([23], [23]), ([18, 24], [18, 24]), ([8, 0, 1, 2, 3, 4, 5, 6, 7, 8, 9, 10, 11, 12, 13, 14, 15, 16, 17, 18, 19, 20, 21, 22, 23, 24, 25], [8]), ([26, 25, 25, 0, 1, 2, 3, 4, 5, 6, 7, 8, 9, 10, 11, 12, 13, 14, 15, 16, 17, 18, 19, 20, 21, 22, 23, 24, 25], [25, 26])])
def impl_round.B14 : List Nat := [0, 0, 2, 0, 8, 30, 62, 126, 255, 0, 0, 0, 2048, 7168, 512, 32256, 65024, 0, 261632, 0, 0, 1048576, 3670016, 7864320, 16252928, 33553920, 67108863, 134217727]
theorem impl_round.tab14 : rtab .any (opsOf Tryz.f133 14) = impl_round.T14 := by kernel_rfl
theorem impl_round.bits14 : waitsOk impl_round.T14.2 impl_round.B14 = true := by kernel_rfl
def impl_round.T23 : Bool × List (List Nat × List Nat) := (true, [([], []), ([], []), ([], []), ([2], [2]), ([1, 3], [1, 3]), ([], []), ([], []), ([6], [6]), ([5, 7], [5, 7]), ([8], [8]), ([9], [9]), ([], []), ([11], [11]), ([12], [12]), ([], []), ([14], [14]), ([13, 15], [13, 15]), ([16], [16]), ([17], [17]), ([18], [18]), ([], []), ([20], [20]), ([21], [21]), ([], []), ([23], [23]), ([22, 24], [22, 24]), ([25], [25]), ([26], [26]), ([19, 27], [19, 27]), ([10, 28], [10, 28]), ([0], [0]), ([30, 4, 0, 1, 2, 3, 4, 5, 6, 7, 8, 9, 10, 11, 12, 13, 14, 15, 16, 17, 18, 19, 20, 21, 22, 23, 24, 25, 26, 27, 28, 29], [4, 30]), ([31, 29, 0, 1, 2, 3, 4, 5, 6, 7, 8, 9, 10, 11, 12, 13, 14, 15, 16, 17, 18, 19, 20, 21, 22, 23, 24, 25, 26, 27, 28, 29], [29, 31])])
def impl_round.B23 : List Nat := [0, 0, 0, 4, 14, 0, 0, 64, 224, 480, 992, 0, 2048, 6144, 0, 16384, 63488, 129024, 260096, 522240, 0, 1048576, 3145728, 0, 8388608, 32505856, 66060288, 133169152, 268433408, 536870880, 1, 2147483647, 4294967295]
theorem impl_round.tab23 : rtab .any (opsOf Tryz.f133 23) = impl_round.T23 := by kernel_rfl
theorem impl_round.bits23 : waitsOk impl_round.T23.2 impl_round.B23 = true := by kernel_rfl
def impl_round.T26 : Bool × List (List Nat × List Nat) := (true, [([], []), ([0], [0]), ([1], [1]), ([2], [2]), ([], []), ([4], [4]), ([5], [5]), ([3, 6], [3, 6]), ([0], [0]), ([8, 0, 1, 2, 3, 4, 5, 6, 7], [8]), ([9, 7, 0, 1, 2, 3, 4, 5, 6, 7], [7, 9])])
def impl_round.B26 : List Nat := [0, 1, 3, 7, 0, 16, 48, 127, 1, 511, 1023]
theorem impl_round.tab26 : rtab .any (opsOf Tryz.f133 26) = impl_round.T26 := by kernel_rfl
theorem impl_round.bits26 : waitsOk impl_round.T26.2 impl_round.B26 = true := by kernel_rfl
theorem impl_round.calls (g : Nat) (s : List Int) (hs : s.length = 25) (n : Int) (hn0 : 0 ≤ n) (hn1 : n < 24) (w0 w : World) (hT : Tab w0) (hB : Below w0.heap.size w0 w) (hg : w0.heap.size ≤ g) (hA : w.heap[g]? = some (.cells (ue s) 95 (0, 0))) :
    Calls Tryz.prog 133 #[.pointer (some ⟨g, 0, none⟩), .int .i64 n] w fun e w' => e = .returned (.tuple #[]) ∧ w'.heap[g]? = some (.cells (ue (roundI s n.toNat)) 95 (0, 0)) ∧ Below w0.heap.size w0 w' := by
  have HT := Aside0.mk hT
  have HB := Aside0.mk hB
  have BKs := Aside0.mk hA
  have GEs := Aside0.mk hg
  have HN := Aside0.mk (show 0 ≤ n ∧ n < 24 from ⟨hn0, hn1⟩)
  have HS := Aside0.mk hs
  clear hT hB hA hg hn0 hn1 hs
  go_enter Tryz.func133, Tryz.ntmps133
  go_wp2_with (first | ((with_reducible refine gate_dst (N := 4) rfl ?_); refine box_event ?hg (N := 4) ?hd (cs := ue (List.replicate 5 0)) (t := 134) ?hr ?_; (case hd => rfl); (case hg => rfl); (case hr => first | (go_simp; done) | (go_simp; rfl)); intro gc hg w1_ hbox hb; have n0_ := Aside0.mk (blk_below (by (with_reducible repeat (first | refine blk_drewN ?_ _ | refine blk_drew ?_)); exact BKs.out) hb); have n1_ := Aside0.mk (below_then (show Below w0.heap.size w0 _ by repeat (first | exact HB.out | apply Below.drew | apply pw_below_drewN | refine Below.setCell ?_ GEs.out _ | refine Below.setCell ?_ GEc.out _ | refine Below.setCell ?_ GEb.out _)) (Below.size (show Below w0.heap.size w0 _ by repeat (first | exact HB.out | apply Below.drew | apply pw_below_drewN | refine Below.setCell ?_ GEs.out _ | refine Below.setCell ?_ GEc.out _ | refine Below.setCell ?_ GEb.out _))) hb); have n2_ := Aside0.mk (show w0.heap.size ≤ gc by rw [hg]; exact (Below.size (show Below w0.heap.size w0 _ by repeat (first | exact HB.out | apply Below.drew | apply pw_below_drewN | refine Below.setCell ?_ GEs.out _ | refine Below.setCell ?_ GEc.out _ | refine Below.setCell ?_ GEb.out _)))); have n3_ := Aside0.mk (show g ≠ gc by rw [hg]; exact Nat.ne_of_lt (blk_lt (o := .cells _ _ _) (by (with_reducible repeat (first | refine blk_drewN ?_ _ | refine blk_drew ?_)); exact BKs.out))); have BKc := Aside0.mk hbox; clear BKs HB; have BKs := n0_; have HB := n1_; have GEc := n2_; have NEsc := n3_; clear n0_ n1_ n2_ n3_ hb hbox hg))
  go_loopg [12] 6 (fun kq v12 w' => ∃ (k : Nat) (x : Int), v12 = .int .i64 x ∧ Aside0 (x = (k : Int) ∧ k + kq = 6 ∧ k ≤ 5) ∧ Aside0 (w'.heap[gc]? = some (.cells (ue (cst s k)) 134 (0, 0))) ∧ Aside0 (w'.heap[g]? = some (.cells (ue (s)) 95 (0, 0))) ∧ Aside0 (Below w0.heap.size w0 w'))
  case atStart => exact ⟨0, 0, rfl, ⟨rfl, rfl, by decide⟩, ⟨by (with_reducible repeat (first | refine blk_drewN ?_ _ | refine blk_drew ?_)); exact BKc.out⟩, ⟨by (with_reducible repeat (first | refine blk_drewN ?_ _ | refine blk_drew ?_)); exact BKs.out⟩, ⟨(by repeat (first | exact HB.out | apply Below.drew | apply pw_below_drewN | refine Below.setCell ?_ GEs.out _ | refine Below.setCell ?_ GEc.out _ | refine Below.setCell ?_ GEb.out _))⟩⟩
  case round =>
    clear BKc BKs HB
    obtain ⟨K1, x, rfl, HK1, BKc, BKs, HB⟩ := hrel
    cases gk with
    | zero => exact absurd HK1.out (by omega)
    | succ k1 =>
      by_cases c : K1 < 5
      · have c0 : decide (x < 5) = true := decide_eq_true (by have := HK1.out; omega)
        have HC1 := Aside0.mk c
        clear c
        obtain ⟨x5, hx5, ex5⟩ : ∃ y_, wrap64 (x + 5) = y_ ∧ Aside0 (y_ = ((K1 + 5 : Nat) : Int)) := ⟨_, rfl, ⟨by have := HK1.out; have := HC1.out; have := HS.out; first | (unfold wrap64; omega) | (rw [Int.tmod_eq_emod_of_nonneg (by omega)]; omega)⟩⟩
        obtain ⟨x10, hx10, ex10⟩ : ∃ y_, wrap64 (x + 10) = y_ ∧ Aside0 (y_ = ((K1 + 10 : Nat) : Int)) := ⟨_, rfl, ⟨by simp only [aI] at *; first | (unfold wrap64; omega) | (rw [Int.tmod_eq_emod_of_nonneg (by omega)]; omega)⟩⟩
        obtain ⟨x15, hx15, ex15⟩ : ∃ y_, wrap64 (x + 15) = y_ ∧ Aside0 (y_ = ((K1 + 15 : Nat) : Int)) := ⟨_, rfl, ⟨by simp only [aI] at *; first | (unfold wrap64; omega) | (rw [Int.tmod_eq_emod_of_nonneg (by omega)]; omega)⟩⟩
        obtain ⟨x20, hx20, ex20⟩ : ∃ y_, wrap64 (x + 20) = y_ ∧ Aside0 (y_ = ((K1 + 20 : Nat) : Int)) := ⟨_, rfl, ⟨by simp only [aI] at *; first | (unfold wrap64; omega) | (rw [Int.tmod_eq_emod_of_nonneg (by omega)]; omega)⟩⟩
        have px : (0 ≤ x) = True := eq_true (by simp only [aI] at *; omega)
        have qx_25 : (x < 25) = True := eq_true (by simp only [aI] at *; omega)
        have px : (0 ≤ x) = True := eq_true (by simp only [aI] at *; omega)
        have qx_5 : (x < 5) = True := eq_true (by simp only [aI] at *; omega)
        have px5 : (0 ≤ x5) = True := eq_true (by simp only [aI] at *; omega)
        have qx5_25 : (x5 < 25) = True := eq_true (by simp only [aI] at *; omega)
        have px10 : (0 ≤ x10) = True := eq_true (by simp only [aI] at *; omega)
        have qx10_25 : (x10 < 25) = True := eq_true (by simp only [aI] at *; omega)
        have px15 : (0 ≤ x15) = True := eq_true (by simp only [aI] at *; omega)
        have qx15_25 : (x15 < 25) = True := eq_true (by simp only [aI] at *; omega)
        have px20 : (0 ≤ x20) = True := eq_true (by simp only [aI] at *; omega)
        have qx20_25 : (x20 < 25) = True := eq_true (by simp only [aI] at *; omega)
        have hc0 : wr.cell? ⟨g, x.toNat, none⟩ = some (.int .u64 (ga (s) x.toNat)) := (blk_cell BKs.out _).trans (ue_get (by rw [HS.out]; have := HK1.out; have := HC1.out; have := HS.out; have := ex5.out; have := ex10.out; have := ex15.out; have := ex20.out; omega))
        have hc1 : wr.cell? ⟨g, x5.toNat, none⟩ = some (.int .u64 (ga (s) x5.toNat)) := (blk_cell BKs.out _).trans (ue_get (by rw [HS.out]; have := HK1.out; have := HC1.out; have := HS.out; have := ex5.out; have := ex10.out; have := ex15.out; have := ex20.out; omega))
        have hc2 : wr.cell? ⟨g, x10.toNat, none⟩ = some (.int .u64 (ga (s) x10.toNat)) := (blk_cell BKs.out _).trans (ue_get (by rw [HS.out]; have := HK1.out; have := HC1.out; have := HS.out; have := ex5.out; have := ex10.out; have := ex15.out; have := ex20.out; omega))
        have hc3 : wr.cell? ⟨g, x15.toNat, none⟩ = some (.int .u64 (ga (s) x15.toNat)) := (blk_cell BKs.out _).trans (ue_get (by rw [HS.out]; have := HK1.out; have := HC1.out; have := HS.out; have := ex5.out; have := ex10.out; have := ex15.out; have := ex20.out; omega))
        have hc4 : wr.cell? ⟨g, x20.toNat, none⟩ = some (.int .u64 (ga (s) x20.toNat)) := (blk_cell BKs.out _).trans (ue_get (by rw [HS.out]; have := HK1.out; have := HC1.out; have := HS.out; have := ex5.out; have := ex10.out; have := ex15.out; have := ex20.out; omega))
        have hst : wr.cell? ⟨gc, x.toNat, none⟩ = some (.int .u64 (ga (cst s K1) x.toNat)) := (blk_cell BKc.out _).trans (ue_get (by rw [cst_len]; have := HK1.out; have := HC1.out; have := HS.out; have := ex5.out; have := ex10.out; have := ex15.out; have := ex20.out; omega))
        have hfz : wr.frozen? ⟨gc, x.toNat, none⟩ = false := blk_frozen BKc.out _
        go_wp2
        refine start_ (n := 36) (S := fun w' => w'.cell? ⟨g, x.toNat, none⟩ = some (.int .u64 (ga (s) x.toNat)) ∧ w'.cell? ⟨g, x5.toNat, none⟩ = some (.int .u64 (ga (s) x5.toNat)) ∧ w'.cell? ⟨g, x10.toNat, none⟩ = some (.int .u64 (ga (s) x10.toNat)) ∧ w'.cell? ⟨g, x15.toNat, none⟩ = some (.int .u64 (ga (s) x15.toNat)) ∧ w'.cell? ⟨g, x20.toNat, none⟩ = some (.int .u64 (ga (s) x20.toNat))) (ds := [35]) #[false, false, false, false, false, false, false, false, false, false, false, false, false, false, false, false, false, false, false, false, false, false, false, false, false, false, false, false, false, false, false, false, false, false, false, false] (by kernel_rfl) rfl rfl ⟨hc0, hc1, hc2, hc3, hc4⟩ (fun hHeld => ?_)
        refine with_tabW impl_round.tab4 impl_round.bits4 (fun HT_ HW_ => ?_)
        refine pI 0 (some 15) HT_.out ?_
        refine pI 1 (some 16) HT_.out ?_
        refine pI 2 (some 17) HT_.out ?_
        refine pI 3 (some 18) HT_.out ?_
        refine pI 4 (some 19) HT_.out ?_
        refine pI 6 (some 21) HT_.out ?_
        refine pI 7 (some 22) HT_.out ?_
        refine pI 8 (some 23) HT_.out ?_
        refine pI 9 (some 24) HT_.out ?_
        refine pI 10 (some 25) HT_.out ?_
        refine pI 13 (some 28) HT_.out ?_
        refine pI 14 (some 29) HT_.out ?_
        refine pI 15 (some 30) HT_.out ?_
        refine pI 16 (some 31) HT_.out ?_
        refine pI 17 (some 32) HT_.out ?_
        refine pI 20 (some 35) HT_.out ?_
        refine pI 21 (some 36) HT_.out ?_
        refine pI 22 (some 37) HT_.out ?_
        refine pI 23 (some 38) HT_.out ?_
        refine pI 24 (some 39) HT_.out ?_
        refine pI 27 (some 42) HT_.out ?_
        refine pI 28 (some 43) HT_.out ?_
        refine pI 29 (some 44) HT_.out ?_
        refine pI 30 (some 45) HT_.out ?_
        refine pI 31 (some 46) HT_.out ?_
        refine tI5 5 (some 20) HT_.out HW_.out hHeld ?_
        refine tI5 11 (some 26) HT_.out HW_.out hHeld ?_
        refine pI 12 (some 27) HT_.out ?_
        refine tI5 18 (some 33) HT_.out HW_.out hHeld ?_
        refine pI 19 (some 34) HT_.out ?_
        refine tI5 25 (some 40) HT_.out HW_.out hHeld ?_
        refine pI 26 (some 41) HT_.out ?_
        refine tI5 32 (some 47) HT_.out HW_.out hHeld ?_
        refine pI 33 (some 48) HT_.out ?_
        refine pI 34 (some 49) HT_.out ?_
        refine last_ (i := 35) (N := none) #[true, true, true, true, true, true, true, true, true, true, true, true, true, true, true, true, true, true, true, true, true, true, true, true, true, true, true, true, true, true, true, true, true, true, true, true] rfl rfl (one_of HT_.out (by kernel_rfl)) (by decide) (fun K hK => ?_)
        refine skip_ (w1 := ?_) (by rfl) rfl ?_ ?_
        rotate_left
        · go_simp
          rfl
        refine hK.out _ _ ?_
        clear hK K
        refine done_ (done_of HT_.out (by kernel_rfl)) ?_
        go_wp2
        go_roundg k1
        case measure => omega
        case rel => exact ⟨K1 + 1, _, rfl, ⟨by simp only [aI] at *; first | omega | (unfold wrap64; omega), by simp only [aI] at *; omega, by simp only [aI] at *; omega⟩, ⟨by (with_reducible repeat (first | refine blk_drewN ?_ _ | refine blk_drew ?_)); refine blk_put (cs := ue (cst s K1)) (by (with_reducible repeat (first | refine blk_drewN ?_ _ | refine blk_drew ?_)); exact BKc.out) x.toNat _ ?_; rw [ue_set]; simp only [cst, col]; rw [show x.toNat = K1 by simp only [aI] at *; omega, show x5.toNat = K1 + 5 by simp only [aI] at *; omega, show x10.toNat = K1 + 10 by simp only [aI] at *; omega, show x15.toNat = K1 + 15 by simp only [aI] at *; omega, show x20.toNat = K1 + 20 by simp only [aI] at *; omega]⟩, ⟨by (with_reducible repeat (first | refine blk_drewN ?_ _ | refine blk_drew ?_)); refine blk_far ?_ (p := ⟨gc, _, none⟩) NEsc.out _; (with_reducible repeat (first | refine blk_drewN ?_ _ | refine blk_drew ?_)); exact BKs.out⟩, ⟨(by repeat (first | exact HB.out | apply Below.drew | apply pw_below_drewN | refine Below.setCell ?_ GEs.out _ | refine Below.setCell ?_ GEc.out _ | refine Below.setCell ?_ GEb.out _))⟩⟩
      · have c0 : decide (x < 5) = false := decide_eq_false (by have := HK1.out; omega)
        obtain rfl : K1 = 5 := by have := HK1.out; omega
        clear c HK1
        go_wp2_with (first | ((with_reducible refine gate_dst (N := 6) rfl ?_); refine box_event ?hg (N := 6) ?hd (cs := ue (List.replicate 25 0)) (t := 95) ?hr ?_; (case hd => rfl); (case hg => rfl); (case hr => first | (go_simp; done) | (go_simp; rfl)); intro gb hg w1_ hbox hb; have n0_ := Aside0.mk (blk_below (by (with_reducible repeat (first | refine blk_drewN ?_ _ | refine blk_drew ?_)); exact BKs.out) hb); have n1_ := Aside0.mk (blk_below (by (with_reducible repeat (first | refine blk_drewN ?_ _ | refine blk_drew ?_)); exact BKc.out) hb); have n2_ := Aside0.mk (below_then (show Below w0.heap.size w0 _ by repeat (first | exact HB.out | apply Below.drew | apply pw_below_drewN | refine Below.setCell ?_ GEs.out _ | refine Below.setCell ?_ GEc.out _ | refine Below.setCell ?_ GEb.out _)) (Below.size (show Below w0.heap.size w0 _ by repeat (first | exact HB.out | apply Below.drew | apply pw_below_drewN | refine Below.setCell ?_ GEs.out _ | refine Below.setCell ?_ GEc.out _ | refine Below.setCell ?_ GEb.out _))) hb); have n3_ := Aside0.mk (show w0.heap.size ≤ gb by rw [hg]; exact (Below.size (show Below w0.heap.size w0 _ by repeat (first | exact HB.out | apply Below.drew | apply pw_below_drewN | refine Below.setCell ?_ GEs.out _ | refine Below.setCell ?_ GEc.out _ | refine Below.setCell ?_ GEb.out _)))); have n4_ := Aside0.mk (show g ≠ gb by rw [hg]; exact Nat.ne_of_lt (blk_lt (o := .cells _ _ _) (by (with_reducible repeat (first | refine blk_drewN ?_ _ | refine blk_drew ?_)); exact BKs.out))); have n5_ := Aside0.mk (show gc ≠ gb by rw [hg]; exact Nat.ne_of_lt (blk_lt (o := .cells _ _ _) (by (with_reducible repeat (first | refine blk_drewN ?_ _ | refine blk_drew ?_)); exact BKc.out))); have BKb := Aside0.mk hbox; clear BKs BKc HB; have BKs := n0_; have BKc := n1_; have HB := n2_; have GEb := n3_; have NEsb := n4_; have NEcb := n5_; clear n0_ n1_ n2_ n3_ n4_ n5_ hb hbox hg))
        go_loopg [51] 6 (fun kq v51 w' => ∃ (k : Nat) (x : Int), v51 = .int .i64 x ∧ Aside0 (x = (k : Int) ∧ k + kq = 6 ∧ k ≤ 5) ∧ Aside0 (w'.heap[gc]? = some (.cells (ue (cst s 5)) 134 (0, 0))) ∧ Aside0 (w'.heap[g]? = some (.cells (ue (s)) 95 (0, 0))) ∧ Aside0 (w'.heap[gb]? = some (.cells (ue (bst s (cst s 5) (5 * k))) 95 (0, 0))) ∧ Aside0 (Below w0.heap.size w0 w'))
        case atStart => exact ⟨0, 0, rfl, ⟨rfl, rfl, by decide⟩, ⟨by (with_reducible repeat (first | refine blk_drewN ?_ _ | refine blk_drew ?_)); exact BKc.out⟩, ⟨by (with_reducible repeat (first | refine blk_drewN ?_ _ | refine blk_drew ?_)); exact BKs.out⟩, ⟨by (with_reducible repeat (first | refine blk_drewN ?_ _ | refine blk_drew ?_)); exact BKb.out⟩, ⟨(by repeat (first | exact HB.out | apply Below.drew | apply pw_below_drewN | refine Below.setCell ?_ GEs.out _ | refine Below.setCell ?_ GEc.out _ | refine Below.setCell ?_ GEb.out _))⟩⟩
        case round =>
          clear BKc BKs BKb HB
          clear c0
          obtain ⟨K2, y, rfl, HK2, BKc, BKs, BKb, HB⟩ := hrel
          cases gk with
          | zero => exact absurd HK2.out (by omega)
          | succ k2 =>
            by_cases c : K2 < 5
            · have c0 : decide (y < 5) = true := decide_eq_true (by have := HK2.out; omega)
              have HC2 := Aside0.mk c
              clear c
              go_wp2
              go_loopg [54] 6 (fun kq v54 w' => ∃ (k : Nat) (x : Int), v54 = .int .i64 x ∧ Aside0 (x = (k : Int) ∧ k + kq = 6 ∧ k ≤ 5) ∧ Aside0 (w'.heap[gc]? = some (.cells (ue (cst s 5)) 134 (0, 0))) ∧ Aside0 (w'.heap[g]? = some (.cells (ue (s)) 95 (0, 0))) ∧ Aside0 (w'.heap[gb]? = some (.cells (ue (bst s (cst s 5) (5 * K2 + k))) 95 (0, 0))) ∧ Aside0 (Below w0.heap.size w0 w'))
              case atStart => exact ⟨0, 0, rfl, ⟨rfl, rfl, by decide⟩, ⟨by (with_reducible repeat (first | refine blk_drewN ?_ _ | refine blk_drew ?_)); exact BKc.out⟩, ⟨by (with_reducible repeat (first | refine blk_drewN ?_ _ | refine blk_drew ?_)); exact BKs.out⟩, ⟨by (with_reducible repeat (first | refine blk_drewN ?_ _ | refine blk_drew ?_)); exact BKb.out⟩, ⟨(by repeat (first | exact HB.out | apply Below.drew | apply pw_below_drewN | refine Below.setCell ?_ GEs.out _ | refine Below.setCell ?_ GEc.out _ | refine Below.setCell ?_ GEb.out _))⟩⟩
              case round =>
                clear BKc BKs BKb HB
                clear c0
                obtain ⟨K3, x, rfl, HK3, BKc, BKs, BKb, HB⟩ := hrel
                cases gk with
                | zero => exact absurd HK3.out (by omega)
                | succ k3 =>
                  by_cases c : K3 < 5
                  · have c0 : decide (x < 5) = true := decide_eq_true (by have := HK3.out; omega)
                    have HC3 := Aside0.mk c
                    clear c
                    obtain ⟨a1, ha1, ea1⟩ : ∃ y_, wrap64 (x + 4) = y_ ∧ Aside0 (y_ = ((K3 + 4 : Nat) : Int)) := ⟨_, rfl, ⟨by simp only [aI] at *; first | (unfold wrap64; omega) | (rw [Int.tmod_eq_emod_of_nonneg (by omega)]; omega)⟩⟩
                    obtain ⟨a2, ha2, ea2⟩ : ∃ y_, Int.tmod a1 5 = y_ ∧ Aside0 (y_ = (((K3 + 4) % 5 : Nat) : Int)) := ⟨_, rfl, ⟨by simp only [aI] at *; first | (unfold wrap64; omega) | (rw [Int.tmod_eq_emod_of_nonneg (by omega)]; omega)⟩⟩
                    obtain ⟨b1, hb1, eb1⟩ : ∃ y_, wrap64 (x + 1) = y_ ∧ Aside0 (y_ = ((K3 + 1 : Nat) : Int)) := ⟨_, rfl, ⟨by simp only [aI] at *; first | (unfold wrap64; omega) | (rw [Int.tmod_eq_emod_of_nonneg (by omega)]; omega)⟩⟩
                    obtain ⟨b2, hb2, eb2⟩ : ∃ y_, Int.tmod b1 5 = y_ ∧ Aside0 (y_ = (((K3 + 1) % 5 : Nat) : Int)) := ⟨_, rfl, ⟨by simp only [aI] at *; first | (unfold wrap64; omega) | (rw [Int.tmod_eq_emod_of_nonneg (by omega)]; omega)⟩⟩
                    have pa2 : (0 ≤ a2) = True := eq_true (by simp only [aI] at *; omega)
                    have qa2_5 : (a2 < 5) = True := eq_true (by simp only [aI] at *; omega)
                    have pb2 : (0 ≤ b2) = True := eq_true (by simp only [aI] at *; omega)
                    have qb2_5 : (b2 < 5) = True := eq_true (by simp only [aI] at *; omega)
                    have hc0 : wr.cell? ⟨gc, a2.toNat, none⟩ = some (.int .u64 (ga (cst s 5) a2.toNat)) := (blk_cell BKc.out _).trans (ue_get (by rw [cst_len]; have := HK2.out; have := HC2.out; have := HK3.out; have := HC3.out; have := HS.out; have := ea1.out; have := ea2.out; have := eb1.out; have := eb2.out; omega))
                    have hc1 : wr.cell? ⟨gc, b2.toNat, none⟩ = some (.int .u64 (ga (cst s 5) b2.toNat)) := (blk_cell BKc.out _).trans (ue_get (by rw [cst_len]; have := HK2.out; have := HC2.out; have := HK3.out; have := HC3.out; have := HS.out; have := ea1.out; have := ea2.out; have := eb1.out; have := eb2.out; omega))
                    have HR := rot_f (v := ga (cst s 5) b2.toNat) rok_one
                    have HRa := Aside0.mk HR
                    clear HR
                    go_wp2
                    refine start_ (n := 13) (S := fun w' => w'.cell? ⟨gc, a2.toNat, none⟩ = some (.int .u64 (ga (cst s 5) a2.toNat)) ∧ w'.cell? ⟨gc, b2.toNat, none⟩ = some (.int .u64 (ga (cst s 5) b2.toNat))) (ds := []) #[false, false, false, false, false, false, false, false, false, false, false, false, false] (by kernel_rfl) rfl rfl ⟨hc0, hc1⟩ (fun hHeld => ?_)
                    refine with_tabW impl_round.tab13 impl_round.bits13 (fun HT_ HW_ => ?_)
                    refine pI 0 (some 57) HT_.out ?_
                    refine pI 1 (some 58) HT_.out ?_
                    refine pI 2 (some 59) HT_.out ?_
                    refine pI 3 (some 60) HT_.out ?_
                    refine pI 5 (some 62) HT_.out ?_
                    refine pI 6 (some 63) HT_.out ?_
                    refine pI 7 (some 64) HT_.out ?_
                    refine pI 8 (some 65) HT_.out ?_
                    refine tI2 4 (some 61) HT_.out HW_.out hHeld ?_
                    refine tI2 9 (some 66) HT_.out HW_.out hHeld ?_
                    refine oI 10 (some 67) HT_.out (fun K hK => ?_)
                    refine goes_ Tryz.func152 (by kernel_rfl) rfl #[.int .u64 (ga (cst s 5) b2.toNat), .int .i64 (1)] (by rfl) rfl rfl (by simp only [List.map_toArray, List.map_cons, List.map_nil]; rfl) ?_
                    with_reducible refine (bits_RotateLeft64.calls _ _ _ _ HRa.out).mono ?_
                    rintro e w3_ ⟨rfl, ⟨nd, rfl⟩⟩
                    refine ⟨_, rfl, ?_⟩
                    refine hK.out _ _ ⟨(by exact hHeld.1), (by exact hHeld.2)⟩ (fun hHeld => ?_)
                    clear hK K
                    refine nO (some 67) ?_
                    refine pI 11 (some 68) HT_.out ?_
                    refine pI 12 (some 9) HT_.out ?_
                    refine done_ (done_of HT_.out (by kernel_rfl)) ?_
                    obtain ⟨m1, hm1, em1⟩ : ∃ y_, wrap64 (2 * x) = y_ ∧ Aside0 (y_ = ((2 * K3 : Nat) : Int)) := ⟨_, rfl, ⟨by simp only [aI] at *; first | (unfold wrap64; omega) | (rw [Int.tmod_eq_emod_of_nonneg (by omega)]; omega)⟩⟩
                    obtain ⟨m2, hm2, em2⟩ : ∃ y_, wrap64 (3 * y) = y_ ∧ Aside0 (y_ = ((3 * K2 : Nat) : Int)) := ⟨_, rfl, ⟨by simp only [aI] at *; first | (unfold wrap64; omega) | (rw [Int.tmod_eq_emod_of_nonneg (by omega)]; omega)⟩⟩
                    obtain ⟨m3, hm3, em3⟩ : ∃ y_, wrap64 (m1 + m2) = y_ ∧ Aside0 (y_ = ((2 * K3 + 3 * K2 : Nat) : Int)) := ⟨_, rfl, ⟨by simp only [aI] at *; first | (unfold wrap64; omega) | (rw [Int.tmod_eq_emod_of_nonneg (by omega)]; omega)⟩⟩
                    obtain ⟨m4, hm4, em4⟩ : ∃ y_, Int.tmod m3 5 = y_ ∧ Aside0 (y_ = (((2 * K3 + 3 * K2) % 5 : Nat) : Int)) := ⟨_, rfl, ⟨by simp only [aI] at *; first | (unfold wrap64; omega) | (rw [Int.tmod_eq_emod_of_nonneg (by omega)]; omega)⟩⟩
                    obtain ⟨m5, hm5, em5⟩ : ∃ y_, wrap64 (5 * m4) = y_ ∧ Aside0 (y_ = ((5 * ((2 * K3 + 3 * K2) % 5) : Nat) : Int)) := ⟨_, rfl, ⟨by simp only [aI] at *; first | (unfold wrap64; omega) | (rw [Int.tmod_eq_emod_of_nonneg (by omega)]; omega)⟩⟩
                    obtain ⟨m6, hm6, em6⟩ : ∃ y_, wrap64 (y + m5) = y_ ∧ Aside0 (y_ = ((K2 + 5 * ((2 * K3 + 3 * K2) % 5) : Nat) : Int)) := ⟨_, rfl, ⟨by simp only [aI] at *; first | (unfold wrap64; omega) | (rw [Int.tmod_eq_emod_of_nonneg (by omega)]; omega)⟩⟩
                    obtain ⟨z1, hz1, ez1⟩ : ∃ y_, wrap64 (5 * y) = y_ ∧ Aside0 (y_ = ((5 * K2 : Nat) : Int)) := ⟨_, rfl, ⟨by simp only [aI] at *; first | (unfold wrap64; omega) | (rw [Int.tmod_eq_emod_of_nonneg (by omega)]; omega)⟩⟩
                    obtain ⟨z2, hz2, ez2⟩ : ∃ y_, wrap64 (x + z1) = y_ ∧ Aside0 (y_ = ((K3 + 5 * K2 : Nat) : Int)) := ⟨_, rfl, ⟨by simp only [aI] at *; first | (unfold wrap64; omega) | (rw [Int.tmod_eq_emod_of_nonneg (by omega)]; omega)⟩⟩
                    have pm6 : (0 ≤ m6) = True := eq_true (by simp only [aI] at *; omega)
                    have qm6_25 : (m6 < 25) = True := eq_true (by simp only [aI] at *; omega)
                    have pz2 : (0 ≤ z2) = True := eq_true (by simp only [aI] at *; omega)
                    have qz2_25 : (z2 < 25) = True := eq_true (by simp only [aI] at *; omega)
                    have hd0 : wr.cell? ⟨g, z2.toNat, none⟩ = some (.int .u64 (ga (s) z2.toNat)) := (blk_cell BKs.out _).trans (ue_get (by rw [HS.out]; have := HK2.out; have := HC2.out; have := HK3.out; have := HC3.out; have := HS.out; have := ea1.out; have := ea2.out; have := eb1.out; have := eb2.out; have := em1.out; have := em2.out; have := em3.out; have := em4.out; have := em5.out; have := em6.out; have := ez1.out; have := ez2.out; omega))
                    have hd1 : wr.cell? ⟨0, z2.toNat, none⟩ = some (.int .i64 (ga turnsL z2.toNat)) := (HB.out.cell (p := ⟨0, z2.toNat, none⟩) HT.out.s.1).trans (HT.out.t _ (by simp only [aI] at *; omega))
                    have hst : wr.cell? ⟨gb, m6.toNat, none⟩ = some (.int .u64 (ga (bst s (cst s 5) (5 * K2 + K3)) m6.toNat)) := (blk_cell BKb.out _).trans (ue_get (by rw [bst_len]; have := HK2.out; have := HC2.out; have := HK3.out; have := HC3.out; have := HS.out; have := ea1.out; have := ea2.out; have := eb1.out; have := eb2.out; have := em1.out; have := em2.out; have := em3.out; have := em4.out; have := em5.out; have := em6.out; have := ez1.out; have := ez2.out; omega))
                    have hfz : wr.frozen? ⟨gb, m6.toNat, none⟩ = false := blk_frozen BKb.out _
                    have hz25 : z2.toNat < 25 := by simp only [aI] at *; omega
                    have HR := rot_f (v := Go.bits .xor .u64 (ga s z2.toNat) (Go.bits .xor .u64 (ga (cst s 5) a2.toNat) (rl (ga (cst s 5) b2.toNat) 1))) (rok_turns ⟨z2.toNat, hz25⟩)
                    have HRb := Aside0.mk (show bits_RotateLeft64.f (Go.bits .xor .u64 (ga s z2.toNat) (Go.bits .xor .u64 (ga (cst s 5) a2.toNat) (rl (ga (cst s 5) b2.toNat) 1))) (ga turnsL z2.toNat) = some (rl (Go.bits .xor .u64 (ga s z2.toNat) (Go.bits .xor .u64 (ga (cst s 5) a2.toNat) (rl (ga (cst s 5) b2.toNat) 1))) (ga turnsL z2.toNat)) from HR)
                    clear HR hz25
                    go_wp2
                    refine start_ (n := 28) (S := fun w' => w'.cell? ⟨g, z2.toNat, none⟩ = some (.int .u64 (ga (s) z2.toNat)) ∧ w'.cell? ⟨0, z2.toNat, none⟩ = some (.int .i64 (ga turnsL z2.toNat))) (ds := [27]) #[false, false, false, false, false, false, false, false, false, false, false, false, false, false, false, false, false, false, false, false, false, false, false, false, false, false, false, false] (by kernel_rfl) rfl rfl ⟨(by exact hd0), (by exact hd1)⟩ (fun hHeld => ?_)
                    refine with_tabW impl_round.tab14 impl_round.bits14 (fun HT_ HW_ => ?_)
                    refine pI 0 (some 69) HT_.out ?_
                    refine pI 1 (some 70) HT_.out ?_
                    refine pI 2 (some 71) HT_.out ?_
                    refine pI 3 (some 72) HT_.out ?_
                    refine pI 4 (some 73) HT_.out ?_
                    refine pI 5 (some 74) HT_.out ?_
                    refine pI 6 (some 75) HT_.out ?_
                    refine pI 7 (some 76) HT_.out ?_
                    refine pI 8 (some 77) HT_.out ?_
                    refine pI 9 (some 78) HT_.out ?_
                    refine pI 10 (some 79) HT_.out ?_
                    refine pI 11 (some 80) HT_.out ?_
                    refine pI 12 (some 81) HT_.out ?_
                    refine pI 13 (some 82) HT_.out ?_
                    refine pI 14 (some 83) HT_.out ?_
                    refine pI 15 (some 84) HT_.out ?_
                    refine pI 17 (some 86) HT_.out ?_
                    refine pI 19 (some 88) HT_.out ?_
                    refine pI 20 (some 89) HT_.out ?_
                    refine pI 21 (some 90) HT_.out ?_
                    refine pI 22 (some 91) HT_.out ?_
                    refine pI 23 (some 92) HT_.out ?_
                    refine tI2 16 (some 85) HT_.out HW_.out hHeld ?_
                    refine pI 18 (some 87) HT_.out ?_
                    refine tI2 24 (some 93) HT_.out HW_.out hHeld ?_
                    refine oI 25 (some 94) HT_.out (fun K hK => ?_)
                    refine goes_ Tryz.func152 (by kernel_rfl) rfl #[.int .u64 (Go.bits .xor .u64 (ga s z2.toNat) (Go.bits .xor .u64 (ga (cst s 5) a2.toNat) (rl (ga (cst s 5) b2.toNat) 1))), .int .i64 (ga turnsL z2.toNat)] (by rfl) rfl rfl (by simp only [List.map_toArray, List.map_cons, List.map_nil]; rfl) ?_
                    with_reducible refine (bits_RotateLeft64.calls _ _ _ _ HRb.out).mono ?_
                    rintro e w3_ ⟨rfl, ⟨nd, rfl⟩⟩
                    refine ⟨_, rfl, ?_⟩
                    refine hK.out _ _ ⟨(by exact hHeld.1), (by exact hHeld.2)⟩ (fun hHeld => ?_)
                    clear hK K
                    refine nO (some 94) ?_
                    refine pI 26 (some 95) HT_.out ?_
                    refine last_ (i := 27) (N := none) #[true, true, true, true, true, true, true, true, true, true, true, true, true, true, true, true, true, true, true, true, true, true, true, true, true, true, true, true] rfl rfl (one_of HT_.out (by kernel_rfl)) (by decide) (fun K hK => ?_)
                    refine skip_ (w1 := ?_) (by rfl) rfl ?_ ?_
                    rotate_left
                    · go_simp
                      rfl
                    refine hK.out _ _ ?_
                    clear hK K
                    refine done_ (done_of HT_.out (by kernel_rfl)) ?_
                    go_wp2
                    go_roundg k3
                    case measure => omega
                    case rel => exact ⟨K3 + 1, _, rfl, ⟨by simp only [aI] at *; first | omega | (unfold wrap64; omega), by simp only [aI] at *; omega, by simp only [aI] at *; omega⟩, ⟨by (with_reducible repeat (first | refine blk_drewN ?_ _ | refine blk_drew ?_)); refine blk_far ?_ (p := ⟨gb, _, none⟩) NEcb.out _; (with_reducible repeat (first | refine blk_drewN ?_ _ | refine blk_drew ?_)); exact BKc.out⟩, ⟨by (with_reducible repeat (first | refine blk_drewN ?_ _ | refine blk_drew ?_)); refine blk_far ?_ (p := ⟨gb, _, none⟩) NEsb.out _; (with_reducible repeat (first | refine blk_drewN ?_ _ | refine blk_drew ?_)); exact BKs.out⟩, ⟨by (with_reducible repeat (first | refine blk_drewN ?_ _ | refine blk_drew ?_)); refine blk_put (cs := ue (bst s (cst s 5) (5 * K2 + K3))) (by (with_reducible repeat (first | refine blk_drewN ?_ _ | refine blk_drew ?_)); exact BKb.out) m6.toNat _ ?_; rw [ue_set, bst_succ s _ (by simp only [aI] at *; omega)]; simp only [bat, dd]; rw [show m6.toNat = K2 + 5 * ((2 * K3 + 3 * K2) % 5) by simp only [aI] at *; omega, show z2.toNat = K3 + 5 * K2 by simp only [aI] at *; omega, show a2.toNat = (K3 + 4) % 5 by simp only [aI] at *; omega, show b2.toNat = (K3 + 1) % 5 by simp only [aI] at *; omega]⟩, ⟨(by repeat (first | exact HB.out | apply Below.drew | apply pw_below_drewN | refine Below.setCell ?_ GEs.out _ | refine Below.setCell ?_ GEc.out _ | refine Below.setCell ?_ GEb.out _))⟩⟩
                  · have c0 : decide (x < 5) = false := decide_eq_false (by have := HK3.out; omega)
                    obtain rfl : K3 = 5 := by have := HK3.out; omega
                    clear c HK3
                    go_wp2
                    go_roundg k2
                    case measure => omega
                    case rel => exact ⟨K2 + 1, _, rfl, ⟨by have := HK2.out; have := HC2.out; first | omega | (unfold wrap64; omega), by have := HK2.out; have := HC2.out; omega, by have := HK2.out; have := HC2.out; omega⟩, ⟨by (with_reducible repeat (first | refine blk_drewN ?_ _ | refine blk_drew ?_)); exact BKc.out⟩, ⟨by (with_reducible repeat (first | refine blk_drewN ?_ _ | refine blk_drew ?_)); exact BKs.out⟩, ⟨by rw [show 5 * (K2 + 1) = 5 * K2 + 5 by omega]; (with_reducible repeat (first | refine blk_drewN ?_ _ | refine blk_drew ?_)); exact BKb.out⟩, ⟨(by repeat (first | exact HB.out | apply Below.drew | apply pw_below_drewN | refine Below.setCell ?_ GEs.out _ | refine Below.setCell ?_ GEc.out _ | refine Below.setCell ?_ GEb.out _))⟩⟩
            · have c0 : decide (y < 5) = false := decide_eq_false (by have := HK2.out; omega)
              obtain rfl : K2 = 5 := by have := HK2.out; omega
              clear c HK2
              go_wp2
              go_loopg [98] 6 (fun kq v98 w' => ∃ (k : Nat) (x : Int), v98 = .int .i64 x ∧ Aside0 (x = (k : Int) ∧ k + kq = 6 ∧ k ≤ 5) ∧ Aside0 (w'.heap[g]? = some (.cells (ue (sst s (bst s (cst s 5) 25) (5 * k))) 95 (0, 0))) ∧ Aside0 (w'.heap[gb]? = some (.cells (ue (bst s (cst s 5) 25)) 95 (0, 0))) ∧ Aside0 (Below w0.heap.size w0 w'))
              case atStart => exact ⟨0, 0, rfl, ⟨rfl, rfl, by decide⟩, ⟨by (with_reducible repeat (first | refine blk_drewN ?_ _ | refine blk_drew ?_)); exact BKs.out⟩, ⟨by (with_reducible repeat (first | refine blk_drewN ?_ _ | refine blk_drew ?_)); exact BKb.out⟩, ⟨(by repeat (first | exact HB.out | apply Below.drew | apply pw_below_drewN | refine Below.setCell ?_ GEs.out _ | refine Below.setCell ?_ GEc.out _ | refine Below.setCell ?_ GEb.out _))⟩⟩
              case round =>
                clear BKc BKs BKb HB
                clear c0
                obtain ⟨K2, y, rfl, HK2, BKs, BKb, HB⟩ := hrel
                cases gk with
                | zero => exact absurd HK2.out (by omega)
                | succ k2 =>
                  by_cases c : K2 < 5
                  · have c0 : decide (y < 5) = true := decide_eq_true (by have := HK2.out; omega)
                    have HC2 := Aside0.mk c
                    clear c
                    go_wp2
                    go_loopg [101] 6 (fun kq v101 w' => ∃ (k : Nat) (x : Int), v101 = .int .i64 x ∧ Aside0 (x = (k : Int) ∧ k + kq = 6 ∧ k ≤ 5) ∧ Aside0 (w'.heap[g]? = some (.cells (ue (sst s (bst s (cst s 5) 25) (5 * K2 + k))) 95 (0, 0))) ∧ Aside0 (w'.heap[gb]? = some (.cells (ue (bst s (cst s 5) 25)) 95 (0, 0))) ∧ Aside0 (Below w0.heap.size w0 w'))
                    case atStart => exact ⟨0, 0, rfl, ⟨rfl, rfl, by decide⟩, ⟨by (with_reducible repeat (first | refine blk_drewN ?_ _ | refine blk_drew ?_)); exact BKs.out⟩, ⟨by (with_reducible repeat (first | refine blk_drewN ?_ _ | refine blk_drew ?_)); exact BKb.out⟩, ⟨(by repeat (first | exact HB.out | apply Below.drew | apply pw_below_drewN | refine Below.setCell ?_ GEs.out _ | refine Below.setCell ?_ GEc.out _ | refine Below.setCell ?_ GEb.out _))⟩⟩
                    case round =>
                      clear BKs BKb HB
                      clear c0
                      obtain ⟨K3, x, rfl, HK3, BKs, BKb, HB⟩ := hrel
                      cases gk with
                      | zero => exact absurd HK3.out (by omega)
                      | succ k3 =>
                        by_cases c : K3 < 5
                        · have c0 : decide (x < 5) = true := decide_eq_true (by have := HK3.out; omega)
                          have HC3 := Aside0.mk c
                          clear c
                          obtain ⟨z1, hz1, ez1⟩ : ∃ y_, wrap64 (5 * y) = y_ ∧ Aside0 (y_ = ((5 * K2 : Nat) : Int)) := ⟨_, rfl, ⟨by simp only [aI] at *; first | (unfold wrap64; omega) | (rw [Int.tmod_eq_emod_of_nonneg (by omega)]; omega)⟩⟩
                          obtain ⟨z2, hz2, ez2⟩ : ∃ y_, wrap64 (x + z1) = y_ ∧ Aside0 (y_ = ((K3 + 5 * K2 : Nat) : Int)) := ⟨_, rfl, ⟨by simp only [aI] at *; first | (unfold wrap64; omega) | (rw [Int.tmod_eq_emod_of_nonneg (by omega)]; omega)⟩⟩
                          obtain ⟨c1, hc1, ec1⟩ : ∃ y_, wrap64 (x + 1) = y_ ∧ Aside0 (y_ = ((K3 + 1 : Nat) : Int)) := ⟨_, rfl, ⟨by simp only [aI] at *; first | (unfold wrap64; omega) | (rw [Int.tmod_eq_emod_of_nonneg (by omega)]; omega)⟩⟩
                          obtain ⟨c2, hc2, ec2⟩ : ∃ y_, Int.tmod c1 5 = y_ ∧ Aside0 (y_ = (((K3 + 1) % 5 : Nat) : Int)) := ⟨_, rfl, ⟨by simp only [aI] at *; first | (unfold wrap64; omega) | (rw [Int.tmod_eq_emod_of_nonneg (by omega)]; omega)⟩⟩
                          obtain ⟨c3, hc3, ec3⟩ : ∃ y_, wrap64 (c2 + z1) = y_ ∧ Aside0 (y_ = (((K3 + 1) % 5 + 5 * K2 : Nat) : Int)) := ⟨_, rfl, ⟨by simp only [aI] at *; first | (unfold wrap64; omega) | (rw [Int.tmod_eq_emod_of_nonneg (by omega)]; omega)⟩⟩
                          obtain ⟨d1, hd1, ed1⟩ : ∃ y_, wrap64 (x + 2) = y_ ∧ Aside0 (y_ = ((K3 + 2 : Nat) : Int)) := ⟨_, rfl, ⟨by simp only [aI] at *; first | (unfold wrap64; omega) | (rw [Int.tmod_eq_emod_of_nonneg (by omega)]; omega)⟩⟩
                          obtain ⟨d2, hd2, ed2⟩ : ∃ y_, Int.tmod d1 5 = y_ ∧ Aside0 (y_ = (((K3 + 2) % 5 : Nat) : Int)) := ⟨_, rfl, ⟨by simp only [aI] at *; first | (unfold wrap64; omega) | (rw [Int.tmod_eq_emod_of_nonneg (by omega)]; omega)⟩⟩
                          obtain ⟨d3, hd3, ed3⟩ : ∃ y_, wrap64 (d2 + z1) = y_ ∧ Aside0 (y_ = (((K3 + 2) % 5 + 5 * K2 : Nat) : Int)) := ⟨_, rfl, ⟨by simp only [aI] at *; first | (unfold wrap64; omega) | (rw [Int.tmod_eq_emod_of_nonneg (by omega)]; omega)⟩⟩
                          have pz2 : (0 ≤ z2) = True := eq_true (by simp only [aI] at *; omega)
                          have qz2_25 : (z2 < 25) = True := eq_true (by simp only [aI] at *; omega)
                          have pc3 : (0 ≤ c3) = True := eq_true (by simp only [aI] at *; omega)
                          have qc3_25 : (c3 < 25) = True := eq_true (by simp only [aI] at *; omega)
                          have pd3 : (0 ≤ d3) = True := eq_true (by simp only [aI] at *; omega)
                          have qd3_25 : (d3 < 25) = True := eq_true (by simp only [aI] at *; omega)
                          have hc0 : wr.cell? ⟨gb, z2.toNat, none⟩ = some (.int .u64 (ga (bst s (cst s 5) 25) z2.toNat)) := (blk_cell BKb.out _).trans (ue_get (by rw [bst_len]; have := HK2.out; have := HC2.out; have := HK3.out; have := HC3.out; have := HS.out; have := ez1.out; have := ez2.out; have := ec1.out; have := ec2.out; have := ec3.out; have := ed1.out; have := ed2.out; have := ed3.out; omega))
                          have hc1 : wr.cell? ⟨gb, c3.toNat, none⟩ = some (.int .u64 (ga (bst s (cst s 5) 25) c3.toNat)) := (blk_cell BKb.out _).trans (ue_get (by rw [bst_len]; have := HK2.out; have := HC2.out; have := HK3.out; have := HC3.out; have := HS.out; have := ez1.out; have := ez2.out; have := ec1.out; have := ec2.out; have := ec3.out; have := ed1.out; have := ed2.out; have := ed3.out; omega))
                          have hc2 : wr.cell? ⟨gb, d3.toNat, none⟩ = some (.int .u64 (ga (bst s (cst s 5) 25) d3.toNat)) := (blk_cell BKb.out _).trans (ue_get (by rw [bst_len]; have := HK2.out; have := HC2.out; have := HK3.out; have := HC3.out; have := HS.out; have := ez1.out; have := ez2.out; have := ec1.out; have := ec2.out; have := ec3.out; have := ed1.out; have := ed2.out; have := ed3.out; omega))
                          have hst : wr.cell? ⟨g, z2.toNat, none⟩ = some (.int .u64 (ga (sst s (bst s (cst s 5) 25) (5 * K2 + K3)) z2.toNat)) := (blk_cell BKs.out _).trans (ue_get (by rw [sst_len]; have := HK2.out; have := HC2.out; have := HK3.out; have := HC3.out; have := HS.out; have := ez1.out; have := ez2.out; have := ec1.out; have := ec2.out; have := ec3.out; have := ed1.out; have := ed2.out; have := ed3.out; omega))
                          have hfz : wr.frozen? ⟨g, z2.toNat, none⟩ = false := blk_frozen BKs.out _
                          go_wp2
                          refine start_ (n := 33) (S := fun w' => w'.cell? ⟨gb, z2.toNat, none⟩ = some (.int .u64 (ga (bst s (cst s 5) 25) z2.toNat)) ∧ w'.cell? ⟨gb, c3.toNat, none⟩ = some (.int .u64 (ga (bst s (cst s 5) 25) c3.toNat)) ∧ w'.cell? ⟨gb, d3.toNat, none⟩ = some (.int .u64 (ga (bst s (cst s 5) 25) d3.toNat))) (ds := [32]) #[false, false, false, false, false, false, false, false, false, false, false, false, false, false, false, false, false, false, false, false, false, false, false, false, false, false, false, false, false, false, false, false, false] (by kernel_rfl) rfl rfl ⟨hc0, hc1, hc2⟩ (fun hHeld => ?_)
                          refine with_tabW impl_round.tab23 impl_round.bits23 (fun HT_ HW_ => ?_)
                          refine pI 0 (some 104) HT_.out ?_
                          refine pI 1 (some 105) HT_.out ?_
                          refine pI 2 (some 106) HT_.out ?_
                          refine pI 3 (some 107) HT_.out ?_
                          refine pI 4 (some 108) HT_.out ?_
                          refine pI 5 (some 109) HT_.out ?_
                          refine pI 6 (some 110) HT_.out ?_
                          refine pI 7 (some 111) HT_.out ?_
                          refine pI 8 (some 112) HT_.out ?_
                          refine pI 9 (some 113) HT_.out ?_
                          refine pI 11 (some 115) HT_.out ?_
                          refine pI 12 (some 116) HT_.out ?_
                          refine pI 13 (some 117) HT_.out ?_
                          refine pI 14 (some 118) HT_.out ?_
                          refine pI 15 (some 119) HT_.out ?_
                          refine pI 16 (some 120) HT_.out ?_
                          refine pI 17 (some 121) HT_.out ?_
                          refine pI 20 (some 124) HT_.out ?_
                          refine pI 21 (some 125) HT_.out ?_
                          refine pI 22 (some 126) HT_.out ?_
                          refine pI 23 (some 127) HT_.out ?_
                          refine pI 24 (some 128) HT_.out ?_
                          refine pI 25 (some 129) HT_.out ?_
                          refine pI 26 (some 130) HT_.out ?_
                          refine pI 30 (some 134) HT_.out ?_
                          refine tI3 10 (some 114) HT_.out HW_.out hHeld ?_
                          refine tI3 18 (some 122) HT_.out HW_.out hHeld ?_
                          refine pI 19 (some 123) HT_.out ?_
                          refine tI3 27 (some 131) HT_.out HW_.out hHeld ?_
                          refine pI 28 (some 132) HT_.out ?_
                          refine pI 29 (some 133) HT_.out ?_
                          refine pI 31 (some 135) HT_.out ?_
                          refine last_ (i := 32) (N := none) #[true, true, true, true, true, true, true, true, true, true, true, true, true, true, true, true, true, true, true, true, true, true, true, true, true, true, true, true, true, true, true, true, true] rfl rfl (one_of HT_.out (by kernel_rfl)) (by decide) (fun K hK => ?_)
                          refine skip_ (w1 := ?_) (by rfl) rfl ?_ ?_
                          rotate_left
                          · go_simp
                            rfl
                          refine hK.out _ _ ?_
                          clear hK K
                          refine done_ (done_of HT_.out (by kernel_rfl)) ?_
                          go_wp2
                          go_roundg k3
                          case measure => omega
                          case rel => exact ⟨K3 + 1, _, rfl, ⟨by simp only [aI] at *; first | omega | (unfold wrap64; omega), by simp only [aI] at *; omega, by simp only [aI] at *; omega⟩, ⟨by (with_reducible repeat (first | refine blk_drewN ?_ _ | refine blk_drew ?_)); refine blk_put (cs := ue (sst s (bst s (cst s 5) 25) (5 * K2 + K3))) (by (with_reducible repeat (first | refine blk_drewN ?_ _ | refine blk_drew ?_)); exact BKs.out) z2.toNat _ ?_; rw [ue_set, sst_succ s _ (by simp only [aI] at *; omega)]; simp only [chi, u64not]; rw [show z2.toNat = K3 + 5 * K2 by simp only [aI] at *; omega, show c3.toNat = (K3 + 1) % 5 + 5 * K2 by simp only [aI] at *; omega, show d3.toNat = (K3 + 2) % 5 + 5 * K2 by simp only [aI] at *; omega]⟩, ⟨by (with_reducible repeat (first | refine blk_drewN ?_ _ | refine blk_drew ?_)); refine blk_far ?_ (p := ⟨g, _, none⟩) NEsb.out.symm _; (with_reducible repeat (first | refine blk_drewN ?_ _ | refine blk_drew ?_)); exact BKb.out⟩, ⟨(by repeat (first | exact HB.out | apply Below.drew | apply pw_below_drewN | refine Below.setCell ?_ GEs.out _ | refine Below.setCell ?_ GEc.out _ | refine Below.setCell ?_ GEb.out _))⟩⟩
                        · have c0 : decide (x < 5) = false := decide_eq_false (by have := HK3.out; omega)
                          obtain rfl : K3 = 5 := by have := HK3.out; omega
                          clear c HK3
                          go_wp2
                          go_roundg k2
                          case measure => omega
                          case rel => exact ⟨K2 + 1, _, rfl, ⟨by have := HK2.out; have := HC2.out; first | omega | (unfold wrap64; omega), by have := HK2.out; have := HC2.out; omega, by have := HK2.out; have := HC2.out; omega⟩, ⟨by rw [show 5 * (K2 + 1) = 5 * K2 + 5 by omega]; (with_reducible repeat (first | refine blk_drewN ?_ _ | refine blk_drew ?_)); exact BKs.out⟩, ⟨by (with_reducible repeat (first | refine blk_drewN ?_ _ | refine blk_drew ?_)); exact BKb.out⟩, ⟨(by repeat (first | exact HB.out | apply Below.drew | apply pw_below_drewN | refine Below.setCell ?_ GEs.out _ | refine Below.setCell ?_ GEc.out _ | refine Below.setCell ?_ GEb.out _))⟩⟩
                  · have c0 : decide (y < 5) = false := decide_eq_false (by have := HK2.out; omega)
                    obtain rfl : K2 = 5 := by have := HK2.out; omega
                    clear c HK2
                    have pn : (0 ≤ n) = True := eq_true HN.out.1
                    have qn : (n < 24) = True := eq_true HN.out.2
                    have hc0 : wr.cell? ⟨g, 0, none⟩ = some (.int .u64 (ga (sst s (bst s (cst s 5) 25) 25) 0)) := (blk_cell BKs.out _).trans (ue_get (by rw [sst_len, HS.out]; decide))
                    have hc1 : wr.cell? ⟨1, n.toNat, none⟩ = some (.int .u64 (ga rcL n.toNat)) := (HB.out.cell (p := ⟨1, n.toNat, none⟩) HT.out.s.2).trans (HT.out.r _ (by have := HN.out; omega))
                    have hfz : wr.frozen? ⟨g, 0, none⟩ = false := blk_frozen BKs.out _
                    go_wp2
                    refine start_ (n := 11) (S := fun w' => w'.cell? ⟨g, 0, none⟩ = some (.int .u64 (ga (sst s (bst s (cst s 5) 25) 25) 0)) ∧ w'.cell? ⟨1, n.toNat, none⟩ = some (.int .u64 (ga rcL n.toNat))) (ds := [10]) #[false, false, false, false, false, false, false, false, false, false, false] (by kernel_rfl) rfl rfl ⟨hc0, hc1⟩ (fun hHeld => ?_)
                    refine with_tabW impl_round.tab26 impl_round.bits26 (fun HT_ HW_ => ?_)
                    refine pI 0 (some 138) HT_.out ?_
                    refine pI 1 (some 139) HT_.out ?_
                    refine pI 2 (some 140) HT_.out ?_
                    refine pI 4 (some 142) HT_.out ?_
                    refine pI 5 (some 143) HT_.out ?_
                    refine pI 8 (some 146) HT_.out ?_
                    refine tI2 3 (some 141) HT_.out HW_.out hHeld ?_
                    refine tI2 6 (some 144) HT_.out HW_.out hHeld ?_
                    refine pI 7 (some 145) HT_.out ?_
                    refine pI 9 (some 147) HT_.out ?_
                    refine last_ (i := 10) (N := none) #[true, true, true, true, true, true, true, true, true, true, true] rfl rfl (one_of HT_.out (by kernel_rfl)) (by decide) (fun K hK => ?_)
                    refine skip_ (w1 := ?_) (by rfl) rfl ?_ ?_
                    rotate_left
                    · go_simp
                      rfl
                    refine hK.out _ _ ?_
                    clear hK K
                    refine done_ (done_of HT_.out (by kernel_rfl)) ?_
                    go_wp2
                    go_end0
                    exact ⟨rfl, by (with_reducible repeat (first | refine blk_drewN ?_ _ | refine blk_drew ?_)); refine blk_put (cs := ue (sst s (bst s (cst s 5) 25) 25)) (by (with_reducible repeat (first | refine blk_drewN ?_ _ | refine blk_drew ?_)); exact BKs.out) 0 _ ?_; rw [ue_set]; rfl, (by repeat (first | exact HB.out | apply Below.drew | apply pw_below_drewN | refine Below.setCell ?_ GEs.out _ | refine Below.setCell ?_ GEc.out _ | refine Below.setCell ?_ GEb.out _))⟩
def rit (s : List Int) : Nat → List Int
  | 0 => s
  | k + 1 => roundI (rit s k) k
theorem rit_len (s : List Int) (k : Nat) : (rit s k).length = s.length := by
  induction k with
  | zero => rfl
  | succ k ih => simp [rit, roundI_len, ih]
set_option maxHeartbeats 4000000 in
theorem impl_rounds.calls (g : Nat) (s : List Int) (hs : s.length = 25) (w0 w : World) (hT : Tab w0) (hB : Below w0.heap.size w0 w) (hg : w0.heap.size ≤ g) (hA : w.heap[g]? = some (.cells (ue s) 95 (0, 0))) :
    Calls Tryz.prog 95 #[.pointer (some ⟨g, 0, none⟩)] w fun e w' => e = .returned (.tuple #[]) ∧ w'.heap[g]? = some (.cells (ue (rit s 24)) 95 (0, 0)) ∧ Below w0.heap.size w0 w' := by
  have HT := Aside0.mk hT
  have HB := Aside0.mk hB
  have BKs := Aside0.mk hA
  have GEs := Aside0.mk hg
  have HS := Aside0.mk hs
  clear hT hB hA hg hs
  go_enter Tryz.func95, Tryz.ntmps95
  go_wp2
  go_loopg [3] 25 (fun kq v3 w' => ∃ (k : Nat) (x : Int), v3 = .int .i64 x ∧ Aside0 (x = (k : Int) ∧ k + kq = 25 ∧ k ≤ 24) ∧ Aside0 (w'.heap[g]? = some (.cells (ue (rit s k)) 95 (0, 0))) ∧ Aside0 (Below w0.heap.size w0 w'))
  case atStart => exact ⟨0, 0, rfl, ⟨rfl, rfl, by decide⟩, ⟨by (with_reducible repeat (first | refine blk_drewN ?_ _ | refine blk_drew ?_)); exact BKs.out⟩, ⟨(by repeat (first | exact HB.out | apply Below.drew | apply pw_below_drewN | refine Below.setCell ?_ GEs.out _))⟩⟩
  case round =>
    clear BKs HB
    obtain ⟨K1, x, rfl, HK1, BKs, HB⟩ := hrel
    cases gk with
    | zero => exact absurd HK1.out (by omega)
    | succ k1 =>
      by_cases c : K1 < 24
      · have c0 : decide (x < 24) = true := decide_eq_true (by have := HK1.out; omega)
        have HC1 := Aside0.mk c
        clear c
        go_wp2_with (first | (go_at_call 133; (with_reducible refine (impl_round.calls g (rit s K1) (by rw [rit_len]; exact HS.out) x (by have := HK1.out; omega) (by have := HK1.out; have := HC1.out; omega) w0 _ HT.out ?side1 GEs.out ?side2).mono ?_); (case side1 => exact (by repeat (first | exact HB.out | apply Below.drew | apply pw_below_drewN | refine Below.setCell ?_ GEs.out _))); (case side2 => ((with_reducible repeat (first | refine blk_drewN ?_ _ | refine blk_drew ?_)); exact BKs.out)); rintro e w1_ ⟨rfl, hk, hb⟩; have BKs := Aside0.mk hk; have HB := Aside0.mk hb; clear hk hb))
        go_roundg k1
        case measure => omega
        case rel => exact ⟨K1 + 1, _, rfl, ⟨by have := HK1.out; unfold wrap64; omega, by have := HK1.out; omega, by have := HK1.out; have := HC1.out; omega⟩, ⟨by have h_ := BKs.out; rw [show x.toNat = K1 by have := HK1.out; omega] at h_; (with_reducible repeat (first | refine blk_drewN ?_ _ | refine blk_drew ?_)); exact h_⟩, ⟨(by repeat (first | exact HB.out | apply Below.drew | apply pw_below_drewN | refine Below.setCell ?_ GEs.out _))⟩⟩
      · have c0 : decide (x < 24) = false := decide_eq_false (by have := HK1.out; omega)
        obtain rfl : K1 = 24 := by have := HK1.out; omega
        clear c
        go_wp2
        go_end0
        exact ⟨rfl, by (with_reducible repeat (first | refine blk_drewN ?_ _ | refine blk_drew ?_)); exact BKs.out, (by repeat (first | exact HB.out | apply Below.drew | apply pw_below_drewN | refine Below.setCell ?_ GEs.out _))⟩
def b8 (x : Int) : List Int := [x % 256, x / 256 % 256, x / 256 / 256 % 256, x / 256 / 256 / 256 % 256, x / 256 / 256 / 256 / 256 % 256, x / 256 / 256 / 256 / 256 / 256 % 256, x / 256 / 256 / 256 / 256 / 256 / 256 % 256, x / 256 / 256 / 256 / 256 / 256 / 256 / 256 % 256]
theorem wordBytes_f (l : List Int) (x : Int) (h : l.length ≤ 1000) : impl_wordBytes.f 9 l x = some (l ++ b8 x) := by
  unfold impl_wordBytes.f
  have w1 : wrap64 (0 + 1) = 1 := by unfold wrap64; rfl
  have w2 : wrap64 (1 + 1) = 2 := by unfold wrap64; rfl
  have w3 : wrap64 (2 + 1) = 3 := by unfold wrap64; rfl
  have w4 : wrap64 (3 + 1) = 4 := by unfold wrap64; rfl
  have w5 : wrap64 (4 + 1) = 5 := by unfold wrap64; rfl
  have w6 : wrap64 (5 + 1) = 6 := by unfold wrap64; rfl
  have w7 : wrap64 (6 + 1) = 7 := by unfold wrap64; rfl
  have w8 : wrap64 (7 + 1) = 8 := by unfold wrap64; rfl
  simp only [impl_wordBytes.l0, w1, w2, w3, w4, w5, w6, w7, w8]
  simp only [show ((0 : Int) < 8) = True from eq_true (by decide), show ((1 : Int) < 8) = True from eq_true (by decide), show ((2 : Int) < 8) = True from eq_true (by decide), show ((3 : Int) < 8) = True from eq_true (by decide), show ((4 : Int) < 8) = True from eq_true (by decide), show ((5 : Int) < 8) = True from eq_true (by decide), show ((6 : Int) < 8) = True from eq_true (by decide), show ((7 : Int) < 8) = True from eq_true (by decide), show ((8 : Int) < 8) = False from eq_false (by decide), if_true, if_false, List.length_append, List.length_cons, List.length_nil]
  rw [if_pos (by omega), if_pos (by omega), if_pos (by omega), if_pos (by omega), if_pos (by omega), if_pos (by omega), if_pos (by omega), if_pos (by omega)]
  simp [b8]
def txl (s : List Int) : Nat → List Int
  | 0 => []
  | k + 1 => txl s k ++ b8 (ga s k)
theorem txl_len (s : List Int) (k : Nat) : (txl s k).length = 8 * k := by
  induction k with
  | zero => rfl
  | succ k ih => simp only [txl, List.length_append, ih]; simp [b8]; omega
set_option maxHeartbeats 4000000 in
theorem impl_text.calls (g : Nat) (s : List Int) (hs : s.length = 25) (w : World) (hA : w.heap[g]? = some (.cells (ue s) 95 (0, 0))) :
    Calls Tryz.prog 96 #[.pointer (some ⟨g, 0, none⟩)] w fun e w' => e = .returned (.string (strOfNums (txl s 25))) ∧ Below w.heap.size w w' := by
  have HB := Aside0.mk (Below.refl w.heap.size w)
  have BKs := Aside0.mk hA
  have HS := Aside0.mk hs
  clear hA hs
  obtain ⟨i0, hi, hz0, hz1, hz2⟩ := info_parts info5
  go_enter Tryz.func96, Tryz.ntmps96
  go_wp2_with (first | ((with_reducible refine gate_dst (N := 6) rfl ?_); refine wpList_make_own _ rfl _ _ 22 rfl w.heap.size 5 i0 (.int .u8 0) 1 Tryz.underlying22 hi hz0 hz1 .i64 .i64 200 200 rfl rfl rfl (by rw [hz2]; decide) (by decide) (Nat.le_refl _) ?_; intro w1_ ho hgr; have HO := Aside0.mk (show Kd.R (Kd.int .u8) 5 w1_ w.heap.size (fun _ => True) _ ([] : List Int) from Kd.R_of_own (h1 := fun _ => rfl) ho (fun _ _ => trivial)); have n0_ := Aside0.mk (Below.grown HB.out hgr (Nat.le_refl _) (fun _ h => by cases h)); clear HB; have HB := n0_; clear n0_ ho hgr))
  go_loopg [3, 8] 26 (fun kq v3 v8 w' => ∃ (k : Nat) (x : Int) (u : Value), v3 = u ∧ v8 = .int .i64 x ∧ Aside0 (x = (k : Int) ∧ k + kq = 26 ∧ k ≤ 25) ∧ Aside0 (Kd.R (Kd.int .u8) 5 w' w.heap.size (fun _ => True) u (txl s k)) ∧ Aside0 (Below w.heap.size w w'))
  case atStart => exact ⟨0, 0, _, rfl, rfl, ⟨rfl, rfl, by decide⟩, ⟨rP HO⟩, ⟨(by repeat (first | exact HB.out | apply Below.drew | apply pw_below_drewN | refine Below.setCell ?_ GEs.out _))⟩⟩
  case round =>
    clear HB HO
    obtain ⟨K1, x, u, rfl, rfl, HK1, HO, HB⟩ := hrel
    cases gk with
    | zero => exact absurd HK1.out (by omega)
    | succ k1 =>
      by_cases c : K1 < 25
      · have c0 : decide (x < 25) = true := decide_eq_true (by have := HK1.out; omega)
        have HC1 := Aside0.mk c
        clear c
        have px : (0 ≤ x) = True := eq_true (by have := HK1.out; omega)
        have qx : (x < 25) = True := eq_true (by have := HK1.out; have := HC1.out; omega)
        have hc0 : wr.cell? ⟨g, x.toNat, none⟩ = some (.int .u64 (ga s x.toNat)) := (blk_cell ((HB.out.block g (blk_lt BKs.out)).trans BKs.out) _).trans (ue_get (by rw [HS.out]; have := HK1.out; have := HC1.out; omega))
        go_wp2_with (first | (go_at_call 134; (with_reducible refine (impl_wordBytes.calls 9 (fun _ => True) _ (txl s K1) (ga s x.toNat) _ w _ ?side1 ?side2 (wordBytes_f _ _ (by rw [txl_len]; have := HC1.out; omega))).mono ?_); (case side1 => exact (by repeat (first | exact HB.out | apply Below.drew | apply pw_below_drewN | refine Below.setCell ?_ GEs.out _))); (case side2 => (with_reducible repeat (first | apply Kd.R_alloc | apply Kd.R_drewN | apply Kd.R_drew)); exact HO.out); rintro e w2_ ⟨v4, rfl, ho, hb, hk⟩; have n0_ := Aside0.mk (Kd.R_mono ho (fun _ _ => trivial) : Kd.R (Kd.int .u8) 5 w2_ w.heap.size (fun _ => True) v4 _); have n1_ := Aside0.mk hb; clear HO HB; have HO := n0_; have HB := n1_; clear n0_ n1_ ho hb hk))
        go_roundg k1
        case measure => omega
        case rel => exact ⟨K1 + 1, _, _, rfl, rfl, ⟨by have := HK1.out; unfold wrap64; omega, by have := HK1.out; omega, by have := HK1.out; have := HC1.out; omega⟩, ⟨by have h_ := HO.out; rw [show x.toNat = K1 by have := HK1.out; omega] at h_; (with_reducible repeat (first | apply Kd.R_alloc | apply Kd.R_drewN | apply Kd.R_drew)); exact h_⟩, ⟨(by repeat (first | exact HB.out | apply Below.drew | apply pw_below_drewN | refine Below.setCell ?_ GEs.out _))⟩⟩
      · have c0 : decide (x < 25) = false := decide_eq_false (by have := HK1.out; omega)
        obtain rfl : K1 = 25 := by have := HK1.out; omega
        clear c
        have hcv := own_string (P := Tryz.prog) Tryz.underlying22 Tryz.underlying5 Tryz.underlying9 (Kd.own_of_R HO.out)
        go_wp2
        go_ret
        exact ⟨rfl, (by repeat (first | exact HB.out | apply Below.drew | apply pw_below_drewN | refine Below.setCell ?_ GEs.out _))⟩
end Go.Proofs.YtkdmplfldfagnaaGreatDoor.Kp
end
section
namespace Go.Proofs.YtkdmplfldfagnaaGreatDoor.Kp
open Go.RowKit Go.Proofs.YtkdmplfldfagnaaGreatDoorW.PrintWords Go.Proofs.YtkdmplfldfagnaaGreatDoorW.PrintLast Go.Proofs.YtkdmplfldfagnaaGreatDoorW.PrintMore
set_option linter.unusedVariables false
set_option linter.unusedSimpArgs false
section
variable {P : Program} {ops : Array Oper} {rest : List Oper} {o : Oper} {a : Act} {Q : Exit → Act → World → Prop}
theorem below_bytesWorld (W : World) (e : TypeId) (s : ByteArray) : Below W.heap.size W (Lib.bytesWorld W e s) :=
  ⟨rfl, rfl, rfl, by rw [Lib.bytesWorld_size]; omega, fun k hk => Lib.bytesWorld_at_old W e s k hk⟩
theorem conv_event {W : World} (hgd : o.guard = none) {N : Tmp} (_hd : o.dst = some N) {src dst e : TypeId} {x : Operand} (ho : o.op = .convert src dst x) {S : ByteArray} (hx : a.eval x = .string S)
    (hs : P.underlying src = some .string) (hd : P.underlying dst = some (.slice e)) (he : P.underlying e = some (.int .u8))
    (h : ∀ g c cs w1, g = W.heap.size → w1.heap[g]? = some (.cells cs e (cs.size, cs.size + 1)) → S.size ≤ cs.size → (∀ i, i < S.size → w1.cell? ⟨g, i, none⟩ = some (.int .u8 (S.data.toList.getD i 0).toNat)) → Below W.heap.size W w1 →
      wpList P ops Q rest (a.put o.dst (.slice (some ⟨g, 0, none⟩) S.size c)) w1) : wpList P ops Q (o :: rest) a W := by
  refine Kd.event_run hgd (v := .slice (some ⟨W.heap.size, 0, none⟩) S.size (grownCap W S.size 0 e)) (w1 := Lib.bytesWorld W e S) ?_ (h _ _ _ _ rfl (Lib.bytesWorld_at_new W e S) ?_ (fun i hi => Lib.bytesWorld_cell W e S i hi) (below_bytesWorld W e S))
  · have := Lib.run_convert_string_bytes (P := P) W src dst e S hs hd he
    unfold execOp
    rw [ho]
    dsimp only
    rw [hx]
    rw [Sem.run_bind, this]
    rfl
  · unfold Lib.bytesCells
    rw [Array.size_append, Array.size_map]
    exact Nat.le_add_right _ _
end
end Go.Proofs.YtkdmplfldfagnaaGreatDoor.Kp
end
section
namespace Go.Proofs.YtkdmplfldfagnaaGreatDoor.Kp
open Go.RowKit Go.Proofs.YtkdmplfldfagnaaGreatDoorW.PrintWords Go.Proofs.YtkdmplfldfagnaaGreatDoorW.PrintLast Go.Proofs.YtkdmplfldfagnaaGreatDoorW.PrintMore
set_option linter.unusedVariables false
set_option linter.unusedSimpArgs false
set_option maxHeartbeats 8000000
set_option maxRecDepth 100000
def Tryz.rep_ren : Go.Shelf.Ren := ⟨fun | 105 => 132 | 212 => 146 | 99 => 147 | 165 => 148 | 166 => 149 | 170 => 150 | 169 => 151 | 263 => 156 | 264 => 157 | 206 => 158 | 240 => 159 | 241 => 160 | 276 => 161 | 277 => 162 | n => n, fun | 9 => 9 | 3 => 3 | 4 => 4 | 20 => 20 | 0 => 0 | 46 => 70 | 109 => 123 | 5 => 5 | 72 => 128 | 76 => 131 | 51 => 110 | 146 => 138 | 53 => 93 | 148 => 140 | 70 => 126 | 37 => 22 | 75 => 130 | 127 => 142 | 164 => 143 | 80 => 97 | n => n, fun | n => n⟩
theorem Tryz.rep : Go.Proofs.Lays.n105 Tryz.prog Tryz.rep_ren := {
  mixed := by kernel_rfl
  f99 := Tryz.func147.trans (congrArg some (by kernel_rfl))
  f105 := Tryz.func132.trans (congrArg some (by kernel_rfl))
  f165 := Tryz.func148.trans (congrArg some (by kernel_rfl))
  f166 := Tryz.func149.trans (congrArg some (by kernel_rfl))
  f169 := Tryz.func151.trans (congrArg some (by kernel_rfl))
  f170 := Tryz.func150.trans (congrArg some (by kernel_rfl))
  f206 := Tryz.func158.trans (congrArg some (by kernel_rfl))
  f212 := Tryz.func146.trans (congrArg some (by kernel_rfl))
  f240 := Tryz.func159.trans (congrArg some (by kernel_rfl))
  f241 := Tryz.func160.trans (congrArg some (by kernel_rfl))
  f263 := Tryz.func156.trans (congrArg some (by kernel_rfl))
  f264 := Tryz.func157.trans (congrArg some (by kernel_rfl))
  f276 := Tryz.func161.trans (congrArg some (by kernel_rfl))
  f277 := Tryz.func162.trans (congrArg some (by kernel_rfl))
  t0 := Tryz.underlying0
  a0 := Tryz.isAgg0
  z0 := Tryz.sizeOf0
  v0 := Tryz.zeroValue0
  t3 := Tryz.underlying3
  a3 := Tryz.isAgg3
  z3 := Tryz.sizeOf3
  v3 := Tryz.zeroValue3
  t4 := Tryz.underlying4
  a4 := Tryz.isAgg4
  z4 := Tryz.sizeOf4
  v4 := Tryz.zeroValue4
  t5 := Tryz.underlying5
  a5 := Tryz.isAgg5
  z5 := Tryz.sizeOf5
  v5 := Tryz.zeroValue5
  t9 := Tryz.underlying9
  a9 := Tryz.isAgg9
  z9 := Tryz.sizeOf9
  v9 := Tryz.zeroValue9
  t20 := Tryz.underlying20
  a20 := Tryz.isAgg20
  z20 := Tryz.sizeOf20
  v20 := Tryz.zeroValue20
  t37 := Tryz.underlying22
  a37 := Tryz.isAgg22
  z37 := Tryz.sizeOf22
  v37 := Tryz.zeroValue22
  t46 := Tryz.underlying70
  a46 := Tryz.isAgg70
  z46 := Tryz.sizeOf70
  v46 := Tryz.zeroValue70
  t51 := Tryz.underlying110
  a51 := Tryz.isAgg110
  z51 := Tryz.sizeOf110
  v51 := Tryz.zeroValue110
  t53 := Tryz.underlying93
  a53 := Tryz.isAgg93
  z53 := Tryz.sizeOf93
  v53 := Tryz.zeroValue93
  t70 := Tryz.underlying126
  a70 := Tryz.isAgg126
  z70 := Tryz.sizeOf126
  v70 := Tryz.zeroValue126
  t72 := Tryz.underlying128
  a72 := Tryz.isAgg128
  z72 := Tryz.sizeOf128
  v72 := Tryz.zeroValue128
  t75 := Tryz.underlying130
  a75 := Tryz.isAgg130
  z75 := Tryz.sizeOf130
  v75 := Tryz.zeroValue130
  t76 := Tryz.underlying131
  a76 := Tryz.isAgg131
  z76 := Tryz.sizeOf131
  v76 := Tryz.zeroValue131
  t109 := Tryz.underlying123
  a109 := Tryz.isAgg123
  z109 := Tryz.sizeOf123
  v109 := Tryz.zeroValue123
  t127 := Tryz.underlying142
  a127 := Tryz.isAgg142
  z127 := Tryz.sizeOf142
  v127 := Tryz.zeroValue142
  t146 := Tryz.underlying138
  a146 := Tryz.isAgg138
  z146 := Tryz.sizeOf138
  v146 := Tryz.zeroValue138
  t148 := Tryz.underlying140
  a148 := Tryz.isAgg140
  z148 := Tryz.sizeOf140
  v148 := Tryz.zeroValue140
  t164 := Tryz.underlying143
  a164 := Tryz.isAgg143
  z164 := Tryz.sizeOf143
  v164 := Tryz.zeroValue143 }
theorem repExtra : Go.Proofs.Builder.Extra Tryz.prog Tryz.rep_ren := {
  sizeBuilder := by kernel_rfl
  liesBuilder := by kernel_rfl
  t5 := Tryz.rep.t5
  a5 := Tryz.rep.a5
  z5 := Tryz.rep.z5
  v5 := Tryz.rep.v5
  infoByte := by kernel_rfl
  cellsByte := by kernel_rfl
  sizeByte := by kernel_rfl
  neB5 := by decide }
theorem rep_calls (Z : Nat) (w : World) (h : Z ≤ 135) : Calls Tryz.prog 132 #[.string ⟨#[0]⟩, .int .i64 (Z : Int)] w fun e w' => e = .returned (.string ⟨(List.replicate Z (0 : UInt8)).toArray⟩) ∧ Below w.heap.size w w' := by
  have hr : Lib.repeatL (ByteArray.data (⟨#[0]⟩ : ByteArray)).toList Z = List.replicate Z (0 : UInt8) := by
    have := Lib.repeatL_replicate (0 : UInt8) 1 Z
    rwa [Nat.mul_one] at this
  have := Go.Proofs.Any.strings_Repeat Tryz.rep repExtra (⟨#[0]⟩ : ByteArray) Z w (by omega) (by show 1 * Z ≤ _; omega)
  rwa [hr] at this
theorem blkf_set {w : World} {g : Nat} {t : TypeId} {cs : Array Value} {fr : Nat × Nat} (h : w.heap[g]? = some (.cells cs t fr)) (i : Nat) (u : Value) : (w.setCell ⟨g, i, none⟩ u).heap[g]? = some (.cells (cs.setIfInBounds i u) t fr) := by
  simp [World.setCell, Array.getElem?_modify, h]
section
variable {P : Program} {ops : Array Oper} {rest : List Oper} {o : Oper} {a : Act} {Q : Exit → Act → World → Prop}
theorem conv2_event {W : World} (hgd : o.guard = none) {N : Tmp} (_hd : o.dst = some N) {src dst e : TypeId} {x : Operand} (ho : o.op = .convert src dst x) {g n c : Nat} (hx : a.eval x = .slice (some ⟨g, 0, none⟩) n c)
    (hs : P.underlying src = some (.slice e)) (he : P.underlying e = some (.int .u8)) (hd : P.underlying dst = some .string) (xs : List Int) (hlen : xs.length = n) (hcell : ∀ i, i < n → W.cell? ⟨g, i, none⟩ = some (.int .u8 (xs.getD i 0)))
    (h : wpList P ops Q rest (a.put o.dst (.string (strOfNums xs))) W) : wpList P ops Q (o :: rest) a W := by
  refine Kd.event_run hgd (v := .string (strOfNums xs)) (w1 := W) ?_ h
  have := run_convert_bytes_arg (P := P) W src e hs he g 0 n c xs hlen (fun i hi => by rw [Nat.zero_add]; exact hcell i hi) dst hd
  unfold execOp
  rw [ho]
  dsimp only
  rw [hx]
  rw [Sem.run_bind, this]
  rfl
end
def nb (t : ByteArray) : List Int := t.data.toList.map fun b => (b.toNat : Int)
theorem nb_len (t : ByteArray) : (nb t).length = t.size := by
  unfold nb
  rw [List.length_map]
  exact Array.length_toList
def padRaw (xs : List Int) : List Int := xs ++ [1] ++ List.replicate (135 - xs.length % 136) 0
def padL (xs : List Int) : List Int := (padRaw xs).set ((padRaw xs).length - 1) (Go.bits .or .u8 (ga (padRaw xs) ((padRaw xs).length - 1)) 128)
theorem nb_append (a b : ByteArray) : nb (a ++ b) = nb a ++ nb b := by
  unfold nb
  have : (a ++ b).data = a.data ++ b.data := by first | rfl | simp
  rw [this]
  simp
theorem nb_pad (t : ByteArray) (Z : Nat) (h : Z = 135 - t.size % 136) : nb (t ++ (⟨#[1]⟩ : ByteArray) ++ ⟨(List.replicate Z (0 : UInt8)).toArray⟩) = padRaw (nb t) := by
  rw [nb_append, nb_append]
  unfold padRaw
  rw [nb_len, ← h]
  congr 1
  simp [nb]
theorem nb_get (t : ByteArray) (i : Nat) (h : i < t.size) : ((t.data.toList.getD i 0).toNat : Int) = ga (nb t) i := by
  have h' : i < t.data.toList.length := by rw [Array.length_toList]; exact h
  unfold ga nb
  rw [List.getD_eq_getElem?_getD, List.getD_eq_getElem?_getD, List.getElem?_map, List.getElem?_eq_getElem h']
  rfl
theorem padL_len (xs : List Int) : (padL xs).length = (padRaw xs).length := by simp [padL]
theorem pad_cells {xs : List Int} {cs : Array Value} {n : Nat} (hl : (padRaw xs).length = n) (h0 : 0 < n) (hsz : n ≤ cs.size) (hcs : ∀ i, i < n → cs[i]? = some (.int .u8 (ga (padRaw xs) i))) (i : Nat) (hi : i < n) :
    (cs.setIfInBounds (n - 1) (.int .u8 (Go.bits .or .u8 (ga (padRaw xs) (n - 1)) 128)))[i]? = some (.int .u8 ((padL xs).getD i 0)) := by
  unfold padL
  rw [hl, Array.getElem?_setIfInBounds]
  by_cases h : n - 1 = i
  · rw [if_pos h, if_pos (by omega), List.getD_eq_getElem?_getD, List.getElem?_set, if_pos h, if_pos (by omega)]
    rfl
  · rw [if_neg h, hcs i hi, List.getD_eq_getElem?_getD, List.getElem?_set, if_neg h]
    rfl
set_option maxHeartbeats 4000000 in
theorem impl_KeccakPad.calls (t : ByteArray) (ht : t.size ≤ 140737488351232) (w : World) :
    Calls Tryz.prog 93 #[.string t] w fun e w' => e = .returned (.string (strOfNums (padL (nb t)))) ∧ Below w.heap.size w w' := by
  have HB := Aside0.mk (Below.refl w.heap.size w)
  have HTt := Aside0.mk ht
  obtain ⟨m, hm, em⟩ : ∃ y_, Int.tmod (t.size : Int) 136 = y_ ∧ Aside0 (y_ = ((t.size % 136 : Nat) : Int)) := ⟨_, rfl, ⟨by rw [Int.tmod_eq_emod_of_nonneg (by omega)]; omega⟩⟩
  obtain ⟨Z, hz, ez⟩ : ∃ Z : Nat, wrap64 (135 - m) = (Z : Int) ∧ Aside0 (Z = 135 - t.size % 136) := ⟨135 - t.size % 136, by have := em.out; unfold wrap64; omega, ⟨rfl⟩⟩
  obtain ⟨S, hS⟩ : ∃ S : ByteArray, S = (t ++ (⟨#[1]⟩ : ByteArray)) ++ ⟨(List.replicate Z (0 : UInt8)).toArray⟩ := ⟨_, rfl⟩
  have HSz := Aside0.mk (show S.size = t.size + 1 + Z by rw [hS, ByteArray.size_append, ByteArray.size_append]; show t.size + 1 + (List.replicate Z (0 : UInt8)).toArray.size = _; rw [List.size_toArray, List.length_replicate])
  have HSn := Aside0.mk (show nb S = padRaw (nb t) by rw [hS]; exact nb_pad t Z ez.out)
  have HSe := Aside0.mk hS
  have c1 : (9223372036854775807 < t.size + 1) = False := eq_false (by omega)
  have c2 : (t.size + 1 ≤ 9223372036854775807) = True := eq_true (by omega)
  have c3 : (9223372036854775807 < t.size + 1 + Z) = False := eq_false (by have := ez.out; omega)
  have c4 : (t.size + 1 + Z ≤ 9223372036854775807) = True := eq_true (by have := ez.out; omega)
  clear ht hS
  go_enter Tryz.func93, Tryz.ntmps93
  go_wp2_with (first | (go_at_call 132; (with_reducible refine (rep_calls Z _ (by have := ez.out; omega)).mono ?_); rintro e w1_ ⟨rfl, hb⟩; have n0_ := Aside0.mk (below_then (by repeat (first | exact HB.out | apply Below.drew | apply pw_below_drewN | refine Below.setCell ?_ GEs.out _)) (Below.size (by repeat (first | exact HB.out | apply Below.drew | apply pw_below_drewN | refine Below.setCell ?_ GEs.out _))) hb); clear HB; have HB := n0_; clear n0_ hb) | ((with_reducible refine gate_dst (N := 14) rfl ?_); refine conv_event ?hg (N := 14) ?hd (src := 9) (dst := 22) (e := 5) (S := S) rfl ?hx Tryz.underlying9 Tryz.underlying22 Tryz.underlying5 ?_; (case hg => rfl); (case hd => rfl); (case hx => rw [HSe.out]; rfl); intro g c cs w2_ hg hblk hsz hcell hb; have n0_ := Aside0.mk (below_then (by repeat (first | exact HB.out | apply Below.drew | apply pw_below_drewN | refine Below.setCell ?_ GEs.out _)) (Below.size (by repeat (first | exact HB.out | apply Below.drew | apply pw_below_drewN | refine Below.setCell ?_ GEs.out _))) hb); have GEs := Aside0.mk (show w.heap.size ≤ g by rw [hg]; exact Below.size (by repeat (first | exact HB.out | apply Below.drew | apply pw_below_drewN | refine Below.setCell ?_ GEs.out _))); clear HB; have HB := n0_; clear n0_ hb hg; have HBK := Aside0.mk hblk; have HSC := Aside0.mk hsz; have HCE := Aside0.mk (show ∀ i, i < S.size → cs[i]? = some (.int .u8 (ga (padRaw (nb t)) i)) from fun i hi => by rw [← cell_of_row w2_ g i cs _ _ hblk, hcell i hi, nb_get _ _ hi, HSn.out]); clear hblk hsz hcell; obtain ⟨li, hli, eli⟩ : ∃ y_, wrap64 ((S.size : Int) - 1) = y_ ∧ Aside0 (y_ = ((S.size - 1 : Nat) : Int)) := ⟨_, rfl, ⟨by have := HSz.out; have := HTt.out; have := ez.out; unfold wrap64; omega⟩⟩; have pl : (0 ≤ li) = True := eq_true (by have := eli.out; omega); have ql : (li < (S.size : Int)) = True := eq_true (by have := eli.out; have := HSz.out; omega); have hcl : w2_.cell? ⟨g, li.toNat, none⟩ = some (.int .u8 (ga (padRaw (nb t)) li.toNat)) := (cell_of_row w2_ g _ cs _ _ HBK.out).trans (HCE.out _ (by have := eli.out; have := HSz.out; omega)); have hfz : w2_.frozen? ⟨g, li.toNat, none⟩ = false := (by have h1_ := HBK.out; have h2_ := HSC.out; have h3_ := eli.out; have h4_ := HSz.out; unfold World.frozen?; dsimp only; rw [h1_]; dsimp only; rw [decide_eq_false (by omega)]; rfl)) | ((with_reducible refine gate_dst (N := 24) rfl ?_); refine conv2_event ?hg (N := 24) ?hd (src := 22) (dst := 9) (e := 5) rfl (g := g) (n := S.size) (c := c) ?hx Tryz.underlying22 Tryz.underlying5 Tryz.underlying9 (padL (nb t)) ?hlen ?hcell ?_; (case hg => rfl); (case hd => rfl); (case hx => rfl); (case hlen => rw [padL_len, ← HSn.out, nb_len]); (case hcell => intro i hi; refine (cell_of_row _ g i _ _ _ (blkf_set HBK.out li.toNat _)).trans ?_; rw [show li.toNat = S.size - 1 by have := eli.out; omega]; exact pad_cells (by rw [← HSn.out, nb_len]) (by omega) HSC.out HCE.out i hi)))
  go_ret
  exact ⟨rfl, (by repeat (first | exact HB.out | apply Below.drew | apply pw_below_drewN | refine Below.setCell ?_ GEs.out _))⟩
theorem wordAt_some (p : ByteArray) (a : Nat) (h : a + 8 ≤ p.size) (hp : p.size ≤ 281474976710656) (d : Nat) : ∀ (k : Nat) (x i : Int), d ≤ 8 → i = (d : Int) - 1 → d < k → ∃ v, impl_wordAt.l0 k p (a : Int) x i = some v := by
  induction d with
  | zero =>
    intro k x i hd hi hk
    obtain ⟨k, rfl⟩ : ∃ j, k = j + 1 := ⟨k - 1, by omega⟩
    simp only [impl_wordAt.l0]
    rw [if_neg (by omega)]
    exact ⟨_, rfl⟩
  | succ d ih =>
    intro k x i hd hi hk
    obtain ⟨k, rfl⟩ : ∃ j, k = j + 1 := ⟨k - 1, by omega⟩
    simp only [impl_wordAt.l0]
    have e1 : wrap64 ((a : Int) + i) = a + d := by unfold wrap64; omega
    have e2 : wrap64 (i - 1) = (d : Int) - 1 := by unfold wrap64; omega
    rw [if_pos (by omega), e1, if_pos (by omega), if_pos (by omega), e2]
    exact ih k _ _ (by omega) rfl (by omega)
def wv (p : ByteArray) (a : Nat) : Int := (impl_wordAt.f 9 p (a : Int)).getD 0
theorem wordAt_f (p : ByteArray) (a : Nat) (h : a + 8 ≤ p.size) (hp : p.size ≤ 281474976710656) : impl_wordAt.f 9 p (a : Int) = some (wv p a) := by
  obtain ⟨v, hv⟩ := wordAt_some p a h hp 8 9 0 7 (by omega) (by omega) (by omega)
  have hv' : impl_wordAt.f 9 p (a : Int) = some v := hv
  unfold wv
  rw [hv']
  rfl
def xst (s : List Int) (p : ByteArray) (a : Nat) : Nat → List Int
  | 0 => s
  | k + 1 => (xst s p a k).set k (xr (ga (xst s p a k) k) (wv p (a + 8 * k)))
theorem xst_len (s : List Int) (p : ByteArray) (a k : Nat) : (xst s p a k).length = s.length := by
  induction k with
  | zero => rfl
  | succ k ih => simp [xst, ih]
def abst (p : ByteArray) : Nat → List Int
  | 0 => List.replicate 25 0
  | j + 1 => rit (xst (abst p j) p (136 * j) 17) 24
theorem abst_len (p : ByteArray) (j : Nat) : (abst p j).length = 25 := by
  cases j with
  | zero => rfl
  | succ j => simp only [abst, rit_len, xst_len]; induction j with
    | zero => rfl
    | succ j ih => simp only [abst, rit_len, xst_len]; exact ih
theorem strOf_size (xs : List Int) : (strOfNums xs).size = xs.length := by
  unfold strOfNums
  show (xs.map _).toArray.size = _
  rw [List.size_toArray, List.length_map]
def padT (t : ByteArray) : ByteArray := strOfNums (padL (nb t))
theorem padT_size (t : ByteArray) : (padT t).size = 136 * (t.size / 136 + 1) := by
  unfold padT
  rw [strOf_size, padL_len]
  unfold padRaw
  rw [List.length_append, List.length_append, List.length_replicate, nb_len]
  show t.size + 1 + _ = _
  omega
def digI (t : ByteArray) : ByteArray := (strOfNums (txl (abst (padT t) (t.size / 136 + 1)) 25)).extract 0 32
def impl_Digest.f (a0 : ByteArray) : Option ByteArray := if a0.size ≤ 140737488351232 then some (digI a0) else none
theorem tx_size (s : List Int) : (strOfNums (txl s 25)).size = 200 := by
  rw [strOf_size, txl_len]
def impl_Digest.T9 : Bool × List (List Nat × List Nat) := (true, [([], []), ([0], [0]), ([1], [1]), ([], []), ([], []), ([], []), ([5], [5]), ([4, 6], [4, 6]), ([3, 7], [3, 7]), ([2, 8], [2, 8]), ([0, 0, 1, 2, 3, 4, 5, 6, 7, 8, 9], [0]), ([10, 9, 8, 0, 1, 2, 3, 4, 5, 6, 7, 8, 9], [9, 10])])
def impl_Digest.B9 : List Nat := [0, 1, 3, 0, 0, 0, 32, 112, 248, 511, 1023, 2047]
theorem impl_Digest.tab9 : rtab .any (opsOf Tryz.f55 9) = impl_Digest.T9 := by kernel_rfl
theorem impl_Digest.bits9 : waitsOk impl_Digest.T9.2 impl_Digest.B9 = true := by kernel_rfl
theorem impl_Digest.calls (t : ByteArray) (r : ByteArray) (w : World) (hT : Tab w) (h : impl_Digest.f t = some r) :
    Calls Tryz.prog 55 #[.string t] w fun e w' => e = .returned (.string r) ∧ Below w.heap.size w w' := by
  unfold impl_Digest.f at h
  by_cases ht : t.size ≤ 140737488351232
  case neg => rw [if_neg ht] at h; exact absurd h (by simp)
  rw [if_pos ht] at h
  obtain rfl := Option.some.inj h
  clear h
  have HT := Aside0.mk hT
  have HTt := Aside0.mk ht
  have HB := Aside0.mk (Below.refl w.heap.size w)
  clear hT ht
  obtain ⟨pd, hpd⟩ : ∃ p_, p_ = padT t := ⟨_, rfl⟩
  have HPD := Aside0.mk hpd
  have HPS := Aside0.mk (show pd.size = 136 * (t.size / 136 + 1) by rw [hpd]; exact padT_size t)
  clear hpd
  go_enter Tryz.func55, Tryz.ntmps55
  go_wp2_with (first | (go_at_call 93; (with_reducible refine (impl_KeccakPad.calls t HTt.out _).mono ?_); rintro e w1_ ⟨rfl, hb⟩; have n0_ := Aside0.mk (below_then (by repeat (first | exact HB.out | apply Below.drew | apply pw_below_drewN)) (Below.size (by repeat (first | exact HB.out | apply Below.drew | apply pw_below_drewN))) hb); clear HB; have HB := n0_; clear n0_ hb; rw [show strOfNums (padL (nb t)) = pd from HPD.out.symm]) | ((with_reducible refine gate_dst (N := 4) rfl ?_); refine box_event ?hg (N := 4) ?hd (cs := ue (List.replicate 25 0)) (t := 95) ?hr ?_; (case hd => rfl); (case hg => rfl); (case hr => first | (go_simp; done) | (go_simp; rfl)); intro g hg w2_ hbox hb; have n0_ := Aside0.mk (below_then (by repeat (first | exact HB.out | apply Below.drew | apply pw_below_drewN)) (Below.size (by repeat (first | exact HB.out | apply Below.drew | apply pw_below_drewN))) hb); have GEs := Aside0.mk (show w.heap.size ≤ g by rw [hg]; exact Below.size (by repeat (first | exact HB.out | apply Below.drew | apply pw_below_drewN))); clear HB; have HB := n0_; have BKs := Aside0.mk hbox; clear n0_ hb hbox hg))
  go_loopg [5] (t.size / 136 + 2) (fun kq v5 w' => ∃ (j : Nat) (x : Int), v5 = .int .i64 x ∧ Aside0 (x = ((136 * j : Nat) : Int) ∧ j + kq = t.size / 136 + 2 ∧ j ≤ t.size / 136 + 1) ∧ Aside0 (w'.heap[g]? = some (.cells (ue (abst pd j)) 95 (0, 0))) ∧ Aside0 (Below w.heap.size w w'))
  case atStart => exact ⟨0, 0, rfl, ⟨rfl, by omega, by omega⟩, ⟨by (with_reducible repeat (first | refine blk_drewN ?_ _ | refine blk_drew ?_)); exact BKs.out⟩, ⟨(by repeat (first | exact HB.out | apply Below.drew | apply pw_below_drewN | refine Below.setCell ?_ GEs.out _))⟩⟩
  case round =>
    clear BKs HB
    obtain ⟨J, at_, rfl, HK1, BKs, HB⟩ := hrel
    cases gk with
    | zero => exact absurd HK1.out (by omega)
    | succ k1 =>
      by_cases c : J < t.size / 136 + 1
      · have c0 : decide (at_ < (pd.size : Int)) = true := decide_eq_true (by have := HK1.out; have := HPS.out; omega)
        have HC1 := Aside0.mk c
        clear c
        go_wp2
        go_loopg [15] 18 (fun kq v15 w' => ∃ (k : Nat) (x : Int), v15 = .int .i64 x ∧ Aside0 (x = (k : Int) ∧ k + kq = 18 ∧ k ≤ 17) ∧ Aside0 (w'.heap[g]? = some (.cells (ue (xst (abst pd J) pd (136 * J) k)) 95 (0, 0))) ∧ Aside0 (Below w.heap.size w w'))
        case atStart => exact ⟨0, 0, rfl, ⟨rfl, rfl, by decide⟩, ⟨by (with_reducible repeat (first | refine blk_drewN ?_ _ | refine blk_drew ?_)); exact BKs.out⟩, ⟨(by repeat (first | exact HB.out | apply Below.drew | apply pw_below_drewN | refine Below.setCell ?_ GEs.out _))⟩⟩
        case round =>
          clear BKs HB c0
          obtain ⟨K2, x, rfl, HK2, BKs, HB⟩ := hrel
          cases gk with
          | zero => exact absurd HK2.out (by omega)
          | succ k2 =>
            by_cases c : K2 < 17
            · have c0 : decide (x < 17) = true := decide_eq_true (by have := HK2.out; omega)
              have HC2 := Aside0.mk c
              clear c
              obtain ⟨a1, ha1, ea1⟩ : ∃ y_, wrap64 (8 * x) = y_ ∧ Aside0 (y_ = ((8 * K2 : Nat) : Int)) := ⟨_, rfl, ⟨by simp only [aI] at *; first | (unfold wrap64; omega) | (rw [Int.tmod_eq_emod_of_nonneg (by omega)]; omega)⟩⟩
              obtain ⟨a2, ha2, ea2⟩ : ∃ a2 : Nat, wrap64 (at_ + a1) = (a2 : Int) ∧ Aside0 (a2 = 136 * J + 8 * K2) := ⟨136 * J + 8 * K2, by simp only [aI] at *; unfold wrap64; omega, ⟨rfl⟩⟩
              have px : (0 ≤ x) = True := eq_true (by simp only [aI] at *; omega)
              have qx_25 : (x < 25) = True := eq_true (by simp only [aI] at *; omega)
              have hc0 : wr.cell? ⟨g, x.toNat, none⟩ = some (.int .u64 (ga (xst (abst pd J) pd (136 * J) K2) x.toNat)) := (blk_cell BKs.out _).trans (ue_get (by rw [xst_len, abst_len]; have := HK1.out; have := HC1.out; have := HK2.out; have := HC2.out; have := HPS.out; have := HTt.out; have := ea1.out; have := ea2.out; omega))
              have hfz : wr.frozen? ⟨g, x.toNat, none⟩ = false := blk_frozen BKs.out _
              have HW := Aside0.mk (wordAt_f pd a2 (by simp only [aI] at *; omega) (by simp only [aI] at *; omega))
              go_wp2
              refine start_ (n := 12) (S := fun w' => w'.cell? ⟨g, x.toNat, none⟩ = some (.int .u64 (ga (xst (abst pd J) pd (136 * J) K2) x.toNat))) (ds := [11]) #[false, false, false, false, false, false, false, false, false, false, false, false] (by kernel_rfl) rfl rfl (hc0) (fun hHeld => ?_)
              refine with_tabW impl_Digest.tab9 impl_Digest.bits9 (fun HT_ HW_ => ?_)
              refine pI 0 (some 18) HT_.out ?_
              refine pI 1 (some 19) HT_.out ?_
              refine pI 3 (some 21) HT_.out ?_
              refine pI 4 (some 22) HT_.out ?_
              refine pI 5 (some 23) HT_.out ?_
              refine pI 6 (some 24) HT_.out ?_
              refine pI 7 (some 25) HT_.out ?_
              refine tI1 2 (some 20) HT_.out HW_.out hHeld ?_
              refine oI 8 (some 26) HT_.out (fun K hK => ?_)
              refine goes_ Tryz.func94 (by kernel_rfl) rfl #[.string pd, .int .i64 (wrap64 (at_ + a1))] (by rfl) rfl rfl (by simp only [List.map_toArray, List.map_cons, List.map_nil]; rfl) ?_
              rw [ha2]
              with_reducible refine (impl_wordAt.calls 9 _ _ _ _ HW.out).mono ?_
              rintro e w3_ ⟨rfl, ⟨nd, rfl⟩⟩
              refine ⟨_, rfl, ?_⟩
              refine hK.out _ _ ((by exact hHeld)) (fun hHeld => ?_)
              clear hK K
              refine nO (some 26) ?_
              refine pI 9 (some 27) HT_.out ?_
              refine pI 10 (some 28) HT_.out ?_
              refine last_ (i := 11) (N := none) #[true, true, true, true, true, true, true, true, true, true, true, true] rfl rfl (one_of HT_.out (by kernel_rfl)) (by decide) (fun K hK => ?_)
              refine skip_ (w1 := ?_) (by rfl) rfl ?_ ?_
              rotate_left
              · go_simp
                rfl
              refine hK.out _ _ ?_
              clear hK K
              refine done_ (done_of HT_.out (by kernel_rfl)) ?_
              go_wp2
              go_roundg k2
              case measure => omega
              case rel => exact ⟨K2 + 1, _, rfl, ⟨by simp only [aI] at *; first | omega | (unfold wrap64; omega), by simp only [aI] at *; omega, by simp only [aI] at *; omega⟩, ⟨by (with_reducible repeat (first | refine blk_drewN ?_ _ | refine blk_drew ?_)); refine blk_put (cs := ue (xst (abst pd J) pd (136 * J) K2)) (by (with_reducible repeat (first | refine blk_drewN ?_ _ | refine blk_drew ?_)); exact BKs.out) x.toNat _ ?_; rw [ue_set]; simp only [xst]; rw [show x.toNat = K2 by simp only [aI] at *; omega, show a2 = 136 * J + 8 * K2 by simp only [aI] at *; omega]⟩, ⟨(by repeat (first | exact HB.out | apply Below.drew | apply pw_below_drewN | refine Below.setCell ?_ GEs.out _))⟩⟩
            · have c0 : decide (x < 17) = false := decide_eq_false (by have := HK2.out; omega)
              obtain rfl : K2 = 17 := by have := HK2.out; omega
              clear c HK2
              go_wp2_with (first | (go_at_call 95; (with_reducible refine (impl_rounds.calls g (xst (abst pd J) pd (136 * J) 17) (by rw [xst_len, abst_len]) w _ HT.out ?side1 GEs.out ?side2).mono ?_); (case side1 => exact (by repeat (first | exact HB.out | apply Below.drew | apply pw_below_drewN | refine Below.setCell ?_ GEs.out _))); (case side2 => ((with_reducible repeat (first | refine blk_drewN ?_ _ | refine blk_drew ?_)); exact BKs.out)); rintro e w4_ ⟨rfl, hk, hb⟩; have n0_ := Aside0.mk hk; have n1_ := Aside0.mk hb; clear BKs HB; have BKs := n0_; have HB := n1_; clear n0_ n1_ hk hb))
              go_roundg k1
              case measure => omega
              case rel => exact ⟨J + 1, _, rfl, ⟨by simp only [aI] at *; unfold wrap64; omega, by simp only [aI] at *; omega, by simp only [aI] at *; omega⟩, ⟨by (with_reducible repeat (first | refine blk_drewN ?_ _ | refine blk_drew ?_)); exact BKs.out⟩, ⟨(by repeat (first | exact HB.out | apply Below.drew | apply pw_below_drewN | refine Below.setCell ?_ GEs.out _))⟩⟩
      · have c0 : decide (at_ < (pd.size : Int)) = false := decide_eq_false (by have := HK1.out; have := HPS.out; omega)
        obtain rfl : J = t.size / 136 + 1 := by have := HK1.out; omega
        clear c
        have HX := Aside0.mk (tx_size (abst pd (t.size / 136 + 1)))
        obtain ⟨tx, htx⟩ : ∃ y_, y_ = strOfNums (txl (abst pd (t.size / 136 + 1)) 25) := ⟨_, rfl⟩
        rw [← htx] at HX
        have HXe := Aside0.mk htx
        clear htx
        have h32 : ((32 : Int) ≤ (tx.size : Int)) = True := eq_true (by have := HX.out; omega)
        go_wp2_with (first | (go_at_call 96; (with_reducible refine (impl_text.calls g (abst pd (t.size / 136 + 1)) (abst_len _ _) _ ?side1).mono ?_); (case side1 => ((with_reducible repeat (first | refine blk_drewN ?_ _ | refine blk_drew ?_)); exact BKs.out)); rintro e w4_ ⟨rfl, hb⟩; have n0_ := Aside0.mk (below_then (by repeat (first | exact HB.out | apply Below.drew | apply pw_below_drewN | refine Below.setCell ?_ GEs.out _)) (Below.size (by repeat (first | exact HB.out | apply Below.drew | apply pw_below_drewN | refine Below.setCell ?_ GEs.out _))) hb); clear BKs HB; have HB := n0_; clear n0_ hb; rw [← HXe.out]))
        go_ret
        exact ⟨by unfold digI; rw [← HPD.out, ← HXe.out]; first | done | rfl, (by repeat (first | exact HB.out | apply Below.drew | apply pw_below_drewN | refine Below.setCell ?_ GEs.out _))⟩
theorem ue_one (xs : List Int) : (ue xs).all (·.oneCell') = true := by
  unfold ue
  rw [Array.all_eq_true_iff_forall_mem]
  intro v hv
  obtain ⟨x, _, rfl⟩ := List.mem_map.1 (List.mem_toArray.1 hv)
  rfl
section
variable {P : Program} {ops : Array Oper} {rest : List Oper} {o : Oper} {a : Act} {w : World} {Q : Exit → Act → World → Prop}
theorem wpList_buildA (hg : o.guard = none) (t : TypeId) (parts : Array (Nat × Operand)) (ho : o.op = .build t parts) {cs : Array Value} (hb : P.built t (parts.map fun (i, x) => (i, a.eval x)).toList = some cs)
    (h : wpList P ops Q rest (a.put o.dst (.agg cs)) w) : wpList P ops Q (o :: rest) a w := by
  refine wpList_build hg t parts ho (by rw [hb]; rfl) ?_
  rw [hb]
  exact h
end
theorem built_l03Offsets : Tryz.prog.built 117 [(0, .int .u64 0), (1, .int .u64 1), (2, .int .u64 62), (3, .int .u64 28), (4, .int .u64 27), (5, .int .u64 36), (6, .int .u64 44), (7, .int .u64 6), (8, .int .u64 55), (9, .int .u64 20), (10, .int .u64 3), (11, .int .u64 10), (12, .int .u64 43), (13, .int .u64 25), (14, .int .u64 39), (15, .int .u64 41), (16, .int .u64 45), (17, .int .u64 15), (18, .int .u64 21), (19, .int .u64 8), (20, .int .u64 18), (21, .int .u64 2), (22, .int .u64 61), (23, .int .u64 56), (24, .int .u64 14)] = some (ue turnsL) := by kernel_rfl
set_option maxHeartbeats 4000000 in
theorem spec_l03Offsets.calls (w : World) : Calls Tryz.prog 137 #[] w fun e w' => e = .returned (.agg (ue turnsL)) ∧ Below w.heap.size w w' := by
  have HB := Aside0.mk (Below.refl w.heap.size w)
  go_enter Tryz.func137, Tryz.ntmps137
  go_wp2_with (first | ((with_reducible refine gate_dst (N := 0) rfl ?_); refine box_event ?hg (N := 0) ?hd (cs := ue (List.replicate 25 0)) (t := 117) ?hr ?_; (case hd => rfl); (case hg => rfl); (case hr => first | (go_simp; done) | (go_simp; rfl)); intro g hg w2_ hbox hb; have n0_ := Aside0.mk (below_then HB.out (Below.size HB.out) hb); have GEs := Aside0.mk (show w.heap.size ≤ g by rw [hg]; exact Nat.le_refl _); clear HB; have HB := n0_; have BKs := Aside0.mk hbox; clear n0_ hb hbox hg) | ((with_reducible refine gate_dst (N := 1) rfl ?_); refine wpList_buildA rfl 117 _ rfl (cs := ue turnsL) ?hb ?_; (case hb => exact built_l03Offsets)) | ((with_reducible refine gate_store (t := 117) (p := 0) rfl ?_); refine wpList_store_row rfl 117 _ _ rfl g (ue turnsL) rfl rfl 117 (ue (List.replicate 25 0)) BKs.out (by kernel_rfl) rfl (ue_one _) ?_; have n0_ := Aside0.mk (below_setRow HB.out GEs.out (ue turnsL)); have n1_ := Aside0.mk (setRow_heap _ g _ (ue turnsL) _ _ BKs.out); clear HB BKs; have HB := n0_; have BKs := n1_; clear n0_ n1_))
  refine bodyPost_ret (results_cell_row rfl _ _ g 117 (ue turnsL) (0, 0) _ rfl (by (with_reducible repeat (first | refine blk_drewN ?_ _ | refine blk_drew ?_)); exact BKs.out) Tryz.underlying117 rfl (by kernel_rfl)) rfl ?_
  exact ⟨rfl, (by repeat (first | exact HB.out | apply Below.drew | apply pw_below_drewN | refine Below.setCell ?_ GEs.out _))⟩
theorem built_l03Rounds : Tryz.prog.built 119 [(0, .int .u64 1), (1, .int .u64 32898), (2, .int .u64 9223372036854808714), (3, .int .u64 9223372039002292224), (4, .int .u64 32907), (5, .int .u64 2147483649), (6, .int .u64 9223372039002292353), (7, .int .u64 9223372036854808585), (8, .int .u64 138), (9, .int .u64 136), (10, .int .u64 2147516425), (11, .int .u64 2147483658), (12, .int .u64 2147516555), (13, .int .u64 9223372036854775947), (14, .int .u64 9223372036854808713), (15, .int .u64 9223372036854808579), (16, .int .u64 9223372036854808578), (17, .int .u64 9223372036854775936), (18, .int .u64 32778), (19, .int .u64 9223372039002259466), (20, .int .u64 9223372039002292353), (21, .int .u64 9223372036854808704), (22, .int .u64 2147483649), (23, .int .u64 9223372039002292232)] = some (ue rcL) := by kernel_rfl
set_option maxHeartbeats 4000000 in
theorem spec_l03Rounds.calls (w : World) : Calls Tryz.prog 138 #[] w fun e w' => e = .returned (.agg (ue rcL)) ∧ Below w.heap.size w w' := by
  have HB := Aside0.mk (Below.refl w.heap.size w)
  go_enter Tryz.func138, Tryz.ntmps138
  go_wp2_with (first | ((with_reducible refine gate_dst (N := 0) rfl ?_); refine box_event ?hg (N := 0) ?hd (cs := ue (List.replicate 24 0)) (t := 119) ?hr ?_; (case hd => rfl); (case hg => rfl); (case hr => first | (go_simp; done) | (go_simp; rfl)); intro g hg w2_ hbox hb; have n0_ := Aside0.mk (below_then HB.out (Below.size HB.out) hb); have GEs := Aside0.mk (show w.heap.size ≤ g by rw [hg]; exact Nat.le_refl _); clear HB; have HB := n0_; have BKs := Aside0.mk hbox; clear n0_ hb hbox hg) | ((with_reducible refine gate_dst (N := 1) rfl ?_); refine wpList_buildA rfl 119 _ rfl (cs := ue rcL) ?hb ?_; (case hb => exact built_l03Rounds)) | ((with_reducible refine gate_store (t := 119) (p := 0) rfl ?_); refine wpList_store_row rfl 119 _ _ rfl g (ue rcL) rfl rfl 119 (ue (List.replicate 24 0)) BKs.out (by kernel_rfl) rfl (ue_one _) ?_; have n0_ := Aside0.mk (below_setRow HB.out GEs.out (ue rcL)); have n1_ := Aside0.mk (setRow_heap _ g _ (ue rcL) _ _ BKs.out); clear HB BKs; have HB := n0_; have BKs := n1_; clear n0_ n1_))
  refine bodyPost_ret (results_cell_row rfl _ _ g 119 (ue rcL) (0, 0) _ rfl (by (with_reducible repeat (first | refine blk_drewN ?_ _ | refine blk_drew ?_)); exact BKs.out) Tryz.underlying119 rfl (by kernel_rfl)) rfl ?_
  exact ⟨rfl, (by repeat (first | exact HB.out | apply Below.drew | apply pw_below_drewN | refine Below.setCell ?_ GEs.out _))⟩
end Go.Proofs.YtkdmplfldfagnaaGreatDoor.Kp
end
