/- What is proved here: part 3 of 3 of the proof of the given statement FnExactFoldBranch: the contracts of the Go functions that it reaches, the plain facts on lists and numbers, and (in the last part) the statement itself. No conditions beyond the given ones. -/
import Derived.Test.YtmiiknkfhiecgaaDoorMFnExactFoldBranchwSlim
import Derived.Test.YtmiiknkfhiecgaaDoorMFnExactFoldBrancha
import Derived.Test.YtmiiknkfhiecgaaDoorMFnExactFoldBranchb
import Derived.Test.YtmiiknkfhiecgaaDoorMFnExactFoldBranchwMore
import Derived.Deep.Slices
import Derived.ChangeArms
import Derived.DataReads
import Derived.ChangeShapes
import Derived.Test.YtmiiknkfhiecgaaDoorRows
import Derived.ProofKit
import Derived.LaidMore
import Derived.OpenShut
import Derived.Stop.Joined
import Derived.Test.YtmiiknkfhiecgaaDoorTie
import Derived.Test.YtmiiknkfhiecgaaDoorCards
import Derived.WalkKit
import Derived.ShutString
import Derived.ChangeOld
import Derived.Below
import Derived.SizedLaws
import Derived.OpenVars
import Derived.SevenTiedAt

section
namespace Go.Proofs.YtmiiknkfhiecgaaDoor.Pf
open Go.RowKit Go.Proofs.YtmiiknkfhiecgaaDoorW.PrintWords Go.Proofs.YtmiiknkfhiecgaaDoorW.PrintLast Go.Proofs.YtmiiknkfhiecgaaDoorW.PrintMore
attribute [local go_sem] max2_int min2_int max_two min_two max_three min_three max_four min_four   -- for this text's walks alone
set_option linter.unusedVariables false
set_option linter.unusedSimpArgs false
/-! ### laws_FnExactFoldBranch: function 3 -/
def laws_FnExactFoldBranch.f (k : Nat) (a0 : ByteArray) (a1 : Int) (l2 : List ByteArray) : Option (Bool) := if (a0.size : Int) > 1048576 then (some true) else ((laws_szStringS.f k l2 1048576).bind fun t121 => (if t121 < 0 then (some true) else ((laws_toStringS.f k l2).bind fun t122 => ((spec_FoldBranch.f k a0 a1 t122).bind fun t125 => ((laws_toStringS.f k l2).bind fun t126 => ((impl_FoldBranch.f k a0 a1 t126).bind fun t129 => (if t129.toList = t125.toList then ((laws_toStringS.f k l2).bind fun t130 => ((laws_eqStringS.f k t126 t130).bind fun t133 => (if t133 = true then (some true) else (some false)))) else (some false))))))))
theorem laws_FnExactFoldBranch.mono : ∀ a0 a1 a2 k, LeO (laws_FnExactFoldBranch.f k a0 a1 a2) (laws_FnExactFoldBranch.f (k + 1) a0 a1 a2) := by
 intro a0 a1 a2 k
 unfold laws_FnExactFoldBranch.f
 repeat' first
   | (with_reducible exact impl_FoldBranch.mono _ _ _ _)
   | (with_reducible exact laws_eqStringS.mono _ _ _)
   | (with_reducible exact laws_szStringS.mono _ _ _)
   | (with_reducible exact laws_toStringS.mono _ _)
   | (with_reducible exact spec_FoldBranch.mono _ _ _ _)
   | (with_reducible exact LeO.refl _)
   | (with_reducible exact LeO.none _)
   | (with_reducible refine LeO.ite ?_ ?_)
   | (with_reducible refine LeO.bind ?_ (fun _ => ?_))
   | exact impl_FoldBranch.mono _ _ _ _
   | exact laws_eqStringS.mono _ _ _
   | exact laws_szStringS.mono _ _ _
   | exact laws_toStringS.mono _ _
   | exact spec_FoldBranch.mono _ _ _ _
   | exact LeO.none _
   | refine LeO.ite ?_ ?_
   | refine LeO.bind ?_ (fun _ => ?_)
set_option maxHeartbeats 8000000 in
set_option maxRecDepth 100000 in
theorem laws_FnExactFoldBranch.calls (k : Nat) (a0 : ByteArray) (a1 : Int) (A2 : Option Addr) (c2 : Nat) (l2 : List ByteArray) (r : Bool) (w : World) (hr2 : Kd.C Kd.string w A2 l2.length l2) (hc2 : l2.length ≤ c2) (hT : Kp.Tab w) (htrue : Aside0 (r = true)) (h : laws_FnExactFoldBranch.f k a0 a1 l2 = some r) :
  Calls Tryd.prog 3 #[.string a0, .int .i64 a1, .slice A2 l2.length c2] w fun e w' => e = .returned (.bool r) ∧ Below w.heap.size w w' := by
 have HT := Aside0.mk hT
 clear hT
 have HR2 := Aside0.mk hr2
 have HC2 := Aside0.mk hc2
 clear hr2 hc2
 have HB := Aside0.mk (Below.refl w.heap.size w)
 have H : (if (a0.size : Int) > 1048576 then (some true) else ((laws_szStringS.f k l2 1048576).bind fun t121 => (if t121 < 0 then (some true) else ((laws_toStringS.f k l2).bind fun t122 => ((spec_FoldBranch.f k a0 a1 t122).bind fun t125 => ((laws_toStringS.f k l2).bind fun t126 => ((impl_FoldBranch.f k a0 a1 t126).bind fun t129 => (if t129.toList = t125.toList then ((laws_toStringS.f k l2).bind fun t130 => ((laws_eqStringS.f k t126 t130).bind fun t133 => (if t133 = true then (some true) else (some false)))) else (some false))))))))) = some r := h
 clear h
 by_cases c4 : (a0.size : Int) > 1048576
 ·rw [if_pos c4] at H
  have c4b0 : decide (1048576 < (a0.size : Int)) = true := decide_eq_true c4
  have c4b1 : decide (1048576 < a0.size) = true := decide_eq_true (by omega)
  clear c4
  obtain rfl := Option.some.inj H
  go_enter Tryd.func3, Tryd.ntmps3
  go_wp2
  go_ret
  exact ⟨by first | rfl | (simp [errW_none, errW_some] <;> rfl) | (simp [*, errW_none, errW_some] <;> rfl), bZ HB⟩
 ·rw [if_neg c4] at H
  have c4b0 : decide (1048576 < (a0.size : Int)) = false := decide_eq_false c4
  have c4b1 : decide (1048576 < a0.size) = false := decide_eq_false (by omega)
  clear c4
  replace H := Option.bind_eq_some_iff.mp H
  obtain ⟨t121, A50, H⟩ := H
  replace H : (if t121 < 0 then (some true) else ((laws_toStringS.f k l2).bind fun t122 => ((spec_FoldBranch.f k a0 a1 t122).bind fun t125 => ((laws_toStringS.f k l2).bind fun t126 => ((impl_FoldBranch.f k a0 a1 t126).bind fun t129 => (if t129.toList = t125.toList then ((laws_toStringS.f k l2).bind fun t130 => ((laws_eqStringS.f k t126 t130).bind fun t133 => (if t133 = true then (some true) else (some false)))) else (some false))))))) = some r := H
  have A5 := Aside0.mk A50
  clear A50
  by_cases c6 : t121 < 0
  ·rw [if_pos c6] at H
   have c6b0 : decide (t121 < 0) = true := decide_eq_true c6
   clear c6
   obtain rfl := Option.some.inj H
   go_enter Tryd.func3, Tryd.ntmps3
   go_wp2_with (first | ((with_reducible refine gate_callee (f := 11) rfl ?_); refine goesL_ (some 16) rfl rfl Tryd.func11 (by kernel_rfl) rfl #[.slice A2 l2.length c2, .int .i64 1048576] rfl (by (try simp only [List.map_toArray, List.map_cons, List.map_nil]); first | done | rfl | (simp only [List.length_drop, List.length_take]; rfl)) ?_; (with_reducible refine (laws_szStringS.calls k _ _ l2 1048576 t121 _ ?side1 ?side2 A5.out).mono ?_); (case side1 => repeat (first | exact HR2.out | (with_reducible refine Kd.C_alloc ?_ _) | (with_reducible refine Kd.C_drewN ?_ _) | (with_reducible refine Kd.C_drew ?_))); (case side2 => exact HC2.out); rintro e w' ⟨rfl, ⟨nd, rfl⟩⟩; refine ⟨_, rfl, ?_⟩))
   go_ret
   exact ⟨by first | rfl | (simp [errW_none, errW_some] <;> rfl) | (simp [*, errW_none, errW_some] <;> rfl), bZ HB⟩
  ·rw [if_neg c6] at H
   have c6b0 : decide (t121 < 0) = false := decide_eq_false c6
   clear c6
   replace H := Option.bind_eq_some_iff.mp H
   obtain ⟨t122, A70, H⟩ := H
   replace H : ((spec_FoldBranch.f k a0 a1 t122).bind fun t125 => ((laws_toStringS.f k l2).bind fun t126 => ((impl_FoldBranch.f k a0 a1 t126).bind fun t129 => (if t129.toList = t125.toList then ((laws_toStringS.f k l2).bind fun t130 => ((laws_eqStringS.f k t126 t130).bind fun t133 => (if t133 = true then (some true) else (some false)))) else (some false))))) = some r := H
   have A7 := Aside0.mk A70
   clear A70
   replace H := Option.bind_eq_some_iff.mp H
   obtain ⟨t125, A80, H⟩ := H
   replace H : ((laws_toStringS.f k l2).bind fun t126 => ((impl_FoldBranch.f k a0 a1 t126).bind fun t129 => (if t129.toList = t125.toList then ((laws_toStringS.f k l2).bind fun t130 => ((laws_eqStringS.f k t126 t130).bind fun t133 => (if t133 = true then (some true) else (some false)))) else (some false)))) = some r := H
   have A8 := Aside0.mk A80
   clear A80
   replace H := Option.bind_eq_some_iff.mp H
   obtain ⟨t126, A90, H⟩ := H
   replace H : ((impl_FoldBranch.f k a0 a1 t126).bind fun t129 => (if t129.toList = t125.toList then ((laws_toStringS.f k l2).bind fun t130 => ((laws_eqStringS.f k t126 t130).bind fun t133 => (if t133 = true then (some true) else (some false)))) else (some false))) = some r := H
   have A9 := Aside0.mk A90
   clear A90
   have et126_ : t122 = t126 := Option.some.inj (A7.out.symm.trans A9.out)
   subst et126_
   replace H := Option.bind_eq_some_iff.mp H
   obtain ⟨t129, A100, H⟩ := H
   replace H : (if t129.toList = t125.toList then ((laws_toStringS.f k l2).bind fun t130 => ((laws_eqStringS.f k t122 t130).bind fun t133 => (if t133 = true then (some true) else (some false)))) else (some false)) = some r := H
   have A10 := Aside0.mk A100
   clear A100
   by_cases c11 : t129.toList = t125.toList
   ·rw [if_pos c11] at H
    have c11b0 : (t129.toList == t125.toList) = true := beq_iff_eq.mpr c11
    have c11b1 : (t129.toList != t125.toList) = false := bne_eq_false_iff_eq.mpr c11
    clear c11
    replace H := Option.bind_eq_some_iff.mp H
    obtain ⟨t130, A120, H⟩ := H
    replace H : ((laws_eqStringS.f k t122 t130).bind fun t133 => (if t133 = true then (some true) else (some false))) = some r := H
    have A12 := Aside0.mk A120
    clear A120
    have et130_ : t122 = t130 := Option.some.inj (A7.out.symm.trans A12.out)
    subst et130_
    replace H := Option.bind_eq_some_iff.mp H
    obtain ⟨t133, A130, H⟩ := H
    replace H : (if t133 = true then (some true) else (some false)) = some r := H
    have A13 := Aside0.mk A130
    clear A130
    by_cases c14 : t133 = true
    ·subst c14
     have H1 : (some true) = some r := by rw [if_pos rfl] at H; exact H
     clear H
     have H := H1
     clear H1
     obtain rfl := Option.some.inj H
     go_enter Tryd.func3, Tryd.ntmps3
     go_wp2_with (first | ((with_reducible refine gate_callee (f := 11) rfl ?_); refine goesL_ (some 16) rfl rfl Tryd.func11 (by kernel_rfl) rfl #[.slice A2 l2.length c2, .int .i64 1048576] rfl (by (try simp only [List.map_toArray, List.map_cons, List.map_nil]); first | done | rfl | (simp only [List.length_drop, List.length_take]; rfl)) ?_; (with_reducible refine (laws_szStringS.calls k _ _ l2 1048576 t121 _ ?side1 ?side2 A5.out).mono ?_); (case side1 => repeat (first | exact HR2.out | (with_reducible refine Kd.C_alloc ?_ _) | (with_reducible refine Kd.C_drewN ?_ _) | (with_reducible refine Kd.C_drew ?_))); (case side2 => exact HC2.out); rintro e w' ⟨rfl, ⟨nd, rfl⟩⟩; refine ⟨_, rfl, ?_⟩) | ((with_reducible refine gate_callee (f := 13) rfl ?_); refine goesL_ (some 22) rfl rfl Tryd.func13 (by kernel_rfl) rfl #[.slice A2 l2.length c2] rfl (by (try simp only [List.map_toArray, List.map_cons, List.map_nil]); first | done | rfl | (simp only [List.length_drop, List.length_take]; rfl)) ?_; (with_reducible refine (laws_toStringS.calls k _ _ l2 t122 _ ?side1 ?side2 A7.out).mono ?_); (case side1 => repeat (first | exact HR2.out | (with_reducible refine Kd.C_alloc ?_ _) | (with_reducible refine Kd.C_drewN ?_ _) | (with_reducible refine Kd.C_drew ?_))); (case side2 => exact HC2.out); rintro e w15 ⟨v123, rfl, ho0, hb⟩; refine ⟨_, rfl, ?_⟩; have HO124 := Aside0.mk (Kd.R_lower ho0 (below_size (bZ HB))); replace HB := bS HB hb; (try clear hb); (try clear hb2); (try clear hk); (try clear hi); (try clear ho0); obtain ⟨Ao16, co16, eo16⟩ := Kd.R_slice HO124.out; subst eo16) | ((with_reducible refine gate_callee (f := 12) rfl ?_); refine goesL_ (some 23) rfl rfl Tryd.func12 (by kernel_rfl) rfl #[.string a0, .int .i64 a1, .slice Ao16 t122.length co16] rfl (by (try simp only [List.map_toArray, List.map_cons, List.map_nil]); first | done | rfl | (simp only [List.length_drop, List.length_take]; rfl)) ?_; (with_reducible refine (spec_FoldBranch.calls k a0 a1 _ _ t122 t125 _ ?side1 ?side2 A8.out).mono ?_); (case side1 => repeat (first | exact (Kd.R_reads' HO124.out).2.2 | (with_reducible refine Kd.C_alloc ?_ _) | (with_reducible refine Kd.C_drewN ?_ _) | (with_reducible refine Kd.C_drew ?_))); (case side2 => exact (Kd.R_reads' HO124.out).2.1); rintro e w17 ⟨rfl, hb⟩; refine ⟨_, rfl, ?_⟩; replace HO124 := Aside0.mk (Kd.R_below (by (with_reducible repeat (first | apply Kd.R_alloc | apply Kd.R_drewN | apply Kd.R_drew)); exact HO124.out) hb); replace HB := bS HB hb; (try clear hb); (try clear hb2); (try clear hk); (try clear hi)) | ((with_reducible refine gate_callee (f := 13) rfl ?_); refine goesL_ (some 25) rfl rfl Tryd.func13 (by kernel_rfl) rfl #[.slice A2 l2.length c2] rfl (by (try simp only [List.map_toArray, List.map_cons, List.map_nil]); first | done | rfl | (simp only [List.length_drop, List.length_take]; rfl)) ?_; (with_reducible refine (laws_toStringS.calls k _ _ l2 t122 _ ?side1 ?side2 A9.out).mono ?_); (case side1 => repeat (first | exact (Kd.C_below HR2.out HB.out) | (with_reducible refine Kd.C_alloc ?_ _) | (with_reducible refine Kd.C_drewN ?_ _) | (with_reducible refine Kd.C_drew ?_))); (case side2 => exact HC2.out); rintro e w18 ⟨v127, rfl, ho0, hb⟩; refine ⟨_, rfl, ?_⟩; have HO128 := Aside0.mk (Kd.R_lower (Kd.R_new' ho0 (Kd.R_lt (by (with_reducible repeat (first | apply Kd.R_alloc | apply Kd.R_drewN | apply Kd.R_drew)); exact HO124.out))) (below_size (bZ HB))); replace HO124 := Aside0.mk (Kd.R_elder' (by (with_reducible repeat (first | apply Kd.R_alloc | apply Kd.R_drewN | apply Kd.R_drew)); exact HO124.out) (Kd.R_base ho0) hb); replace HB := bS HB hb; (try clear hb); (try clear hb2); (try clear hk); (try clear hi); (try clear ho0); obtain ⟨Ao19, co19, eo19⟩ := Kd.R_slice HO128.out; subst eo19) | ((with_reducible refine gate_callee (f := 14) rfl ?_); refine goesL_ (some 29) rfl rfl Tryd.func14 (by kernel_rfl) rfl #[.string a0, .int .i64 a1, .slice Ao19 t122.length co19] rfl (by (try simp only [List.map_toArray, List.map_cons, List.map_nil]); first | done | rfl | (simp only [List.length_drop, List.length_take]; rfl)) ?_; (with_reducible refine (impl_FoldBranch.calls k a0 a1 _ _ t122 t129 _ ?side1 ?side2 (Kp.Tab.below HT.out (bZ HB)) A10.out).mono ?_); (case side1 => repeat (first | exact (Kd.R_reads' HO128.out).2.2 | (with_reducible refine Kd.C_alloc ?_ _) | (with_reducible refine Kd.C_drewN ?_ _) | (with_reducible refine Kd.C_drew ?_))); (case side2 => exact (Kd.R_reads' HO128.out).2.1); rintro e w20 ⟨rfl, hb⟩; refine ⟨_, rfl, ?_⟩; replace HO124 := Aside0.mk (Kd.R_below (by (with_reducible repeat (first | apply Kd.R_alloc | apply Kd.R_drewN | apply Kd.R_drew)); exact HO124.out) hb); replace HO128 := Aside0.mk (Kd.R_below (by (with_reducible repeat (first | apply Kd.R_alloc | apply Kd.R_drewN | apply Kd.R_drew)); exact HO128.out) hb); replace HB := bS HB hb; (try clear hb); (try clear hb2); (try clear hk); (try clear hi)) | ((with_reducible refine gate_callee (f := 13) rfl ?_); refine goesL_ (some 35) rfl rfl Tryd.func13 (by kernel_rfl) rfl #[.slice A2 l2.length c2] rfl (by (try simp only [List.map_toArray, List.map_cons, List.map_nil]); first | done | rfl | (simp only [List.length_drop, List.length_take]; rfl)) ?_; (with_reducible refine (laws_toStringS.calls k _ _ l2 t122 _ ?side1 ?side2 A12.out).mono ?_); (case side1 => repeat (first | exact (Kd.C_below HR2.out HB.out) | (with_reducible refine Kd.C_alloc ?_ _) | (with_reducible refine Kd.C_drewN ?_ _) | (with_reducible refine Kd.C_drew ?_))); (case side2 => exact HC2.out); rintro e w21 ⟨v131, rfl, ho0, hb⟩; refine ⟨_, rfl, ?_⟩; have HO132 := Aside0.mk (Kd.R_lower (Kd.R_new' (Kd.R_new' ho0 (Kd.R_lt (by (with_reducible repeat (first | apply Kd.R_alloc | apply Kd.R_drewN | apply Kd.R_drew)); exact HO124.out))) (Kd.R_lt (by (with_reducible repeat (first | apply Kd.R_alloc | apply Kd.R_drewN | apply Kd.R_drew)); exact HO128.out))) (below_size (bZ HB))); replace HO124 := Aside0.mk (Kd.R_elder' (by (with_reducible repeat (first | apply Kd.R_alloc | apply Kd.R_drewN | apply Kd.R_drew)); exact HO124.out) (Kd.R_base ho0) hb); replace HO128 := Aside0.mk (Kd.R_elder' (by (with_reducible repeat (first | apply Kd.R_alloc | apply Kd.R_drewN | apply Kd.R_drew)); exact HO128.out) (Kd.R_base ho0) hb); replace HB := bS HB hb; (try clear hb); (try clear hb2); (try clear hk); (try clear hi); (try clear ho0); obtain ⟨Ao22, co22, eo22⟩ := Kd.R_slice HO132.out; subst eo22) | ((with_reducible refine gate_callee (f := 15) rfl ?_); refine goesL_ (some 36) rfl rfl Tryd.func15 (by kernel_rfl) rfl #[.slice Ao19 t122.length co19, .slice Ao22 t122.length co22] rfl (by (try simp only [List.map_toArray, List.map_cons, List.map_nil]); first | done | rfl | (simp only [List.length_drop, List.length_take]; rfl)) ?_; (with_reducible refine (laws_eqStringS.calls k _ _ t122 _ _ t122 true _ ?side1 ?side2 ?side3 ?side4 A13.out).mono ?_); (case side1 => repeat (first | exact (Kd.R_reads' HO128.out).2.2 | (with_reducible refine Kd.C_alloc ?_ _) | (with_reducible refine Kd.C_drewN ?_ _) | (with_reducible refine Kd.C_drew ?_))); (case side2 => exact (Kd.R_reads' HO128.out).2.1); (case side3 => repeat (first | exact (Kd.R_reads' HO132.out).2.2 | (with_reducible refine Kd.C_alloc ?_ _) | (with_reducible refine Kd.C_drewN ?_ _) | (with_reducible refine Kd.C_drew ?_))); (case side4 => exact (Kd.R_reads' HO132.out).2.1); rintro e w' ⟨rfl, ⟨nd, rfl⟩⟩; refine ⟨_, rfl, ?_⟩))
     go_ret
     exact ⟨by first | rfl | (simp [errW_none, errW_some] <;> rfl) | (simp [*, errW_none, errW_some] <;> rfl), bZ HB⟩
    ·replace c14 := Bool.eq_false_iff.mpr c14
     subst c14
     have H1 : (some false) = some r := by rw [if_neg (show ¬ (false = true) by decide)] at H; exact H
     clear H
     have H := H1
     clear H1
     exact absurd (Option.some.inj H) (by rw [htrue.out]; exact Bool.false_ne_true)
   ·rw [if_neg c11] at H
    have c11b0 : (t129.toList == t125.toList) = false := beq_eq_false_iff_ne.mpr c11
    have c11b1 : (t129.toList != t125.toList) = true := bne_iff_ne.mpr c11
    exact absurd (Option.some.inj H) (by rw [htrue.out]; exact Bool.false_ne_true)

/-- THE ONE PURE STATEMENT of laws_FnExactFoldBranch. -/
def laws_FnExactFoldBranch.Pure : Prop := ∀ (a0 : ByteArray) (a1 : Int) (l2 : List ByteArray), a0.size ≤ 140737488351232 → (Lit.int .i64 a1).wf = true → (l2.length ≤ 9223372036854775807 ∧ ∀ y1 ∈ l2, y1.size ≤ maxLen) → ∃ k, laws_FnExactFoldBranch.f k a0 a1 l2 = some true
end Go.Proofs.YtmiiknkfhiecgaaDoor.Pf
end
section
/- What is proved here: the digest of a text is 32 bytes, the same by the program and by the reference; so is the digest of a pair. No conditions but that the texts are no longer than 100000000 bytes. -/
set_option linter.unusedVariables false
set_option linter.unusedSimpArgs false
namespace Go.Proofs.YtmiiknkfhiecgaaDoor.Tree
open Go.RowKit Go.Proofs.YtmiiknkfhiecgaaDoor.Pf Go.Proofs.YtmiiknkfhiecgaaDoorW.PrintWords
def D (t : ByteArray) : ByteArray := Kp.digI t
theorem D_size (t : ByteArray) : (D t).size = 32 := by
  unfold D Kp.digI
  rw [ByteArray.size_extract, Kp.tx_size]
  decide
theorem impl_D {t : ByteArray} (h : t.size ≤ 100000000) : impl_Digest.f t = some (D t) := by
  unfold impl_Digest.f Kp.impl_Digest.f
  rw [if_pos (by omega)]
  rfl
theorem spec_D {t : ByteArray} (h : t.size ≤ 100000000) : spec_Digest.f t = some (D t) := by
  rw [← impl_D h]
  exact (Kp.digest_eq t).symm
theorem impl_pair {a b : ByteArray} (ha : a.size ≤ 40000000) (hb : b.size ≤ 40000000) : impl_DigestPair.f a b = some (D (a ++ b)) := by
  unfold impl_DigestPair.f
  rw [if_pos (by omega), impl_D (by rw [ByteArray.size_append]; omega)]
  rfl
theorem spec_pair {a b : ByteArray} (ha : a.size ≤ 40000000) (hb : b.size ≤ 40000000) : spec_DigestPair.f a b = some (D (a ++ b)) := by
  unfold spec_DigestPair.f
  rw [if_pos (by omega), spec_D (by rw [ByteArray.size_append]; omega)]
  rfl
attribute [irreducible] D
end Go.Proofs.YtmiiknkfhiecgaaDoor.Tree
end
section
/- What is proved here: what the laws' own helpers over lists of texts answer (equal lists are equal, a copy is the list, the size taken bounds all). No conditions but that a list is no longer than a Go slice can be. -/
set_option linter.unusedVariables false
set_option linter.unusedSimpArgs false
namespace Go.Proofs.YtmiiknkfhiecgaaDoor.Strs
open Go.RowKit Go.Proofs.YtmiiknkfhiecgaaDoor.Pf Go.Proofs.YtmiiknkfhiecgaaDoorW.PrintWords

theorem wrap_in {i : Int} (h0 : -9223372036854775808 ≤ i) (h : i ≤ 9223372036854775807) : wrap64 i = i := by
  unfold wrap64; omega
theorem rdOf_get {xs : List ByteArray} {i : Nat} (h : i < xs.length) : rdOf ByteArray.empty xs (i : Int) = xs[i] := by
  unfold rdOf
  rw [Int.toNat_natCast, List.getD_eq_getElem?_getD, List.getElem?_eq_getElem h]
  rfl

theorem eqStringS_l0 (xs : List ByteArray) (hn : xs.length ≤ 9223372036854775807) (d : Nat) : ∀ (i : Int) (k : Nat), 0 ≤ i → (xs.length : Int) - i = d → d < k → laws_eqStringS.l0 k xs xs i = some true := by
  induction d with
  | zero =>
    intro i k h0 hd hk
    obtain ⟨k, rfl⟩ : ∃ m, k = m + 1 := ⟨k - 1, by omega⟩
    simp only [laws_eqStringS.l0]
    rw [if_neg (by omega)]
  | succ d ih =>
    intro i k h0 hd hk
    obtain ⟨k, rfl⟩ : ∃ m, k = m + 1 := ⟨k - 1, by omega⟩
    simp only [laws_eqStringS.l0]
    rw [if_pos (by omega), if_pos h0, if_pos (by omega), wrap_in (by omega) (by omega), if_pos trivial]
    exact ih (i + 1) k (by omega) (by omega) (by omega)
theorem eqStringS_same (xs : List ByteArray) (hn : xs.length ≤ 9223372036854775807) (k : Nat) (hk : xs.length < k) : laws_eqStringS.f k xs xs = some true := by
  unfold laws_eqStringS.f
  rw [if_pos rfl]
  exact eqStringS_l0 xs hn xs.length 0 k (by omega) (by omega) hk

theorem toStringS_l0 (xs : List ByteArray) (hn : xs.length ≤ 9223372036854775807) (d : Nat) : ∀ (i k : Nat), i + d = xs.length → d < k →
    laws_toStringS.l0 k xs (xs.take i ++ List.replicate d (⟨#[]⟩ : ByteArray)) (i : Int) = some xs := by
  induction d with
  | zero =>
    intro i k hi hk
    obtain ⟨k, rfl⟩ : ∃ m, k = m + 1 := ⟨k - 1, by omega⟩
    simp only [laws_toStringS.l0]
    rw [if_neg (by omega)]
    rw [List.take_of_length_le (by omega)]
    simp
  | succ d ih =>
    intro i k hi hk
    obtain ⟨k, rfl⟩ : ∃ m, k = m + 1 := ⟨k - 1, by omega⟩
    simp only [laws_toStringS.l0]
    rw [if_pos (by omega), if_pos (by omega), if_pos (by simp; omega), Int.toNat_natCast, wrap_in (by omega) (by omega)]
    have h1 : i < xs.length := by omega
    have hs : (xs.take i ++ List.replicate (d + 1) (⟨#[]⟩ : ByteArray)).set i (rdOf ByteArray.empty xs (i : Int)) = xs.take (i + 1) ++ List.replicate d (⟨#[]⟩ : ByteArray) := by
      rw [List.set_append_right _ _ (by simp; omega), rdOf_get h1]
      rw [List.take_succ_eq_append_getElem h1, List.length_take, Nat.min_eq_left (by omega), Nat.sub_self, List.replicate_succ, List.set_cons_zero]
      rw [List.append_assoc, List.singleton_append]
    rw [hs, show (i : Int) + 1 = ((i + 1 : Nat) : Int) by omega]
    exact ih (i + 1) k (by omega) (by omega)
theorem toStringS_f (xs : List ByteArray) (hn : xs.length ≤ 17592186044416) (k : Nat) (hk : xs.length < k) : laws_toStringS.f k xs = some xs := by
  unfold laws_toStringS.f
  rw [if_pos (by omega), Int.toNat_natCast, if_pos hn]
  have h := toStringS_l0 xs (by omega) xs.length 0 k (by omega) hk
  simpa using h

def total (xs : List ByteArray) : Nat := (xs.map ByteArray.size).sum
theorem total_cons (x : ByteArray) (xs : List ByteArray) : total (x :: xs) = x.size + total xs := by simp [total]
theorem total_mem {x : ByteArray} {xs : List ByteArray} (h : x ∈ xs) : x.size ≤ total xs := by
  induction xs with
  | nil => simp at h
  | cons y ys ih =>
    rw [total_cons]
    rcases List.mem_cons.1 h with rfl | h
    · omega
    · have := ih h; omega
theorem szStringS_l0 (xs : List ByteArray) (hn : xs.length ≤ 9223372036854775807) (hs : ∀ y ∈ xs, y.size ≤ 9223372036854775807) (d : Nat) : ∀ (i k : Nat) (left : Int), i + d = xs.length → d < k → 0 ≤ left → left ≤ 1048576 →
    ∃ r, laws_szStringS.l0 k xs left (i : Int) = some r ∧ (r < 0 ∨ (r = left - total (xs.drop i))) := by
  induction d with
  | zero =>
    intro i k left hi hk h0 h1
    obtain ⟨k, rfl⟩ : ∃ m, k = m + 1 := ⟨k - 1, by omega⟩
    simp only [laws_szStringS.l0]
    rw [if_neg (by omega)]
    refine ⟨_, rfl, Or.inr ?_⟩
    rw [List.drop_of_length_le (by omega)]
    simp [total]
  | succ d ih =>
    intro i k left hi hk h0 h1
    obtain ⟨k, rfl⟩ : ∃ m, k = m + 1 := ⟨k - 1, by omega⟩
    have h2 : i < xs.length := by omega
    have h3 := hs xs[i] (List.getElem_mem h2)
    simp only [laws_szStringS.l0]
    rw [if_pos (by omega), if_pos (by omega), rdOf_get h2, wrap_in (by omega) (by omega), wrap_in (by omega) (by omega)]
    by_cases c : left - (xs[i].size : Int) < 0
    · rw [if_pos c]
      exact ⟨_, rfl, Or.inl (by decide)⟩
    · rw [if_neg c, show (i : Int) + 1 = ((i + 1 : Nat) : Int) by omega]
      obtain ⟨r, hr, hr2⟩ := ih (i + 1) k (left - xs[i].size) (by omega) (by omega) (by omega) (by omega)
      refine ⟨r, hr, ?_⟩
      rcases hr2 with h | h
      · exact Or.inl h
      · right
        rw [List.drop_eq_getElem_cons h2, total_cons]
        omega
theorem szStringS_f (xs : List ByteArray) (hn : xs.length ≤ 9223372036854775807) (hs : ∀ y ∈ xs, y.size ≤ 9223372036854775807) (k : Nat) (hk : 1048577 < k) :
    ∃ r, laws_szStringS.f k xs 1048576 = some r ∧ (r < 0 ∨ ((xs.length : Int) + total xs ≤ 1048576)) := by
  unfold laws_szStringS.f
  rw [wrap_in (by omega) (by omega)]
  by_cases c : (1048576 : Int) - (xs.length : Int) < 0
  · rw [if_pos c]
    exact ⟨_, rfl, Or.inl (by decide)⟩
  · rw [if_neg c]
    obtain ⟨r, hr, hr2⟩ := szStringS_l0 xs hn hs xs.length 0 k (1048576 - xs.length) (by omega) (by omega) (by omega) (by omega)
    refine ⟨r, hr, ?_⟩
    rw [List.drop_zero] at hr2
    rcases hr2 with h | h
    · exact Or.inl h
    · by_cases c2 : r < 0
      · exact Or.inl c2
      · right; omega
end Go.Proofs.YtmiiknkfhiecgaaDoor.Strs
end
section
/- What is proved here: what FoldBranch answers, as the program and as the reference write it. No conditions but that the texts are no longer than 2^20 bytes. -/
set_option linter.unusedVariables false
set_option linter.unusedSimpArgs false
namespace Go.Proofs.YtmiiknkfhiecgaaDoor.Tree
open Go.RowKit Go.Proofs.YtmiiknkfhiecgaaDoor.Pf Go.Proofs.YtmiiknkfhiecgaaDoorW.PrintWords Go.Proofs.YtmiiknkfhiecgaaDoor.Strs
def jb (n i : Nat) : Bool := n / 2 ^ i % 2 == 1
theorem bit_dec : ∀ n : Nat, n < 32 → ∀ i : Nat, i < 5 → 0 ≤ IntKind.u64.wrap (i : Int) ∧ (Go.bits .and .i64 (shr .i64 (n : Int) (IntKind.u64.wrap (i : Int))) 1 = 1 ↔ jb n i = true) ∧ (Int.tmod (shr .i64 (n : Int) (IntKind.u64.wrap (i : Int))) 2 = 1 ↔ jb n i = true) := by decide +kernel
theorem shl_dec : ∀ n : Nat, n < 6 → 0 ≤ IntKind.u64.wrap (n : Int) ∧ shl .i64 1 (IntKind.u64.wrap (n : Int)) = ((2 ^ n : Nat) : Int) ∧ wrap64 (((2 ^ n : Nat) : Int) - 1) = ((2 ^ n : Nat) : Int) - 1 := by decide +kernel
/-- The node above x, by way of the texts beside. -/
def up (n : Nat) : ByteArray → List ByteArray → Nat → ByteArray
  | x, [], _ => x
  | x, b :: bs, k => up n (if jb n k then D (b ++ x) else D (x ++ b)) bs (k + 1)
theorem up_size (n : Nat) (bs : List ByteArray) : ∀ (x : ByteArray) (k : Nat), x.size = 32 → (up n x bs k).size = 32 := by
  induction bs with
  | nil => intro x k h; exact h
  | cons b bs ih => intro x k h; exact ih _ _ (by split <;> exact D_size _)
def foldB (leaf : ByteArray) (i : Int) (bs : List ByteArray) : ByteArray := if bs.length ≤ 5 ∧ 0 ≤ i ∧ i < ((2 ^ bs.length : Nat) : Int) then up i.toNat (D leaf) bs 0 else ByteArray.empty
theorem impl_l0 (n : Nat) (hn : n < 32) (l : List ByteArray) (hl : l.length ≤ 5) (hs : ∀ y ∈ l, y.size ≤ 1048576) (d : Nat) : ∀ (i k : Nat) (x : ByteArray), i + d = l.length → d < k → x.size = 32 →
    impl_FoldBranch.l0 k (n : Int) x l (l.length : Int) (i : Int) = some (up n x (l.drop i) i) := by
  induction d with
  | zero =>
    intro i k x hi hk hx
    obtain ⟨k, rfl⟩ : ∃ m, k = m + 1 := ⟨k - 1, by omega⟩
    simp only [impl_FoldBranch.l0]
    rw [if_neg (by omega), List.drop_of_length_le (by omega)]
    rfl
  | succ d ih =>
    intro i k x hi hk hx
    obtain ⟨k, rfl⟩ : ∃ m, k = m + 1 := ⟨k - 1, by omega⟩
    have h2 : i < l.length := by omega
    have h3 := hs l[i] (List.getElem_mem h2)
    obtain ⟨b0, b1, _⟩ := bit_dec n hn i (by omega)
    simp only [impl_FoldBranch.l0]
    rw [if_pos (by omega), if_pos (by omega), if_pos (by omega), if_pos b0, rdOf_get h2, wrap_in (by omega) (by omega), List.drop_eq_getElem_cons h2, show (i : Int) + 1 = ((i + 1 : Nat) : Int) by omega]
    by_cases c : jb n i = true
    · rw [if_pos (b1.2 c), impl_pair (by omega) (by omega), Option.bind_some, ih (i + 1) k _ (by omega) (by omega) (D_size _)]
      simp only [up, c, if_true]
    · rw [if_neg (fun e => c (b1.1 e)), impl_pair (by omega) (by omega), Option.bind_some, ih (i + 1) k _ (by omega) (by omega) (D_size _)]
      simp only [up]
      rw [if_neg c]
theorem spec_l0 (n : Nat) (hn : n < 32) (l : List ByteArray) (hl : l.length ≤ 5) (hs : ∀ y ∈ l, y.size ≤ 1048576) (d : Nat) : ∀ (i k : Nat) (x : ByteArray), i + d = l.length → d < k → x.size = 32 →
    spec_FoldBranch.l0 k (n : Int) l x (i : Int) = some (up n x (l.drop i) i) := by
  induction d with
  | zero =>
    intro i k x hi hk hx
    obtain ⟨k, rfl⟩ : ∃ m, k = m + 1 := ⟨k - 1, by omega⟩
    simp only [spec_FoldBranch.l0]
    rw [if_neg (by omega), List.drop_of_length_le (by omega)]
    rfl
  | succ d ih =>
    intro i k x hi hk hx
    obtain ⟨k, rfl⟩ : ∃ m, k = m + 1 := ⟨k - 1, by omega⟩
    have h2 : i < l.length := by omega
    have h3 := hs l[i] (List.getElem_mem h2)
    obtain ⟨b0, _, b1⟩ := bit_dec n hn i (by omega)
    simp only [spec_FoldBranch.l0]
    rw [if_pos (by omega), if_pos b0, if_pos (show (0 : Int) ≤ (i : Int) by omega), rdOf_get h2, wrap_in (by omega) (by omega), List.drop_eq_getElem_cons h2, show (i : Int) + 1 = ((i + 1 : Nat) : Int) by omega]
    by_cases c : jb n i = true
    · rw [if_pos (b1.2 c), spec_pair (by omega) (by omega), Option.bind_some, ih (i + 1) k _ (by omega) (by omega) (D_size _)]
      simp only [up, c, if_true]
    · rw [if_neg (fun e => c (b1.1 e)), if_pos (show (0 : Int) ≤ (i : Int) by omega), spec_pair (by omega) (by omega), Option.bind_some, ih (i + 1) k _ (by omega) (by omega) (D_size _)]
      simp only [up]
      rw [if_neg c]
theorem pow_small {n : Nat} (h : n ≤ 5) : 1 ≤ 2 ^ n ∧ 2 ^ n ≤ 32 := by
  have : ∀ m : Nat, m < 6 → 1 ≤ 2 ^ m ∧ 2 ^ m ≤ 32 := by decide
  exact this n (by omega)
theorem impl_fold (k : Nat) (hk : 8 < k) (leaf : ByteArray) (i : Int) (l : List ByteArray) (h0 : leaf.size ≤ 10000000) (hs : ∀ y ∈ l, y.size ≤ 1048576) : impl_FoldBranch.f k leaf i l = some (foldB leaf i l) := by
  obtain ⟨k, rfl⟩ : ∃ m, k = m + 1 := ⟨k - 1, by omega⟩
  have fj : impl_FoldBranch.j0 (k + 1) leaf i l true = some ByteArray.empty := by simp only [impl_FoldBranch.j0, if_true]; rfl
  unfold impl_FoldBranch.f foldB
  by_cases c1 : l.length ≤ 5
  case neg => rw [if_pos (by omega), fj, if_neg (by omega)]
  rw [if_neg (by omega)]
  by_cases c2 : i < 0
  · rw [if_pos c2, fj, if_neg (by omega)]
  obtain ⟨b0, b1, _⟩ := shl_dec l.length (by omega)
  rw [if_neg c2, if_pos b0, b1]
  have hp := pow_small c1
  generalize 2 ^ l.length = P at hp
  by_cases c3 : i < (P : Int)
  case neg => rw [decide_eq_true (by omega), fj, if_neg (by omega)]
  rw [decide_eq_false (by omega), if_pos ⟨c1, by omega, c3⟩]
  simp only [impl_FoldBranch.j0]
  rw [if_neg (by decide), impl_D (by omega), Option.bind_some]
  obtain ⟨n, rfl⟩ : ∃ n : Nat, i = (n : Int) := ⟨i.toNat, by omega⟩
  exact impl_l0 n (by omega) l c1 hs l.length 0 k (D leaf) (by omega) (by omega) (D_size _)
theorem l01In_f (a b c : Int) : spec_l01In.f a b c = some (decide (b ≤ a ∧ a ≤ c)) := by
  unfold spec_l01In.f
  by_cases h : a ≥ b
  · rw [if_pos h]; congr 1; apply decide_eq_decide.2; omega
  · rw [if_neg h, decide_eq_false (by omega)]
theorem spec_fold (k : Nat) (hk : 8 < k) (leaf : ByteArray) (i : Int) (l : List ByteArray) (h0 : leaf.size ≤ 10000000) (hs : ∀ y ∈ l, y.size ≤ 1048576) : spec_FoldBranch.f k leaf i l = some (foldB leaf i l) := by
  obtain ⟨k, rfl⟩ : ∃ m, k = m + 1 := ⟨k - 1, by omega⟩
  have fj : spec_FoldBranch.j0 (k + 1) leaf i l true = some ByteArray.empty := by simp only [spec_FoldBranch.j0, if_true]; rfl
  unfold spec_FoldBranch.f foldB
  by_cases c1 : l.length ≤ 5
  case neg => rw [if_pos (by omega), fj, if_neg (by omega)]
  obtain ⟨b0, b1, b2⟩ := shl_dec l.length (by omega)
  rw [if_neg (by omega), if_pos b0, b1, b2, l01In_f, Option.bind_some]
  have hp := pow_small c1
  generalize 2 ^ l.length = P at hp
  by_cases c3 : 0 ≤ i ∧ i < (P : Int)
  case neg => rw [decide_eq_false (by omega), Bool.not_false, fj, if_neg (by omega)]
  rw [decide_eq_true (by omega), Bool.not_true, if_pos ⟨c1, by omega, by omega⟩]
  simp only [spec_FoldBranch.j0]
  rw [if_neg (by decide), spec_D (by omega), Option.bind_some]
  obtain ⟨n, rfl⟩ : ∃ n : Nat, i = (n : Int) := ⟨i.toNat, by omega⟩
  exact spec_l0 n (by omega) l c1 hs l.length 0 k (D leaf) (by omega) (by omega) (D_size _)
end Go.Proofs.YtmiiknkfhiecgaaDoor.Tree
end
section
/- What is proved here: for every leaf, place and branch the program's FoldBranch and the reference's answer the same text. No conditions. -/
set_option linter.unusedVariables false
set_option linter.unusedSimpArgs false
namespace Go.Proofs.YtmiiknkfhiecgaaDoor.Pure
open Go.RowKit Go.Proofs.YtmiiknkfhiecgaaDoor.Pf Go.Proofs.YtmiiknkfhiecgaaDoorW.PrintWords Go.Proofs.YtmiiknkfhiecgaaDoor.Strs Go.Proofs.YtmiiknkfhiecgaaDoor.Tree
theorem FnExactFoldBranch : laws_FnExactFoldBranch.Pure := by
  intro a0 a1 l2 h0 h1 h2
  refine ⟨2000000, ?_⟩
  obtain ⟨r, hr, hr2⟩ := szStringS_f l2 h2.1 (fun y hy => Nat.le_trans (h2.2 y hy) (by decide)) 2000000 (by decide)
  unfold laws_FnExactFoldBranch.f
  by_cases c0 : (a0.size : Int) > 1048576
  · rw [if_pos c0]
  rw [if_neg c0, hr, Option.bind_some]
  by_cases c1 : r < 0
  · rw [if_pos c1]
  have hb := hr2.resolve_left c1
  have hs : ∀ y ∈ l2, y.size ≤ 1048576 := fun y hy => by have := total_mem hy; omega
  rw [if_neg c1, toStringS_f l2 (by omega) 2000000 (by omega), Option.bind_some, spec_fold 2000000 (by decide) a0 a1 l2 (by omega) hs, Option.bind_some, Option.bind_some, impl_fold 2000000 (by decide) a0 a1 l2 (by omega) hs, Option.bind_some, if_pos rfl, Option.bind_some,
    eqStringS_same l2 (by omega) 2000000 (by omega), Option.bind_some, if_pos rfl]
end Go.Proofs.YtmiiknkfhiecgaaDoor.Pure
end
section
/- What is proved here: a value of a Go type that reads as data opens into the print's own kinds (Kd), for whole numbers, bools, strings, slices and structs. No conditions. -/
set_option linter.unusedVariables false
set_option linter.unusedSimpArgs false
namespace Go.Proofs.YtmiiknkfhiecgaaDoor.Open
open Go.RowKit Go.Proofs.YtmiiknkfhiecgaaDoorW.PrintWords Go.ChangeShapes Go.WideShapes

def Opens (P : Program) (t : TypeId) {α : Type} (d : Kd α) (g : α → Prop) : Prop :=
  ∀ {H : Type} (enc : TypeId × Value → H) (w : World) (base : Nat) (spare : Nat → Bool) (held : Bool) (fuel : Nat) (cs : List Value) (x : DataW H × List MemPlace),
    DataW.trod enc P w base spare held fuel t cs = some x → ∃ a, d.K w a cs ∧ g a

theorem list_of {α : Type} {p : Nat → α → Prop} : ∀ n, (∀ i, i < n → ∃ y, p i y) → ∃ ys : List α, ys.length = n ∧ ∀ i y, ys[i]? = some y → p i y
  | 0, _ => ⟨[], rfl, fun i y h => by simp at h⟩
  | n + 1, h => by
    obtain ⟨ys, hl, hy⟩ := list_of n (fun i hi => h i (by omega))
    obtain ⟨y, hy'⟩ := h n (by omega)
    refine ⟨ys ++ [y], by simp [hl], fun i z hz => ?_⟩
    rcases Nat.lt_or_ge i n with hi | hi
    · rw [List.getElem?_append_left (by omega)] at hz
      exact hy i z hz
    · have h1 := (List.getElem?_eq_some_iff.1 hz).1
      rw [List.length_append, List.length_singleton] at h1
      have h2 : i = n := by omega
      subst h2
      rw [List.getElem?_append_right (by omega), hl, Nat.sub_self] at hz
      simp at hz
      subst hz
      exact hy'

section
variable {P : Program} {t : TypeId}
theorem opens_int {k : IntKind} (h : P.underlying t = some (.int k)) : Opens P t (Kd.int k) (fun n => (Lit.int k n).wf = true) := by
  intro H enc w base spare held fuel cs x hx
  obtain ⟨n, rfl, _, hw⟩ := DataW.trod_int h hx
  exact ⟨n, rfl, hw⟩
theorem opens_bool (h : P.underlying t = some .bool) : Opens P t Kd.bool (fun _ => True) := by
  intro H enc w base spare held fuel cs x hx
  obtain ⟨b, hb⟩ : ∃ b, cs = [.bool b] := by
    cases fuel with
    | zero => simp [DataW.trod] at hx
    | succ n =>
      unfold DataW.trod at hx
      rw [h] at hx
      split at hx <;> simp_all
  exact ⟨b, hb, trivial⟩
theorem opens_string (h : P.underlying t = some .string) : Opens P t Kd.string (fun s => s.size ≤ maxLen) := by
  intro H enc w base spare held fuel cs x hx
  obtain ⟨n, rfl, _, hw⟩ := DataW.trod_string h hx
  exact ⟨n, rfl, hw⟩
theorem opens_slice {e : TypeId} {α : Type} {d : Kd α} {g : α → Prop} (ht : P.underlying t = some (.slice e)) (hc : P.cellsOf e = d.sz) (he : Opens P e d g) :
    Opens P t (Kd.slice e d) (fun xs => xs.length ≤ 9223372036854775807 ∧ ∀ x ∈ xs, g x) := by
  intro H enc w base spare held fuel cs x h
  rcases Go.Deep.open_slice ht h with ⟨rfl, _⟩ | ⟨a, len, cap, m, n, D, Pl, rfl, hb, hl, hm, hmm, _, hx⟩
  · exact ⟨[], ⟨none, 0, rfl, Nat.le_refl _, Kd.C_nil d w⟩, by simp, fun x hx => by cases hx⟩
  · have hlm : len ≤ m := by rw [hmm]; split <;> omega
    obtain ⟨ys, hy1, hy2⟩ := list_of (p := fun i y => ∃ c, w.cells? base (a.add (i * P.cellsOf e)) (P.cellsOf e) = some c ∧ d.K w y c ∧ g y) len (fun i hi => by
      obtain ⟨c, h1, h2⟩ := hx i (by omega)
      obtain ⟨y, h3, h4⟩ := he _ _ _ _ _ _ _ _ h2
      exact ⟨y, c, h1, h3, h4⟩)
    unfold maxLen at hm
    refine ⟨ys, ⟨some a, cap, by rw [hy1], by omega, rfl, by omega, fun _ => ⟨a, rfl, fun j p hp => ?_⟩⟩, by omega, fun y hy => ?_⟩
    · obtain ⟨c, h1, h2, h3⟩ := hy2 j p hp
      obtain ⟨_, hlen, hcell⟩ := World.cells?_some h1
      refine ⟨c, by rw [hlen, hc], h2, fun i u hu => ?_⟩
      have hi := (List.getElem?_eq_some_iff.1 hu).1
      have := hcell i (by omega)
      rw [Go.Deep.add_add, hc] at this
      rw [this, hu]
    · obtain ⟨i, hi⟩ := List.mem_iff_getElem?.1 hy
      obtain ⟨c, h1, h2, h3⟩ := hy2 i y hi
      exact h3
theorem opens_iso {α β : Type} {d : Kd α} {g : α → Prop} (f : β → α) (mk : α → β) (hf : ∀ a, f (mk a) = a) (h : Opens P t d g) : Opens P t (Kd.iso d f) (fun x => g (f x)) := by
  intro H enc w base spare held fuel cs x hx
  obtain ⟨a, h1, h2⟩ := h enc w base spare held fuel cs x hx
  exact ⟨mk a, by show d.K w (f (mk a)) cs; rw [hf]; exact h1, by show g (f (mk a)); rw [hf]; exact h2⟩
theorem struct_field {fs : Array Field} {H : Type} {enc : TypeId × Value → H} {w : World} {base : Nat} {spare : Nat → Bool} {held : Bool} {n : Nat} {cs : List Value} {xs : List (DataW H × List MemPlace)} (hl : xs.length = fs.size)
    (hf : ∀ (i : Nat) (f : Field), fs[i]? = some f → DataW.trod enc P w base spare held n f.type ((cs.drop f.offset).take (P.cellsOf f.type)) = xs[i]?) {i : Nat} {f : Field} (hi : fs[i]? = some f) {α : Type} {d : Kd α} {g : α → Prop} (ho : Opens P f.type d g) :
    ∃ a, d.K w a ((cs.drop f.offset).take (P.cellsOf f.type)) ∧ g a := by
  have h1 := hf i f hi
  have h2 : i < xs.length := by rw [hl]; exact (Array.getElem?_eq_some_iff.1 hi).1
  rw [List.getElem?_eq_getElem h2] at h1
  exact ho _ _ _ _ _ _ _ _ h1
theorem opens_struct1 {f0 : Field} {α : Type} {d0 : Kd α} {g0 : α → Prop} (ht : P.underlying t = some (.struct #[f0])) (h0 : Opens P f0.type d0 g0)
    (s0 : P.cellsOf f0.type = d0.sz) (o0 : f0.offset = 0) (st : P.cellsOf t = d0.sz) : Opens P t d0 g0 := by
  intro H enc w base spare held fuel cs x hx
  obtain ⟨xs, n, _, _, hlen, hl, hf⟩ := DataW.trod_struct ht hx
  obtain ⟨a, ha, hg⟩ := struct_field hl hf (i := 0) (f := f0) rfl h0
  rw [o0, s0, List.drop_zero, List.take_of_length_le (by omega)] at ha
  exact ⟨a, ha, hg⟩
theorem opens_struct2 {f0 f1 : Field} {α β : Type} {d0 : Kd α} {d1 : Kd β} {g0 : α → Prop} {g1 : β → Prop} (ht : P.underlying t = some (.struct #[f0, f1])) (h0 : Opens P f0.type d0 g0) (h1 : Opens P f1.type d1 g1)
    (s0 : P.cellsOf f0.type = d0.sz) (s1 : P.cellsOf f1.type = d1.sz) (o0 : f0.offset = 0) (o1 : f1.offset = d0.sz) (st : P.cellsOf t = d0.sz + d1.sz) : Opens P t (Kd.pair d0 d1) (fun x => g0 x.1 ∧ g1 x.2) := by
  intro H enc w base spare held fuel cs x hx
  obtain ⟨xs, n, _, _, hlen, hl, hf⟩ := DataW.trod_struct ht hx
  obtain ⟨a, ha, ga⟩ := struct_field hl hf (i := 0) (f := f0) rfl h0
  obtain ⟨b, hb, gb⟩ := struct_field hl hf (i := 1) (f := f1) rfl h1
  rw [o0, s0, List.drop_zero] at ha
  rw [o1, s1, List.take_of_length_le (by rw [List.length_drop]; omega)] at hb
  exact ⟨(a, b), ⟨_, _, (List.take_append_drop d0.sz cs).symm, ha, hb⟩, ga, gb⟩
theorem opens_struct3 {f0 f1 f2 : Field} {α β γ : Type} {d0 : Kd α} {d1 : Kd β} {d2 : Kd γ} {g0 : α → Prop} {g1 : β → Prop} {g2 : γ → Prop} (ht : P.underlying t = some (.struct #[f0, f1, f2])) (h0 : Opens P f0.type d0 g0) (h1 : Opens P f1.type d1 g1) (h2 : Opens P f2.type d2 g2)
    (s0 : P.cellsOf f0.type = d0.sz) (s1 : P.cellsOf f1.type = d1.sz) (s2 : P.cellsOf f2.type = d2.sz) (o0 : f0.offset = 0) (o1 : f1.offset = d0.sz) (o2 : f2.offset = d0.sz + d1.sz) (st : P.cellsOf t = d0.sz + d1.sz + d2.sz) :
    Opens P t (Kd.pair d0 (Kd.pair d1 d2)) (fun x => g0 x.1 ∧ g1 x.2.1 ∧ g2 x.2.2) := by
  intro H enc w base spare held fuel cs x hx
  obtain ⟨xs, n, _, _, hlen, hl, hf⟩ := DataW.trod_struct ht hx
  obtain ⟨a, ha, ga⟩ := struct_field hl hf (i := 0) (f := f0) rfl h0
  obtain ⟨b, hb, gb⟩ := struct_field hl hf (i := 1) (f := f1) rfl h1
  obtain ⟨c, hc, gc⟩ := struct_field hl hf (i := 2) (f := f2) rfl h2
  rw [o0, s0, List.drop_zero] at ha
  rw [o1, s1] at hb
  rw [o2, s2, List.take_of_length_le (by rw [List.length_drop]; omega)] at hc
  refine ⟨(a, b, c), ⟨_, _, (List.take_append_drop d0.sz cs).symm, ha, _, _, (List.take_append_drop d1.sz _).symm, hb, ?_⟩, ga, gb, gc⟩
  rw [List.drop_drop]
  exact hc
theorem opens_struct4 {f0 f1 f2 f3 : Field} {α β γ δ : Type} {d0 : Kd α} {d1 : Kd β} {d2 : Kd γ} {d3 : Kd δ} {g0 : α → Prop} {g1 : β → Prop} {g2 : γ → Prop} {g3 : δ → Prop} (ht : P.underlying t = some (.struct #[f0, f1, f2, f3]))
    (h0 : Opens P f0.type d0 g0) (h1 : Opens P f1.type d1 g1) (h2 : Opens P f2.type d2 g2) (h3 : Opens P f3.type d3 g3)
    (s0 : P.cellsOf f0.type = d0.sz) (s1 : P.cellsOf f1.type = d1.sz) (s2 : P.cellsOf f2.type = d2.sz) (s3 : P.cellsOf f3.type = d3.sz) (o0 : f0.offset = 0) (o1 : f1.offset = d0.sz) (o2 : f2.offset = d0.sz + d1.sz) (o3 : f3.offset = d0.sz + d1.sz + d2.sz)
    (st : P.cellsOf t = d0.sz + d1.sz + d2.sz + d3.sz) :
    Opens P t (Kd.pair d0 (Kd.pair d1 (Kd.pair d2 d3))) (fun x => g0 x.1 ∧ g1 x.2.1 ∧ g2 x.2.2.1 ∧ g3 x.2.2.2) := by
  intro H enc w base spare held fuel cs x hx
  obtain ⟨xs, n, _, _, hlen, hl, hf⟩ := DataW.trod_struct ht hx
  obtain ⟨a, ha, ga⟩ := struct_field hl hf (i := 0) (f := f0) rfl h0
  obtain ⟨b, hb, gb⟩ := struct_field hl hf (i := 1) (f := f1) rfl h1
  obtain ⟨c, hc, gc⟩ := struct_field hl hf (i := 2) (f := f2) rfl h2
  obtain ⟨d, hd, gd⟩ := struct_field hl hf (i := 3) (f := f3) rfl h3
  rw [o0, s0, List.drop_zero] at ha
  rw [o1, s1] at hb
  rw [o2, s2] at hc
  rw [o3, s3, List.take_of_length_le (by rw [List.length_drop]; omega)] at hd
  refine ⟨(a, b, c, d), ⟨_, _, (List.take_append_drop d0.sz cs).symm, ha, _, _, (List.take_append_drop d1.sz _).symm, hb, _, _, (List.take_append_drop d2.sz _).symm, ?_, ?_⟩, ga, gb, gc, gd⟩
  · rw [List.drop_drop]
    exact hc
  · rw [List.drop_drop, List.drop_drop, ← Nat.add_assoc]
    exact hd
end
end Go.Proofs.YtmiiknkfhiecgaaDoor.Open
end
section
/- What is proved here: the listed tables, as the row's condition lays them, stand in memory; the door's own heap meets the condition. No conditions but those that each theorem names. -/
namespace Go.Proofs.YtmiiknkfhiecgaaDoor.Laid
open Go.ChangeShapes Go.WideShapes Go.ChangeAt Go.RowKit
set_option maxRecDepth 100000
theorem arr_cells {P : Program} {H : Type} {enc : TypeId × Value → H} {w : World} {spare : Nat → Bool} {held : Bool} {fuel : Nat} {t e : TypeId} {n : Nat} {k : IntKind} {cs : List Value} {L : List Int} {p : List MemPlace}
    (ht : P.underlying t = some (.array n e)) (he : P.underlying e = some (.int k)) (c1 : P.cellsOf e = 1)
    (hd : DataW.trod enc P w 0 spare held fuel t cs = some (.agg (L.map fun z => .lit (.int k z)), p)) :
    ∀ i : Nat, i < n → cs[i]? = some (.int k (Kp.ga L i)) := by
  intro i hi
  obtain ⟨xs, m, rfl, hx, hlen, hn, hel⟩ := DataW.trod_array ht hd
  have h1 := hel i hi
  rw [c1, Nat.mul_one] at h1
  have hi' : i < xs.length := hn.symm ▸ hi
  rw [List.getElem?_eq_getElem hi'] at h1
  obtain ⟨z, hz, hz2, _⟩ := DataW.trod_int he h1
  simp only [Prod.mk.injEq, DataW.agg.injEq] at hx
  have hL : (L.map fun z => (DataW.lit (.int k z) : DataW H))[i]? = (xs.map (·.1))[i]? := by rw [hx.1]
  rw [List.getElem?_map, List.getElem?_map, List.getElem?_eq_getElem hi', hz2] at hL
  have hLz : Kp.ga L i = z := by
    unfold Kp.ga
    rw [List.getD_eq_getElem?_getD]
    cases hq : L[i]? with
    | none => rw [hq] at hL; simp at hL
    | some y => rw [hq] at hL; simpa using hL
  rw [hLz]
  have h2 : ((cs.drop i).take 1)[0]? = some (.int k z) := by rw [hz]; rfl
  simpa using h2
theorem gR : Tryd.prog.globalNamed "loop.example/g00321/impl.roundConstants" = some 1 := by kernel_rfl
theorem gT : Tryd.prog.globalNamed "loop.example/g00321/impl.turns" = some 0 := by kernel_rfl
theorem tR : (Tryd.prog.globals[1]?).map (·.type) = some 96 := by kernel_rfl
theorem tT : (Tryd.prog.globals[0]?).map (·.type) = some 120 := by kernel_rfl
abbrev laidL : List (String × DataW Unit) := [("loop.example/g00321/impl.roundConstants", Rows.laid_loop_example_g00321_impl_roundConstants), ("loop.example/g00321/impl.turns", Rows.laid_loop_example_g00321_impl_turns)]
theorem cell_lt {W : World} {g i : Nat} {v : Value} (h : W.cell? ⟨g, i, none⟩ = some v) : g < W.heap.size := by
  unfold World.cell? at h
  by_cases hg : g < W.heap.size
  · exact hg
  · simp [hg] at h
theorem tab {W : World} (h : laidMetH Tryd.prog laidL W) : Kp.Tab W := by
  rw [MakeChecks.laidMetH_plain _ _ _ (by kernel_rfl)] at h
  obtain ⟨ps, ⟨g0, t0, cs0, f0, p0, q0, hg0, ht0, hv0, hd0, ⟨g1, t1, cs1, f1, p1, q1, hg1, ht1, hv1, hd1, _, _⟩, _⟩, _, _⟩ := h
  obtain rfl := Option.some.inj (gR.symm.trans hg0)
  obtain rfl := Option.some.inj (gT.symm.trans hg1)
  obtain rfl := Option.some.inj (tR.symm.trans ht0)
  obtain rfl := Option.some.inj (tT.symm.trans ht1)
  have r : ∀ i : Nat, i < 24 → W.cell? ⟨1, i, none⟩ = some (.int .u64 (Kp.ga Kp.rcL i)) := fun i hi => by
    rw [World.var?_cell hg0 hv0 i, ← Array.getElem?_toList]
    exact arr_cells (L := Kp.rcL) Tryd.underlying96 Tryd.underlying73 (by kernel_rfl) hd0 i hi
  have t : ∀ i : Nat, i < 25 → W.cell? ⟨0, i, none⟩ = some (.int .i64 (Kp.ga Kp.turnsL i)) := fun i hi => by
    rw [World.var?_cell hg1 hv1 i, ← Array.getElem?_toList]
    exact arr_cells (L := Kp.turnsL) Tryd.underlying120 Tryd.underlying3 (by kernel_rfl) hd1 i hi
  exact ⟨t, r, cell_lt (t 0 (by decide)), cell_lt (r 0 (by decide))⟩
/-- The door's own heap meets the condition. -/
theorem door_met (os : Os) (args : Array Value) : laidMetH Tryd.prog laidL ((World.doorLaid Tryd.prog 400 os).forCall (fun _ _ => 0) ⟨#[], args, []⟩).memory :=
  laidMetH_of_parts3 (fuel := 8) (laidMet_of_run' 8 (by kernel_rfl) (by kernel_rfl)) (by kernel_rfl) (by kernel_rfl)
#print axioms door_met
#print axioms tab
end Go.Proofs.YtmiiknkfhiecgaaDoor.Laid
end
section
namespace Go.Proofs.YtmiiknkfhiecgaaDoor.fnExactFoldBranch
open Go.ChangeShapes Go.WideShapes Go.ChangeAt Go.RowKit Go.Proofs.YtmiiknkfhiecgaaDoorW.PrintWords Go.Proofs.YtmiiknkfhiecgaaDoor.Open Go.Proofs.YtmiiknkfhiecgaaDoor.Pf
open Go.ChangeMaps (open_string shut_string)
set_option linter.unusedVariables false
set_option linter.unusedSimpArgs false
theorem own : ownKnob Tryd.prog.godebug = none := by kernel_rfl
theorem laidOut : laidOutB Tryd.prog = true := by kernel_rfl
set_option maxRecDepth 100000 in
theorem lifted (os : Os) (started : os.Started) (H : Type) (enc : TypeId × Value → H) :
  ReturnsInHanded {} Tryd.checked os 3 .any (fun w args => (Rows.fnExactFoldBranchSpec.pre enc Tryd.prog Tryd.f3 [] false w args ∧ laidMetH Tryd.prog Laid.laidL w) ∧ sizedMet enc Tryd.prog Tryd.f3 (OpenSpec.ofChange Rows.fnExactFoldBranchSpec) false w args)
   (Rows.fnExactFoldBranchSpec.post enc Tryd.prog Tryd.f3 false true false false) := by
 refine returnsInHanded_of_change_and (C := Tryd.checked) (X := fun w _ => laidMetH Tryd.prog Laid.laidL w) (fun _ _ _ hh h => h.of_heap hh) own started (by kernel_rfl) Tryd.func3
  (ChangeSpec.witness_shaped (enc := enc) (C := Tryd.checked) (os := os) (X := fun w _ => laidMetH Tryd.prog Laid.laidL w) false (World.doorLaid Tryd.prog 400 os) #[.string ByteArray.empty, .int .i64 0, .slice none 0 0] 8 rfl (World.shaped_of_RefB (by kernel_rfl) (by kernel_rfl)) (by kernel_rfl) (by kernel_rfl) (by kernel_rfl) (Laid.door_met os _)) ?_
 intro W base args ds gs before hval0 hW hcnd hsz0 hL _
 have hT := Laid.tab hL
 have hsz : (DataW.weightsEach Tryd.prog (Tryd.f3.params.toList ++ Rows.fnExactFoldBranchSpec.plain.varTypes Tryd.prog) (ds ++ gs)).all (· ≤ reachBytes) = true := hsz0
 have hval : ∀ (j : Nat) t v, Tryd.f3.params[j]? = some t → args[j]? = some v → Value.okWide Tryd.prog W .any base t v := hval0
 have hW' := hW
 obtain ⟨p, q, hA0, hV, rfl, hfz, hnd⟩ := hW
 have hA : DataW.TrodAll enc Tryd.prog W 0 (fun _ => true) true Tryd.f3.params.toList args.toList ds p := hA0
 rw [Tryd.params3] at hA hval hsz
 obtain ⟨v0, vs0, d0, ds0, p0, q0, hargs, rfl, rfl, h0, r0⟩ := trodAll_cons hA
 obtain ⟨v1, vs1, d1, ds1, p1, q1, rfl, rfl, rfl, h1, r1⟩ := trodAll_cons r0
 obtain ⟨v2, vs2, d2, ds2, p2, q2, rfl, rfl, rfl, h2, r2⟩ := trodAll_cons r1
 obtain ⟨rfl, rfl, rfl⟩ := trodAll_nil r2
 obtain rfl : args = #[v0, v1, v2] := by cases args; simp_all
 have hV2 : DataW.TrodVars enc Tryd.prog W (fun _ => true) ["loop.example/g00321/impl.turns", "loop.example/g00321/impl.roundConstants"] gs q := hV
 obtain ⟨_, _, _, _, dv0, _, _, _, _, _, dv1, _, rfl, _⟩ := trodVars_two hV2
 obtain ⟨a0, rfl, rfl, rfl, y0⟩ := open_string Tryd.underlying9 (hval 0 9 v0 rfl rfl) h0
 have g0 : a0.size ≤ 140737488351232 := by
  have z := sized_string hsz (j := 0) (t := 9) rfl rfl
  rw [Array.length_toList] at z
  exact z
 obtain ⟨a1, rfl, rfl, rfl, g1⟩ := open_int Tryd.underlying3 (hval 1 3 v1 rfl rfl) h1
 obtain ⟨a2, len2, cap2, rfl⟩ := okWide_slice Tryd.underlying22 (hval 2 22 v2 rfl rfl)
 have k2 := h2
 have lt2 : ∀ x ∈ p2, x.block < W.heap.size := by obtain ⟨m, hm⟩ := k2; exact DataW.trod_lt m _ _ _ hm
 obtain ⟨l2, ⟨A2, c2, e2, hc2, hr2⟩, g2⟩ := (show ∃ a, (Kd.slice 9 Kd.string).K W a [.slice a2 len2 cap2] ∧ _ from h2.elim fun fuel hf => (opens_slice Tryd.underlying22 (by kernel_rfl) (opens_string Tryd.underlying9)) enc W 0 (fun _ => true) true fuel [.slice a2 len2 cap2] _ hf)
 obtain ⟨rfl, rfl, rfl⟩ : a2 = A2 ∧ len2 = l2.length ∧ cap2 = c2 := by simpa using e2
 clear hA0 hval0 hsz0 hsz
 obtain ⟨k, h⟩ := Pure.FnExactFoldBranch a0 a1 l2 g0 g1 g2
 refine (laws_FnExactFoldBranch.calls k a0 a1 _ _ l2 true W hr2 hc2 hT ⟨rfl⟩ h).mono fun e W' ⟨he, bel0⟩ => ?_
 have bel : Below W.heap.size W W' := bel0
 subst he
 exact ⟨_, rfl, _, _, _, [], _, _, hW', trodAll_mk1 (shut_bool Tryd.underlying4 _), (trodAll_cons_mk (shut_string Tryd.underlying9 y0) (trodAll_cons_mk (shut_int Tryd.underlying3 g1) (trodAll_cons_mk (Below.trod laidOut (by kernel_rfl) (of_decide_eq_true (by kernel_rfl)) k2 bel lt2) trodAll_mk0))), Below.trodVars laidOut bel (by kernel_rfl) hV2, bel.frame _, fun h => by cases h⟩
theorem over : Rows.fnExactFoldBranchRow.holds Tryd.pinned (OpenSpec.ofChange Rows.fnExactFoldBranchSpec) :=
 OpenClaim.holds_of_wide 3 Tryd.f3 rfl rfl rfl rfl rfl rfl rfl ⟨rfl, rfl, rfl, rfl, rfl⟩ rfl rfl rfl rfl rfl (by kernel_rfl) Tryd.func3 (by kernel_rfl)
  (of_decide_eq_true (by kernel_rfl)) (by unfold Func.isWrapper; first | (rw [if_pos (by decide +kernel)]; kernel_rfl) | (rw [if_neg (by decide +kernel)]; exact ⟨rfl, rfl⟩))
  (fun os started H enc _ => lifted os started H enc)
theorem proved : Rows.FnExactFoldBranchSaid := over
theorem card : Rows.FnExactFoldBranchCardSaid :=
 Claim7.holds_tied_plain_at .later [] [.data, .data] true (true, "e4c3bb3ba08b206a7ab2894f9061ace4b1bc15c35e02d35ce178dd72da8f1b3e") false
  over (fun _ h => by cases h) (by kernel_rfl) (fun _ h => by cases h) fnExactFoldBranch_row_tie rfl ⟨rfl, rfl⟩ (by kernel_rfl) rfl
  (fun f fn hf hfn => by
   obtain rfl : f = 3 := Option.some.inj ((show Tryd.prog.funcNamed "loop.example/g00321/laws.FnExactFoldBranch" = some 3 by kernel_rfl).symm.trans hf) |>.symm
   obtain rfl : fn = Tryd.f3 := (Option.some.inj (Tryd.func3.symm.trans hfn)).symm
   exact ⟨by kernel_rfl, fun j t ht => by
    rw [Tryd.params3] at ht
    have hm : t ∈ [9, 3, 22] := by simpa using Array.mem_of_getElem? ht
    have hall : ([9, 3, 22].all fun u => !Tryd.prog.wantsStandIn u) = true := by kernel_rfl
    exact (show Tryd.prog.wantsStandIn t = false by simpa using List.all_eq_true.1 hall t hm)⟩)
  (by kernel_rfl)
#print axioms card
end Go.Proofs.YtmiiknkfhiecgaaDoor.fnExactFoldBranch
namespace Go.Proofs.YtmiiknkfhiecgaaDoor
/-- The row, under a short name, for the claim. -/
theorem fnExactFoldBranch_holds : Rows.FnExactFoldBranchCardSaid := fnExactFoldBranch.card
end Go.Proofs.YtmiiknkfhiecgaaDoor
end
