/- What is proved here: part 4 of 5 of the proof of the given statement FnOneLeaf: the contracts of the Go functions that it reaches, the plain facts on lists and numbers, and (in the last part) the statement itself. No conditions beyond the given ones. -/
import Derived.Test.YtmiiknkfhiecgaaDoorMFnOneLeafwSlim
import Derived.Test.YtmiiknkfhiecgaaDoorMFnOneLeafa
import Derived.Test.YtmiiknkfhiecgaaDoorMFnOneLeafb
import Derived.Test.YtmiiknkfhiecgaaDoorMFnOneLeafc

section
namespace Go.Proofs.YtmiiknkfhiecgaaDoor.Pf
open Go.RowKit Go.Proofs.YtmiiknkfhiecgaaDoorW.PrintWords Go.Proofs.YtmiiknkfhiecgaaDoorW.PrintLast Go.Proofs.YtmiiknkfhiecgaaDoorW.PrintMore
attribute [local go_sem] max2_int min2_int max_two min_two max_three min_three max_four min_four   -- for this text's walks alone
set_option linter.unusedVariables false
set_option linter.unusedSimpArgs false
/-! ### laws_FnOneLeaf: function 7 -/
def laws_FnOneLeaf.l0 : Nat → Int → List ByteArray → List ByteArray → List ByteArray → ByteArray → ByteArray → Int → Option (Bool)
 | 0, _, _, _, _, _, _, _ => none
 | k + 1, x5, x6, x10, x11, x12, x13, x14 => if x14 < (x6.length : Int) then (if 0 ≤ x14 then (if x12.size + (rdOf ByteArray.empty x6 x14).size ≤ 9223372036854775807 then (if x13.size + (rdOf ByteArray.empty x6 x14).size ≤ 9223372036854775807 then (if 0 ≤ (IntKind.u64.wrap (x14)) then (if (Int.tmod (shr .i64 x5 (IntKind.u64.wrap (x14))) 2) = 1 then (if (rdOf ByteArray.empty x6 x14).size + x12.size ≤ 9223372036854775807 then (if (rdOf ByteArray.empty x6 x14).size + x13.size ≤ 9223372036854775807 then (if x10.length < 8796093022208 then (if x11.length < 8796093022208 then ((spec_Digest.f ((rdOf ByteArray.empty x6 x14) ++ x12)).bind fun t403 => ((spec_Digest.f ((rdOf ByteArray.empty x6 x14) ++ x13)).bind fun t404 => (laws_FnOneLeaf.l0 k x5 x6 (x10 ++ [(rdOf ByteArray.empty x6 x14) ++ x12]) (x11 ++ [(rdOf ByteArray.empty x6 x14) ++ x13]) t403 t404 (wrap64 (x14 + 1))))) else (none)) else (none)) else (none)) else (none)) else (if x10.length < 8796093022208 then (if x11.length < 8796093022208 then ((spec_Digest.f (x12 ++ (rdOf ByteArray.empty x6 x14))).bind fun t411 => ((spec_Digest.f (x13 ++ (rdOf ByteArray.empty x6 x14))).bind fun t412 => (laws_FnOneLeaf.l0 k x5 x6 (x10 ++ [x12 ++ (rdOf ByteArray.empty x6 x14)]) (x11 ++ [x13 ++ (rdOf ByteArray.empty x6 x14)]) t411 t412 (wrap64 (x14 + 1))))) else (none)) else (none))) else (none)) else (none)) else (none)) else (none)) else ((laws_clash.f k x10 x11).bind fun t392 => (some t392))
def laws_FnOneLeaf.f (k : Nat) (l0 : List Int) : Option (Bool) := (laws_big.f l0).bind fun t368 => (if t368 = true then (some true) else ((spec_DrawLeaves.f k l0).bind fun t369 => ((spec_DrawPlaces.f k l0).bind fun t372 => (if 0 < (t372.length : Int) then (if (t369.length : Int) = 0 then (none) else ((impl_BranchOf.f k t369 (Int.tmod (rd t372 0) (t369.length : Int))).bind fun t376 => (if 0 ≤ (Int.tmod (rd t372 0) (t369.length : Int)) then (if (Int.tmod (rd t372 0) (t369.length : Int)) < (t369.length : Int) then (if (rdOf ByteArray.empty t369 (Int.tmod (rd t372 0) (t369.length : Int))).size + 1 ≤ 9223372036854775807 then ((impl_RootOf.f k t369).bind fun t380 => ((impl_FoldBranch.f k ((rdOf ByteArray.empty t369 (Int.tmod (rd t372 0) (t369.length : Int))) ++ (⟨#[120]⟩ : ByteArray)) (Int.tmod (rd t372 0) (t369.length : Int)) t376).bind fun t381 => (if t381.toList = t380.toList then ((spec_Digest.f (rdOf ByteArray.empty t369 (Int.tmod (rd t372 0) (t369.length : Int)))).bind fun t390 => ((spec_Digest.f ((rdOf ByteArray.empty t369 (Int.tmod (rd t372 0) (t369.length : Int))) ++ (⟨#[120]⟩ : ByteArray))).bind fun t391 => (laws_FnOneLeaf.l0 k (Int.tmod (rd t372 0) (t369.length : Int)) t376 (([rdOf ByteArray.empty t369 (Int.tmod (rd t372 0) (t369.length : Int))] : List ByteArray)) (([(rdOf ByteArray.empty t369 (Int.tmod (rd t372 0) (t369.length : Int))) ++ (⟨#[120]⟩ : ByteArray)] : List ByteArray)) t390 t391 0))) else (if (t381.size : Int) = 32 then ((spec_FoldBranch.f k ((rdOf ByteArray.empty t369 (Int.tmod (rd t372 0) (t369.length : Int))) ++ (⟨#[120]⟩ : ByteArray)) (Int.tmod (rd t372 0) (t369.length : Int)) t376).bind fun t413 => (if t381.toList = t413.toList then (some ((t380.size : Int) == 32)) else (some false))) else (some false))))) else (none)) else (none)) else (none)))) else (none)))))
theorem laws_FnOneLeaf.mono_l : ∀ k, (∀ y0 y1 y2 y3 y4 y5 y6, LeO (laws_FnOneLeaf.l0 k y0 y1 y2 y3 y4 y5 y6) (laws_FnOneLeaf.l0 (k + 1) y0 y1 y2 y3 y4 y5 y6))
 | 0 => fun _ _ _ _ _ _ _ r h => by simp [laws_FnOneLeaf.l0] at h
 | k + 1 => by
  have ih0 := laws_FnOneLeaf.mono_l k
  ·intro y0 y1 y2 y3 y4 y5 y6
   unfold laws_FnOneLeaf.l0
   repeat' first
   | (with_reducible exact ih0 _ _ _ _ _ _ _)
   | (with_reducible exact impl_BranchOf.mono _ _ _)
   | (with_reducible exact impl_FoldBranch.mono _ _ _ _)
   | (with_reducible exact impl_RootOf.mono _ _)
   | (with_reducible exact laws_clash.mono _ _ _)
   | (with_reducible exact spec_DrawLeaves.mono _ _)
   | (with_reducible exact spec_DrawPlaces.mono _ _)
   | (with_reducible exact spec_FoldBranch.mono _ _ _ _)
   | (with_reducible exact LeO.refl _)
   | (with_reducible exact LeO.none _)
   | (with_reducible refine LeO.ite ?_ ?_)
   | (with_reducible refine LeO.bind ?_ (fun _ => ?_))
   | exact ih0 _ _ _ _ _ _ _
   | exact impl_BranchOf.mono _ _ _
   | exact impl_FoldBranch.mono _ _ _ _
   | exact impl_RootOf.mono _ _
   | exact laws_clash.mono _ _ _
   | exact spec_DrawLeaves.mono _ _
   | exact spec_DrawPlaces.mono _ _
   | exact spec_FoldBranch.mono _ _ _ _
   | exact LeO.none _
   | refine LeO.ite ?_ ?_
   | refine LeO.bind ?_ (fun _ => ?_)
theorem laws_FnOneLeaf.mono : ∀ a0 k, LeO (laws_FnOneLeaf.f k a0) (laws_FnOneLeaf.f (k + 1) a0) := by
 intro a0 k
 have ih0 := laws_FnOneLeaf.mono_l k
 unfold laws_FnOneLeaf.f
 repeat' first
   | (with_reducible exact ih0 _ _ _ _ _ _ _)
   | (with_reducible exact impl_BranchOf.mono _ _ _)
   | (with_reducible exact impl_FoldBranch.mono _ _ _ _)
   | (with_reducible exact impl_RootOf.mono _ _)
   | (with_reducible exact laws_clash.mono _ _ _)
   | (with_reducible exact spec_DrawLeaves.mono _ _)
   | (with_reducible exact spec_DrawPlaces.mono _ _)
   | (with_reducible exact spec_FoldBranch.mono _ _ _ _)
   | (with_reducible exact LeO.refl _)
   | (with_reducible exact LeO.none _)
   | (with_reducible refine LeO.ite ?_ ?_)
   | (with_reducible refine LeO.bind ?_ (fun _ => ?_))
   | exact ih0 _ _ _ _ _ _ _
   | exact impl_BranchOf.mono _ _ _
   | exact impl_FoldBranch.mono _ _ _ _
   | exact impl_RootOf.mono _ _
   | exact laws_clash.mono _ _ _
   | exact spec_DrawLeaves.mono _ _
   | exact spec_DrawPlaces.mono _ _
   | exact spec_FoldBranch.mono _ _ _ _
   | exact LeO.none _
   | refine LeO.ite ?_ ?_
   | refine LeO.bind ?_ (fun _ => ?_)
set_option maxHeartbeats 8000000 in
set_option maxRecDepth 100000 in
theorem laws_FnOneLeaf.calls (k : Nat) (A0 : Option Addr) (c0 : Nat) (l0 : List Int) (r : Bool) (w : World) (hr0 : Kd.C (Kd.int .u8) w A0 l0.length l0) (hc0 : l0.length ≤ c0) (hT : Kp.Tab w) (htrue : Aside0 (r = true)) (h : laws_FnOneLeaf.f k l0 = some r) :
  Calls Tryd.prog 7 #[.slice A0 l0.length c0] w fun e w' => e = .returned (.bool r) ∧ Below w.heap.size w w' := by
 have HT := Aside0.mk hT
 clear hT
 have HR0 := Aside0.mk hr0
 have HC0 := Aside0.mk hc0
 clear hr0 hc0
 have HB := Aside0.mk (Below.refl w.heap.size w)
 have H : ((laws_big.f l0).bind fun t368 => (if t368 = true then (some true) else ((spec_DrawLeaves.f k l0).bind fun t369 => ((spec_DrawPlaces.f k l0).bind fun t372 => (if 0 < (t372.length : Int) then (if (t369.length : Int) = 0 then (none) else ((impl_BranchOf.f k t369 (Int.tmod (rd t372 0) (t369.length : Int))).bind fun t376 => (if 0 ≤ (Int.tmod (rd t372 0) (t369.length : Int)) then (if (Int.tmod (rd t372 0) (t369.length : Int)) < (t369.length : Int) then (if (rdOf ByteArray.empty t369 (Int.tmod (rd t372 0) (t369.length : Int))).size + 1 ≤ 9223372036854775807 then ((impl_RootOf.f k t369).bind fun t380 => ((impl_FoldBranch.f k ((rdOf ByteArray.empty t369 (Int.tmod (rd t372 0) (t369.length : Int))) ++ (⟨#[120]⟩ : ByteArray)) (Int.tmod (rd t372 0) (t369.length : Int)) t376).bind fun t381 => (if t381.toList = t380.toList then ((spec_Digest.f (rdOf ByteArray.empty t369 (Int.tmod (rd t372 0) (t369.length : Int)))).bind fun t390 => ((spec_Digest.f ((rdOf ByteArray.empty t369 (Int.tmod (rd t372 0) (t369.length : Int))) ++ (⟨#[120]⟩ : ByteArray))).bind fun t391 => (laws_FnOneLeaf.l0 k (Int.tmod (rd t372 0) (t369.length : Int)) t376 (([rdOf ByteArray.empty t369 (Int.tmod (rd t372 0) (t369.length : Int))] : List ByteArray)) (([(rdOf ByteArray.empty t369 (Int.tmod (rd t372 0) (t369.length : Int))) ++ (⟨#[120]⟩ : ByteArray)] : List ByteArray)) t390 t391 0))) else (if (t381.size : Int) = 32 then ((spec_FoldBranch.f k ((rdOf ByteArray.empty t369 (Int.tmod (rd t372 0) (t369.length : Int))) ++ (⟨#[120]⟩ : ByteArray)) (Int.tmod (rd t372 0) (t369.length : Int)) t376).bind fun t413 => (if t381.toList = t413.toList then (some ((t380.size : Int) == 32)) else (some false))) else (some false))))) else (none)) else (none)) else (none)))) else (none)))))) = some r := h
 clear h
 replace H := Option.bind_eq_some_iff.mp H
 obtain ⟨t368, A20, H⟩ := H
 replace H : (if t368 = true then (some true) else ((spec_DrawLeaves.f k l0).bind fun t369 => ((spec_DrawPlaces.f k l0).bind fun t372 => (if 0 < (t372.length : Int) then (if (t369.length : Int) = 0 then (none) else ((impl_BranchOf.f k t369 (Int.tmod (rd t372 0) (t369.length : Int))).bind fun t376 => (if 0 ≤ (Int.tmod (rd t372 0) (t369.length : Int)) then (if (Int.tmod (rd t372 0) (t369.length : Int)) < (t369.length : Int) then (if (rdOf ByteArray.empty t369 (Int.tmod (rd t372 0) (t369.length : Int))).size + 1 ≤ 9223372036854775807 then ((impl_RootOf.f k t369).bind fun t380 => ((impl_FoldBranch.f k ((rdOf ByteArray.empty t369 (Int.tmod (rd t372 0) (t369.length : Int))) ++ (⟨#[120]⟩ : ByteArray)) (Int.tmod (rd t372 0) (t369.length : Int)) t376).bind fun t381 => (if t381.toList = t380.toList then ((spec_Digest.f (rdOf ByteArray.empty t369 (Int.tmod (rd t372 0) (t369.length : Int)))).bind fun t390 => ((spec_Digest.f ((rdOf ByteArray.empty t369 (Int.tmod (rd t372 0) (t369.length : Int))) ++ (⟨#[120]⟩ : ByteArray))).bind fun t391 => (laws_FnOneLeaf.l0 k (Int.tmod (rd t372 0) (t369.length : Int)) t376 (([rdOf ByteArray.empty t369 (Int.tmod (rd t372 0) (t369.length : Int))] : List ByteArray)) (([(rdOf ByteArray.empty t369 (Int.tmod (rd t372 0) (t369.length : Int))) ++ (⟨#[120]⟩ : ByteArray)] : List ByteArray)) t390 t391 0))) else (if (t381.size : Int) = 32 then ((spec_FoldBranch.f k ((rdOf ByteArray.empty t369 (Int.tmod (rd t372 0) (t369.length : Int))) ++ (⟨#[120]⟩ : ByteArray)) (Int.tmod (rd t372 0) (t369.length : Int)) t376).bind fun t413 => (if t381.toList = t413.toList then (some ((t380.size : Int) == 32)) else (some false))) else (some false))))) else (none)) else (none)) else (none)))) else (none))))) = some r := H
 have A2 := Aside0.mk A20
 clear A20
 by_cases c3 : t368 = true
 ·subst c3
  have H1 : (some true) = some r := by rw [if_pos rfl] at H; exact H
  clear H
  have H := H1
  clear H1
  obtain rfl := Option.some.inj H
  go_enter Tryd.func7, Tryd.ntmps7
  go_wp2_with (first | ((with_reducible refine gate_callee (f := 26) rfl ?_); refine goesL_ (some 18) rfl rfl Tryd.func26 (by kernel_rfl) rfl #[.slice A0 l0.length c0] rfl (by (try simp only [List.map_toArray, List.map_cons, List.map_nil]); first | done | rfl | (simp only [List.length_drop, List.length_take]; rfl)) ?_; (with_reducible refine (laws_big.calls _ _ l0 true _ ?side1 ?side2 A2.out).mono ?_); (case side1 => repeat (first | exact HR0.out | (with_reducible refine Kd.C_alloc ?_ _) | (with_reducible refine Kd.C_drewN ?_ _) | (with_reducible refine Kd.C_drew ?_))); (case side2 => exact HC0.out); rintro e w' ⟨rfl, ⟨nd, rfl⟩⟩; refine ⟨_, rfl, ?_⟩))
  go_ret
  exact ⟨by first | rfl | (simp [errW_none, errW_some] <;> rfl) | (simp [*, errW_none, errW_some] <;> rfl), bZ HB⟩
 ·replace c3 := Bool.eq_false_iff.mpr c3
  subst c3
  have H1 : ((spec_DrawLeaves.f k l0).bind fun t369 => ((spec_DrawPlaces.f k l0).bind fun t372 => (if 0 < (t372.length : Int) then (if (t369.length : Int) = 0 then (none) else ((impl_BranchOf.f k t369 (Int.tmod (rd t372 0) (t369.length : Int))).bind fun t376 => (if 0 ≤ (Int.tmod (rd t372 0) (t369.length : Int)) then (if (Int.tmod (rd t372 0) (t369.length : Int)) < (t369.length : Int) then (if (rdOf ByteArray.empty t369 (Int.tmod (rd t372 0) (t369.length : Int))).size + 1 ≤ 9223372036854775807 then ((impl_RootOf.f k t369).bind fun t380 => ((impl_FoldBranch.f k ((rdOf ByteArray.empty t369 (Int.tmod (rd t372 0) (t369.length : Int))) ++ (⟨#[120]⟩ : ByteArray)) (Int.tmod (rd t372 0) (t369.length : Int)) t376).bind fun t381 => (if t381.toList = t380.toList then ((spec_Digest.f (rdOf ByteArray.empty t369 (Int.tmod (rd t372 0) (t369.length : Int)))).bind fun t390 => ((spec_Digest.f ((rdOf ByteArray.empty t369 (Int.tmod (rd t372 0) (t369.length : Int))) ++ (⟨#[120]⟩ : ByteArray))).bind fun t391 => (laws_FnOneLeaf.l0 k (Int.tmod (rd t372 0) (t369.length : Int)) t376 (([rdOf ByteArray.empty t369 (Int.tmod (rd t372 0) (t369.length : Int))] : List ByteArray)) (([(rdOf ByteArray.empty t369 (Int.tmod (rd t372 0) (t369.length : Int))) ++ (⟨#[120]⟩ : ByteArray)] : List ByteArray)) t390 t391 0))) else (if (t381.size : Int) = 32 then ((spec_FoldBranch.f k ((rdOf ByteArray.empty t369 (Int.tmod (rd t372 0) (t369.length : Int))) ++ (⟨#[120]⟩ : ByteArray)) (Int.tmod (rd t372 0) (t369.length : Int)) t376).bind fun t413 => (if t381.toList = t413.toList then (some ((t380.size : Int) == 32)) else (some false))) else (some false))))) else (none)) else (none)) else (none)))) else (none)))) = some r := by rw [if_neg (show ¬ (false = true) by decide)] at H; exact H
  clear H
  have H := H1
  clear H1
  replace H := Option.bind_eq_some_iff.mp H
  obtain ⟨t369, A40, H⟩ := H
  replace H : ((spec_DrawPlaces.f k l0).bind fun t372 => (if 0 < (t372.length : Int) then (if (t369.length : Int) = 0 then (none) else ((impl_BranchOf.f k t369 (Int.tmod (rd t372 0) (t369.length : Int))).bind fun t376 => (if 0 ≤ (Int.tmod (rd t372 0) (t369.length : Int)) then (if (Int.tmod (rd t372 0) (t369.length : Int)) < (t369.length : Int) then (if (rdOf ByteArray.empty t369 (Int.tmod (rd t372 0) (t369.length : Int))).size + 1 ≤ 9223372036854775807 then ((impl_RootOf.f k t369).bind fun t380 => ((impl_FoldBranch.f k ((rdOf ByteArray.empty t369 (Int.tmod (rd t372 0) (t369.length : Int))) ++ (⟨#[120]⟩ : ByteArray)) (Int.tmod (rd t372 0) (t369.length : Int)) t376).bind fun t381 => (if t381.toList = t380.toList then ((spec_Digest.f (rdOf ByteArray.empty t369 (Int.tmod (rd t372 0) (t369.length : Int)))).bind fun t390 => ((spec_Digest.f ((rdOf ByteArray.empty t369 (Int.tmod (rd t372 0) (t369.length : Int))) ++ (⟨#[120]⟩ : ByteArray))).bind fun t391 => (laws_FnOneLeaf.l0 k (Int.tmod (rd t372 0) (t369.length : Int)) t376 (([rdOf ByteArray.empty t369 (Int.tmod (rd t372 0) (t369.length : Int))] : List ByteArray)) (([(rdOf ByteArray.empty t369 (Int.tmod (rd t372 0) (t369.length : Int))) ++ (⟨#[120]⟩ : ByteArray)] : List ByteArray)) t390 t391 0))) else (if (t381.size : Int) = 32 then ((spec_FoldBranch.f k ((rdOf ByteArray.empty t369 (Int.tmod (rd t372 0) (t369.length : Int))) ++ (⟨#[120]⟩ : ByteArray)) (Int.tmod (rd t372 0) (t369.length : Int)) t376).bind fun t413 => (if t381.toList = t413.toList then (some ((t380.size : Int) == 32)) else (some false))) else (some false))))) else (none)) else (none)) else (none)))) else (none))) = some r := H
  have A4 := Aside0.mk A40
  clear A40
  replace H := Option.bind_eq_some_iff.mp H
  obtain ⟨t372, A50, H⟩ := H
  replace H : (if 0 < (t372.length : Int) then (if (t369.length : Int) = 0 then (none) else ((impl_BranchOf.f k t369 (Int.tmod (rd t372 0) (t369.length : Int))).bind fun t376 => (if 0 ≤ (Int.tmod (rd t372 0) (t369.length : Int)) then (if (Int.tmod (rd t372 0) (t369.length : Int)) < (t369.length : Int) then (if (rdOf ByteArray.empty t369 (Int.tmod (rd t372 0) (t369.length : Int))).size + 1 ≤ 9223372036854775807 then ((impl_RootOf.f k t369).bind fun t380 => ((impl_FoldBranch.f k ((rdOf ByteArray.empty t369 (Int.tmod (rd t372 0) (t369.length : Int))) ++ (⟨#[120]⟩ : ByteArray)) (Int.tmod (rd t372 0) (t369.length : Int)) t376).bind fun t381 => (if t381.toList = t380.toList then ((spec_Digest.f (rdOf ByteArray.empty t369 (Int.tmod (rd t372 0) (t369.length : Int)))).bind fun t390 => ((spec_Digest.f ((rdOf ByteArray.empty t369 (Int.tmod (rd t372 0) (t369.length : Int))) ++ (⟨#[120]⟩ : ByteArray))).bind fun t391 => (laws_FnOneLeaf.l0 k (Int.tmod (rd t372 0) (t369.length : Int)) t376 (([rdOf ByteArray.empty t369 (Int.tmod (rd t372 0) (t369.length : Int))] : List ByteArray)) (([(rdOf ByteArray.empty t369 (Int.tmod (rd t372 0) (t369.length : Int))) ++ (⟨#[120]⟩ : ByteArray)] : List ByteArray)) t390 t391 0))) else (if (t381.size : Int) = 32 then ((spec_FoldBranch.f k ((rdOf ByteArray.empty t369 (Int.tmod (rd t372 0) (t369.length : Int))) ++ (⟨#[120]⟩ : ByteArray)) (Int.tmod (rd t372 0) (t369.length : Int)) t376).bind fun t413 => (if t381.toList = t413.toList then (some ((t380.size : Int) == 32)) else (some false))) else (some false))))) else (none)) else (none)) else (none)))) else (none)) = some r := H
  have A5 := Aside0.mk A50
  clear A50
  by_cases c6 : 0 < (t372.length : Int)
  ·rw [if_pos c6] at H
   have c6b0 : decide (0 < (t372.length : Int)) = true := decide_eq_true c6
   have c6b1 : decide (0 < t372.length) = true := decide_eq_true (by omega)
   clear c6
   by_cases c7 : (t369.length : Int) = 0
   ·rw [if_pos c7] at H
    exact absurd H (by simp)
   ·rw [if_neg c7] at H
    have c7b0 : ((t369.length : Int) == 0) = false := beq_eq_false_iff_ne.mpr c7
    have c7b1 : ((t369.length : Int) != 0) = true := bne_iff_ne.mpr c7
    have c7b2 : ¬ (t369 = []) := fun h_ => c7 (by rw [h_]; rfl)
    replace H := Option.bind_eq_some_iff.mp H
    obtain ⟨t376, A80, H⟩ := H
    replace H : (if 0 ≤ (Int.tmod (rd t372 0) (t369.length : Int)) then (if (Int.tmod (rd t372 0) (t369.length : Int)) < (t369.length : Int) then (if (rdOf ByteArray.empty t369 (Int.tmod (rd t372 0) (t369.length : Int))).size + 1 ≤ 9223372036854775807 then ((impl_RootOf.f k t369).bind fun t380 => ((impl_FoldBranch.f k ((rdOf ByteArray.empty t369 (Int.tmod (rd t372 0) (t369.length : Int))) ++ (⟨#[120]⟩ : ByteArray)) (Int.tmod (rd t372 0) (t369.length : Int)) t376).bind fun t381 => (if t381.toList = t380.toList then ((spec_Digest.f (rdOf ByteArray.empty t369 (Int.tmod (rd t372 0) (t369.length : Int)))).bind fun t390 => ((spec_Digest.f ((rdOf ByteArray.empty t369 (Int.tmod (rd t372 0) (t369.length : Int))) ++ (⟨#[120]⟩ : ByteArray))).bind fun t391 => (laws_FnOneLeaf.l0 k (Int.tmod (rd t372 0) (t369.length : Int)) t376 (([rdOf ByteArray.empty t369 (Int.tmod (rd t372 0) (t369.length : Int))] : List ByteArray)) (([(rdOf ByteArray.empty t369 (Int.tmod (rd t372 0) (t369.length : Int))) ++ (⟨#[120]⟩ : ByteArray)] : List ByteArray)) t390 t391 0))) else (if (t381.size : Int) = 32 then ((spec_FoldBranch.f k ((rdOf ByteArray.empty t369 (Int.tmod (rd t372 0) (t369.length : Int))) ++ (⟨#[120]⟩ : ByteArray)) (Int.tmod (rd t372 0) (t369.length : Int)) t376).bind fun t413 => (if t381.toList = t413.toList then (some ((t380.size : Int) == 32)) else (some false))) else (some false))))) else (none)) else (none)) else (none)) = some r := H
    have A8 := Aside0.mk A80
    clear A80
    obtain ⟨ji9, hji9⟩ : ∃ j_ : Int, (Int.tmod (rd t372 0) (t369.length : Int)) = j_ := ⟨_, rfl⟩
    replace H : (if 0 ≤ (ji9) then (if (ji9) < (t369.length : Int) then (if (rdOf ByteArray.empty t369 (ji9)).size + 1 ≤ 9223372036854775807 then ((impl_RootOf.f k t369).bind fun t380 => ((impl_FoldBranch.f k ((rdOf ByteArray.empty t369 (ji9)) ++ (⟨#[120]⟩ : ByteArray)) (ji9) t376).bind fun t381 => (if t381.toList = t380.toList then ((spec_Digest.f (rdOf ByteArray.empty t369 (ji9))).bind fun t390 => ((spec_Digest.f ((rdOf ByteArray.empty t369 (ji9)) ++ (⟨#[120]⟩ : ByteArray))).bind fun t391 => (laws_FnOneLeaf.l0 k ji9 t376 (([rdOf ByteArray.empty t369 (ji9)] : List ByteArray)) (([(rdOf ByteArray.empty t369 (ji9)) ++ (⟨#[120]⟩ : ByteArray)] : List ByteArray)) t390 t391 0))) else (if (t381.size : Int) = 32 then ((spec_FoldBranch.f k ((rdOf ByteArray.empty t369 (ji9)) ++ (⟨#[120]⟩ : ByteArray)) (ji9) t376).bind fun t413 => (if t381.toList = t413.toList then (some ((t380.size : Int) == 32)) else (some false))) else (some false))))) else (none)) else (none)) else (none)) = some r := by first | (rw [hji9] at H; exact H) | (simp only [hji9] at H ⊢; exact H)
    (try rw [hji9] at A2)
    (try rw [hji9] at A4)
    (try rw [hji9] at A5)
    (try rw [hji9] at A8)
    by_cases c10 : 0 ≤ (ji9)
    ·rw [if_pos c10] at H
     have c10b0 : decide (0 ≤ (ji9)) = true := decide_eq_true c10
     clear c10
     by_cases c11 : (ji9) < (t369.length : Int)
     ·rw [if_pos c11] at H
      have c11b0 : decide ((ji9) < (t369.length : Int)) = true := decide_eq_true c11
      clear c11
      by_cases c12 : (rdOf ByteArray.empty t369 (ji9)).size + 1 ≤ 9223372036854775807
      ·rw [if_pos c12] at H
       have c12b0 := eq_true c12
       have c12b1 : decide ((rdOf ByteArray.empty t369 (ji9)).size + 1 ≤ 9223372036854775807) = true := decide_eq_true c12
       try have c12b2 : (9223372036854775807 < (rdOf ByteArray.empty t369 (ji9)).size + 1) = False := eq_false (Nat.not_lt.2 c12)
       try simp only [ByteArray.size_append] at c12b2
       replace H := Option.bind_eq_some_iff.mp H
       obtain ⟨t380, A130, H⟩ := H
       replace H : ((impl_FoldBranch.f k ((rdOf ByteArray.empty t369 (ji9)) ++ (⟨#[120]⟩ : ByteArray)) (ji9) t376).bind fun t381 => (if t381.toList = t380.toList then ((spec_Digest.f (rdOf ByteArray.empty t369 (ji9))).bind fun t390 => ((spec_Digest.f ((rdOf ByteArray.empty t369 (ji9)) ++ (⟨#[120]⟩ : ByteArray))).bind fun t391 => (laws_FnOneLeaf.l0 k ji9 t376 (([rdOf ByteArray.empty t369 (ji9)] : List ByteArray)) (([(rdOf ByteArray.empty t369 (ji9)) ++ (⟨#[120]⟩ : ByteArray)] : List ByteArray)) t390 t391 0))) else (if (t381.size : Int) = 32 then ((spec_FoldBranch.f k ((rdOf ByteArray.empty t369 (ji9)) ++ (⟨#[120]⟩ : ByteArray)) (ji9) t376).bind fun t413 => (if t381.toList = t413.toList then (some ((t380.size : Int) == 32)) else (some false))) else (some false)))) = some r := H
       have A13 := Aside0.mk A130
       clear A130
       replace H := Option.bind_eq_some_iff.mp H
       obtain ⟨t381, A140, H⟩ := H
       replace H : (if t381.toList = t380.toList then ((spec_Digest.f (rdOf ByteArray.empty t369 (ji9))).bind fun t390 => ((spec_Digest.f ((rdOf ByteArray.empty t369 (ji9)) ++ (⟨#[120]⟩ : ByteArray))).bind fun t391 => (laws_FnOneLeaf.l0 k ji9 t376 (([rdOf ByteArray.empty t369 (ji9)] : List ByteArray)) (([(rdOf ByteArray.empty t369 (ji9)) ++ (⟨#[120]⟩ : ByteArray)] : List ByteArray)) t390 t391 0))) else (if (t381.size : Int) = 32 then ((spec_FoldBranch.f k ((rdOf ByteArray.empty t369 (ji9)) ++ (⟨#[120]⟩ : ByteArray)) (ji9) t376).bind fun t413 => (if t381.toList = t413.toList then (some ((t380.size : Int) == 32)) else (some false))) else (some false))) = some r := H
       have A14 := Aside0.mk A140
       clear A140
       by_cases c15 : t381.toList = t380.toList
       ·rw [if_pos c15] at H
        have c15b0 : (t381.toList == t380.toList) = true := beq_iff_eq.mpr c15
        have c15b1 : (t381.toList != t380.toList) = false := bne_eq_false_iff_eq.mpr c15
        clear c15
        obtain ⟨y383, hy383⟩ : ∃ y_ : List ByteArray, y_ = (([rdOf ByteArray.empty t369 (ji9)] : List ByteArray)) := ⟨_, rfl⟩
        replace H : ((spec_Digest.f (rdOf ByteArray.empty t369 (ji9))).bind fun t390 => ((spec_Digest.f ((rdOf ByteArray.empty t369 (ji9)) ++ (⟨#[120]⟩ : ByteArray))).bind fun t391 => (laws_FnOneLeaf.l0 k ji9 t376 y383 (([(rdOf ByteArray.empty t369 (ji9)) ++ (⟨#[120]⟩ : ByteArray)] : List ByteArray)) t390 t391 0))) = some r := by first | (rw [hy383]; with_reducible exact H) | (have H2_ := (Option.bind_some _ _).symm.trans H; rw [hy383]; with_reducible exact H2_) | (have H2_ := (Option.bind_some _ _).symm.trans H; with_reducible exact H2_) | with_reducible exact H | (rw [hy383]; exact H) | exact H
        have Ny383 := Aside0.mk hy383
        clear hy383
        obtain ⟨y386, hy386⟩ : ∃ y_ : List ByteArray, y_ = (([(rdOf ByteArray.empty t369 (ji9)) ++ (⟨#[120]⟩ : ByteArray)] : List ByteArray)) := ⟨_, rfl⟩
        replace H : ((spec_Digest.f (rdOf ByteArray.empty t369 (ji9))).bind fun t390 => ((spec_Digest.f ((rdOf ByteArray.empty t369 (ji9)) ++ (⟨#[120]⟩ : ByteArray))).bind fun t391 => (laws_FnOneLeaf.l0 k ji9 t376 y383 y386 t390 t391 0))) = some r := by first | (rw [hy386]; with_reducible exact H) | (have H2_ := (Option.bind_some _ _).symm.trans H; rw [hy386]; with_reducible exact H2_) | (have H2_ := (Option.bind_some _ _).symm.trans H; with_reducible exact H2_) | with_reducible exact H | (rw [hy386]; exact H) | exact H
        have Ny386 := Aside0.mk hy386
        clear hy386
        replace H := Option.bind_eq_some_iff.mp H
        obtain ⟨t390, A160, H⟩ := H
        replace H : ((spec_Digest.f ((rdOf ByteArray.empty t369 (ji9)) ++ (⟨#[120]⟩ : ByteArray))).bind fun t391 => (laws_FnOneLeaf.l0 k ji9 t376 y383 y386 t390 t391 0)) = some r := H
        have A16 := Aside0.mk A160
        clear A160
        replace H := Option.bind_eq_some_iff.mp H
        obtain ⟨t391, A170, H⟩ := H
        replace H : (laws_FnOneLeaf.l0 k ji9 t376 y383 y386 t390 t391 0) = some r := H
        have A17 := Aside0.mk A170
        clear A170
        have H' := Aside0.mk H
        clear H
        go_enter Tryd.func7, Tryd.ntmps7
        go_wp2_with (first | ((with_reducible refine gate_callee (f := 26) rfl ?_); refine goesL_ (some 18) rfl rfl Tryd.func26 (by kernel_rfl) rfl #[.slice A0 l0.length c0] rfl (by (try simp only [List.map_toArray, List.map_cons, List.map_nil]); first | done | rfl | (simp only [List.length_drop, List.length_take]; rfl)) ?_; (with_reducible refine (laws_big.calls _ _ l0 false _ ?side1 ?side2 A2.out).mono ?_); (case side1 => repeat (first | exact HR0.out | (with_reducible refine Kd.C_alloc ?_ _) | (with_reducible refine Kd.C_drewN ?_ _) | (with_reducible refine Kd.C_drew ?_))); (case side2 => exact HC0.out); rintro e w' ⟨rfl, ⟨nd, rfl⟩⟩; refine ⟨_, rfl, ?_⟩) | ((with_reducible refine gate_callee (f := 27) rfl ?_); refine goesL_ (some 20) rfl rfl Tryd.func27 (by kernel_rfl) rfl #[.slice A0 l0.length c0] rfl (by (try simp only [List.map_toArray, List.map_cons, List.map_nil]); first | done | rfl | (simp only [List.length_drop, List.length_take]; rfl)) ?_; (with_reducible refine (spec_DrawLeaves.calls k _ _ l0 t369 _ ?side1 ?side2 A4.out).mono ?_); (case side1 => repeat (first | exact HR0.out | (with_reducible refine Kd.C_alloc ?_ _) | (with_reducible refine Kd.C_drewN ?_ _) | (with_reducible refine Kd.C_drew ?_))); (case side2 => exact HC0.out); rintro e w18 ⟨v370, rfl, ho0, hb⟩; refine ⟨_, rfl, ?_⟩; have HO371 := Aside0.mk (Kd.R_lower ho0 (below_size (bZ HB))); replace HB := bS HB hb; (try clear hb); (try clear hb2); (try clear hk); (try clear hi); (try clear ho0)) | ((with_reducible refine gate_callee (f := 28) rfl ?_); refine goesL_ (some 22) rfl rfl Tryd.func28 (by kernel_rfl) rfl #[.slice A0 l0.length c0] rfl (by (try simp only [List.map_toArray, List.map_cons, List.map_nil]); first | done | rfl | (simp only [List.length_drop, List.length_take]; rfl)) ?_; (with_reducible refine (spec_DrawPlaces.calls k _ _ l0 t372 _ ?side1 ?side2 A5.out).mono ?_); (case side1 => repeat (first | exact (Kd.C_below HR0.out HB.out) | (with_reducible refine Kd.C_alloc ?_ _) | (with_reducible refine Kd.C_drewN ?_ _) | (with_reducible refine Kd.C_drew ?_))); (case side2 => exact HC0.out); rintro e w19 ⟨v373, rfl, ho0, hb⟩; refine ⟨_, rfl, ?_⟩; replace HO371 := Aside0.mk (Kd.R_below (by (with_reducible repeat (first | apply Kd.R_alloc | apply Kd.R_drewN | apply Kd.R_drew)); exact HO371.out) hb); have HO374 := Aside0.mk (Kd.R_lower ho0 (below_size (bZ HB))); replace HB := bS HB hb; (try clear hb); (try clear hb2); (try clear hk); (try clear hi); (try clear ho0); obtain ⟨Ao20, co20, eo20⟩ := Kd.R_slice HO374.out; subst eo20; have p375 : 0 ≤ (0 : Int) := (by omega); have q375 : 0 < (t372.length : Int) := of_decide_eq_true (by first | (with_reducible assumption) | assumption); obtain ⟨ad375, e375, hx375_0⟩ := Kd.at_int (Kd.R_reads' HO374.out).2.2 0 p375 q375; cases e375; have qi375 : (0 < t372.length) = True := eq_true (by omega); (try rw [show ((0 : Int)).toNat = 0 from rfl] at hx375_0); (try rw [Addr.add_zero'] at hx375_0); replace p375 := eq_true p375; replace q375 := eq_true q375; obtain ⟨Ao21, co21, eo21⟩ := Kd.R_slice HO371.out; subst eo21) | ((with_reducible refine gate_callee (f := 23) rfl ?_); refine goesL_ (some 31) rfl rfl Tryd.func23 (by kernel_rfl) rfl #[.slice Ao21 t369.length co21, .int .i64 ji9] rfl (by (try simp only [List.map_toArray, List.map_cons, List.map_nil]); first | done | (simp only [hji9]; rfl) | rfl | (simp only [List.length_drop, List.length_take]; rfl)) ?_; (with_reducible refine (impl_BranchOf.calls k _ _ t369 ji9 t376 _ ?side1 ?side2 (Kp.Tab.below HT.out (bZ HB)) A8.out).mono ?_); (case side1 => repeat (first | exact (Kd.R_reads' HO371.out).2.2 | (with_reducible refine Kd.C_alloc ?_ _) | (with_reducible refine Kd.C_drewN ?_ _) | (with_reducible refine Kd.C_drew ?_))); (case side2 => exact (Kd.R_reads' HO371.out).2.1); rintro e w22 ⟨v377, rfl, ho0, hb⟩; refine ⟨_, rfl, ?_⟩; replace HO374 := Aside0.mk (Kd.R_below (by (with_reducible repeat (first | apply Kd.R_alloc | apply Kd.R_drewN | apply Kd.R_drew)); exact HO374.out) hb); have HO378 := Aside0.mk (Kd.R_lower (Kd.R_new' ho0 (Kd.R_lt (by (with_reducible repeat (first | apply Kd.R_alloc | apply Kd.R_drewN | apply Kd.R_drew)); exact HO371.out))) (below_size (bZ HB))); replace HO371 := Aside0.mk (Kd.R_elder' (by (with_reducible repeat (first | apply Kd.R_alloc | apply Kd.R_drewN | apply Kd.R_drew)); exact HO371.out) (Kd.R_base ho0) hb); replace HB := bS HB hb; (try clear hb); (try clear hb2); (try clear hk); (try clear hi); (try clear ho0); have p379 : 0 ≤ ((ji9) : Int) := of_decide_eq_true (by first | (with_reducible assumption) | assumption); have q379 : (ji9) < (t369.length : Int) := of_decide_eq_true (by first | (with_reducible assumption) | assumption); obtain ⟨ad379, e379, hx379_0⟩ := Kd.at_string (Kd.R_reads' HO371.out).2.2 (ji9) p379 q379; cases e379; replace p379 := eq_true p379; replace q379 := eq_true q379) | ((with_reducible refine gate_callee (f := 17) rfl ?_); refine goesL_ (some 38) rfl rfl Tryd.func17 (by kernel_rfl) rfl #[.slice (some ad379) t369.length co21] rfl (by (try simp only [List.map_toArray, List.map_cons, List.map_nil]); first | done | rfl | (simp only [List.length_drop, List.length_take]; rfl)) ?_; (with_reducible refine (impl_RootOf.calls k _ _ t369 t380 _ ?side1 ?side2 (Kp.Tab.below HT.out (bZ HB)) A13.out).mono ?_); (case side1 => repeat (first | exact (Kd.R_reads' HO371.out).2.2 | (with_reducible refine Kd.C_alloc ?_ _) | (with_reducible refine Kd.C_drewN ?_ _) | (with_reducible refine Kd.C_drew ?_))); (case side2 => exact (Kd.R_reads' HO371.out).2.1); rintro e w23 ⟨rfl, hb⟩; refine ⟨_, rfl, ?_⟩; replace HO371 := Aside0.mk (Kd.R_below (by (with_reducible repeat (first | apply Kd.R_alloc | apply Kd.R_drewN | apply Kd.R_drew)); exact HO371.out) hb); replace HO374 := Aside0.mk (Kd.R_below (by (with_reducible repeat (first | apply Kd.R_alloc | apply Kd.R_drewN | apply Kd.R_drew)); exact HO374.out) hb); replace HO378 := Aside0.mk (Kd.R_below (by (with_reducible repeat (first | apply Kd.R_alloc | apply Kd.R_drewN | apply Kd.R_drew)); exact HO378.out) hb); replace HB := bS HB hb; (try clear hb); (try clear hb2); (try clear hk); (try clear hi); obtain ⟨Ao24, co24, eo24⟩ := Kd.R_slice HO378.out; subst eo24) | ((with_reducible refine gate_callee (f := 14) rfl ?_); refine goesL_ (some 42) rfl rfl Tryd.func14 (by kernel_rfl) rfl #[.string ((rdOf ByteArray.empty t369 (ji9)) ++ (⟨#[120]⟩ : ByteArray)), .int .i64 ji9, .slice Ao24 t376.length co24] rfl (by (try simp only [List.map_toArray, List.map_cons, List.map_nil]); first | done | (simp only [hji9]; rfl) | rfl | (simp only [List.length_drop, List.length_take]; rfl)) ?_; (with_reducible refine (impl_FoldBranch.calls k ((rdOf ByteArray.empty t369 (ji9)) ++ (⟨#[120]⟩ : ByteArray)) ji9 _ _ t376 t381 _ ?side1 ?side2 (Kp.Tab.below HT.out (bZ HB)) A14.out).mono ?_); (case side1 => repeat (first | exact (Kd.R_reads' HO378.out).2.2 | (with_reducible refine Kd.C_alloc ?_ _) | (with_reducible refine Kd.C_drewN ?_ _) | (with_reducible refine Kd.C_drew ?_))); (case side2 => exact (Kd.R_reads' HO378.out).2.1); rintro e w25 ⟨rfl, hb⟩; refine ⟨_, rfl, ?_⟩; replace HO371 := Aside0.mk (Kd.R_below (by (with_reducible repeat (first | apply Kd.R_alloc | apply Kd.R_drewN | apply Kd.R_drew)); exact HO371.out) hb); replace HO374 := Aside0.mk (Kd.R_below (by (with_reducible repeat (first | apply Kd.R_alloc | apply Kd.R_drewN | apply Kd.R_drew)); exact HO374.out) hb); replace HO378 := Aside0.mk (Kd.R_below (by (with_reducible repeat (first | apply Kd.R_alloc | apply Kd.R_drewN | apply Kd.R_drew)); exact HO378.out) hb); replace HB := bS HB hb; (try clear hb); (try clear hb2); (try clear hk); (try clear hi); have p382 : 0 ≤ ((ji9) : Int) := of_decide_eq_true (by first | (with_reducible assumption) | assumption); have q382 : (ji9) < (t369.length : Int) := of_decide_eq_true (by first | (with_reducible assumption) | assumption); obtain ⟨ad382, e382, hx382_0⟩ := Kd.at_string (Kd.R_reads' HO371.out).2.2 (ji9) p382 q382; obtain rfl : ad379 = ad382 := (by injection e382); replace p382 := eq_true p382; replace q382 := eq_true q382) | ((with_reducible refine gate_dst (N := 50) rfl ?_); (try (refine gate_guard (by rfl) ?_; dsimp only)); refine Kd.R_lit Kd.string _ 9 ?hg (N := 50) ?hd (xs := ([rdOf ByteArray.empty t369 (ji9)] : List ByteArray)) (inner := [.string (rdOf ByteArray.empty t369 (ji9))]) (ok := fun _ => True) (okp := fun _ => True) ?hr ?hp (fun _ hk => hk) trivial (Below.refl _ _) (Nat.le_refl _) (by simp) ?_; (case hd => rfl); (case hg => rfl); (case hr => first | (go_simp; done) | (go_simp; rfl)); (case hp => exact (Reps.one (show Kd.M Kd.string _ _ _ (rdOf ByteArray.empty t369 (ji9)) [.string (rdOf ByteArray.empty t369 (ji9))] from rfl) (Reps.none _ _))); intro v384 w26 ho27 hb hg_ hnew_; clear hg_ hnew_; (first | rw [← Ny383.out] at ho27 | (simp only [Int.reduceToNat] at ho27; rw [← Ny383.out] at ho27)); replace HO374 := Aside0.mk (Kd.R_below (by (with_reducible repeat (first | apply Kd.R_alloc | apply Kd.R_drewN | apply Kd.R_drew)); exact HO374.out) hb); have HO385 := Aside0.mk (Kd.R_lower (Kd.R_new' (Kd.R_new' ho27 (Kd.R_lt (by (with_reducible repeat (first | apply Kd.R_alloc | apply Kd.R_drewN | apply Kd.R_drew)); exact HO371.out))) (Kd.R_lt (by (with_reducible repeat (first | apply Kd.R_alloc | apply Kd.R_drewN | apply Kd.R_drew)); exact HO378.out))) (below_size (bZ HB))); replace HO371 := Aside0.mk (Kd.R_elder' (by (with_reducible repeat (first | apply Kd.R_alloc | apply Kd.R_drewN | apply Kd.R_drew)); exact HO371.out) (Kd.R_base ho27) hb); replace HO378 := Aside0.mk (Kd.R_elder' (by (with_reducible repeat (first | apply Kd.R_alloc | apply Kd.R_drewN | apply Kd.R_drew)); exact HO378.out) (Kd.R_base ho27) hb); replace HB := bS HB hb; clear hb ho27) | ((with_reducible refine gate_dst (N := 52) rfl ?_); (try (refine gate_guard (by rfl) ?_; dsimp only)); refine Kd.R_lit Kd.string _ 9 ?hg (N := 52) ?hd (xs := ([(rdOf ByteArray.empty t369 (ji9)) ++ (⟨#[120]⟩ : ByteArray)] : List ByteArray)) (inner := [.string ((rdOf ByteArray.empty t369 (ji9)) ++ (⟨#[120]⟩ : ByteArray))]) (ok := fun _ => True) (okp := fun _ => True) ?hr ?hp (fun _ hk => hk) trivial (Below.refl _ _) (Nat.le_refl _) (by simp) ?_; (case hd => rfl); (case hg => rfl); (case hr => first | (go_simp; done) | (go_simp; rfl)); (case hp => exact (Reps.one (show Kd.M Kd.string _ _ _ ((rdOf ByteArray.empty t369 (ji9)) ++ (⟨#[120]⟩ : ByteArray)) [.string ((rdOf ByteArray.empty t369 (ji9)) ++ (⟨#[120]⟩ : ByteArray))] from rfl) (Reps.none _ _))); intro v387 w28 ho29 hb hg_ hnew_; clear hg_ hnew_; (first | rw [← Ny386.out] at ho29 | (simp only [Int.reduceToNat] at ho29; rw [← Ny386.out] at ho29)); replace HO374 := Aside0.mk (Kd.R_below (by (with_reducible repeat (first | apply Kd.R_alloc | apply Kd.R_drewN | apply Kd.R_drew)); exact HO374.out) hb); have HO388 := Aside0.mk (Kd.R_lower (Kd.R_new' (Kd.R_new' (Kd.R_new' ho29 (Kd.R_lt (by (with_reducible repeat (first | apply Kd.R_alloc | apply Kd.R_drewN | apply Kd.R_drew)); exact HO371.out))) (Kd.R_lt (by (with_reducible repeat (first | apply Kd.R_alloc | apply Kd.R_drewN | apply Kd.R_drew)); exact HO378.out))) (Kd.R_lt (by (with_reducible repeat (first | apply Kd.R_alloc | apply Kd.R_drewN | apply Kd.R_drew)); exact HO385.out))) (below_size (bZ HB))); replace HO371 := Aside0.mk (Kd.R_elder' (by (with_reducible repeat (first | apply Kd.R_alloc | apply Kd.R_drewN | apply Kd.R_drew)); exact HO371.out) (Kd.R_base ho29) hb); replace HO378 := Aside0.mk (Kd.R_elder' (by (with_reducible repeat (first | apply Kd.R_alloc | apply Kd.R_drewN | apply Kd.R_drew)); exact HO378.out) (Kd.R_base ho29) hb); replace HO385 := Aside0.mk (Kd.R_elder' (by (with_reducible repeat (first | apply Kd.R_alloc | apply Kd.R_drewN | apply Kd.R_drew)); exact HO385.out) (Kd.R_base ho29) hb); replace HB := bS HB hb; clear hb ho29; have p389 : 0 ≤ ((ji9) : Int) := of_decide_eq_true (by first | (with_reducible assumption) | assumption); have q389 : (ji9) < (t369.length : Int) := of_decide_eq_true (by first | (with_reducible assumption) | assumption); obtain ⟨ad389, e389, hx389_0⟩ := Kd.at_string (Kd.R_reads' HO371.out).2.2 (ji9) p389 q389; obtain rfl : ad379 = ad389 := (by injection e389); replace p389 := eq_true p389; replace q389 := eq_true q389) | ((with_reducible refine gate_callee (f := 29) rfl ?_); refine goesL_ (some 57) rfl rfl Tryd.func29 (by kernel_rfl) rfl #[.string (rdOf ByteArray.empty t369 (ji9))] rfl (by (try simp only [List.map_toArray, List.map_cons, List.map_nil]); first | done | (simp only [hji9]; rfl) | rfl | (simp only [List.length_drop, List.length_take]; rfl)) ?_; (with_reducible refine (spec_Digest.calls (rdOf ByteArray.empty t369 (ji9)) t390 _ A16.out).mono ?_); rintro e w30 ⟨rfl, hb⟩; refine ⟨_, rfl, ?_⟩; replace HO371 := Aside0.mk (Kd.R_below (by (with_reducible repeat (first | apply Kd.R_alloc | apply Kd.R_drewN | apply Kd.R_drew)); exact HO371.out) hb); replace HO374 := Aside0.mk (Kd.R_below (by (with_reducible repeat (first | apply Kd.R_alloc | apply Kd.R_drewN | apply Kd.R_drew)); exact HO374.out) hb); replace HO378 := Aside0.mk (Kd.R_below (by (with_reducible repeat (first | apply Kd.R_alloc | apply Kd.R_drewN | apply Kd.R_drew)); exact HO378.out) hb); replace HO385 := Aside0.mk (Kd.R_below (by (with_reducible repeat (first | apply Kd.R_alloc | apply Kd.R_drewN | apply Kd.R_drew)); exact HO385.out) hb); replace HO388 := Aside0.mk (Kd.R_below (by (with_reducible repeat (first | apply Kd.R_alloc | apply Kd.R_drewN | apply Kd.R_drew)); exact HO388.out) hb); replace HB := bS HB hb; (try clear hb); (try clear hb2); (try clear hk); (try clear hi)) | ((with_reducible refine gate_callee (f := 29) rfl ?_); refine goesL_ (some 59) rfl rfl Tryd.func29 (by kernel_rfl) rfl #[.string ((rdOf ByteArray.empty t369 (ji9)) ++ (⟨#[120]⟩ : ByteArray))] rfl (by (try simp only [List.map_toArray, List.map_cons, List.map_nil]); first | done | (simp only [hji9]; rfl) | rfl | (simp only [List.length_drop, List.length_take]; rfl)) ?_; (with_reducible refine (spec_Digest.calls ((rdOf ByteArray.empty t369 (ji9)) ++ (⟨#[120]⟩ : ByteArray)) t391 _ A17.out).mono ?_); rintro e w31 ⟨rfl, hb⟩; refine ⟨_, rfl, ?_⟩; replace HO371 := Aside0.mk (Kd.R_below (by (with_reducible repeat (first | apply Kd.R_alloc | apply Kd.R_drewN | apply Kd.R_drew)); exact HO371.out) hb); replace HO374 := Aside0.mk (Kd.R_below (by (with_reducible repeat (first | apply Kd.R_alloc | apply Kd.R_drewN | apply Kd.R_drew)); exact HO374.out) hb); replace HO378 := Aside0.mk (Kd.R_below (by (with_reducible repeat (first | apply Kd.R_alloc | apply Kd.R_drewN | apply Kd.R_drew)); exact HO378.out) hb); replace HO385 := Aside0.mk (Kd.R_below (by (with_reducible repeat (first | apply Kd.R_alloc | apply Kd.R_drewN | apply Kd.R_drew)); exact HO385.out) hb); replace HO388 := Aside0.mk (Kd.R_below (by (with_reducible repeat (first | apply Kd.R_alloc | apply Kd.R_drewN | apply Kd.R_drew)); exact HO388.out) hb); replace HB := bS HB hb; (try clear hb); (try clear hb2); (try clear hk); (try clear hi)))
        go_loopg [10, 11, 12, 13, 14] k (fun kq v10 v11 v12 v13 v14 w' => ∃ (x10_1 : List ByteArray) (x11_1 : List ByteArray) (x12_1 : ByteArray) (x13_1 : ByteArray) (x14_1 : Int), v12 = .string x12_1 ∧ v13 = .string x13_1 ∧ v14 = .int .i64 x14_1 ∧ Aside0 (laws_FnOneLeaf.l0 kq ji9 t376 x10_1 x11_1 x12_1 x13_1 x14_1 = some r) ∧ Aside0 (kq ≤ k) ∧ Aside0 (Kd.R Kd.string 9 w' w.heap.size (fun k_ => some k_ ≠ (v10 : Value).ownBlock ∧ some k_ ≠ (v11 : Value).ownBlock) (.slice Ao24 t376.length co24) t376) ∧ Aside0 (Kd.R Kd.string 9 w' w.heap.size (fun k_ => some k_ ≠ ((.slice Ao24 t376.length co24) : Value).ownBlock ∧ some k_ ≠ (v11 : Value).ownBlock) v10 x10_1) ∧ Aside0 (Kd.R Kd.string 9 w' w.heap.size (fun k_ => some k_ ≠ ((.slice Ao24 t376.length co24) : Value).ownBlock ∧ some k_ ≠ (v10 : Value).ownBlock) v11 x11_1) ∧ Aside0 (Below w.heap.size w w'))
        case atStart => exact ⟨(y383), (y386), (t390), (t391), (0), (by first | rfl | (simp; done) | (simp [*]; done)), (by first | rfl | (simp; done) | (simp [*]; done)), (by first | rfl | (simp; done) | (simp [*]; done)), H', ⟨Nat.le_refl _⟩, ⟨by (with_reducible repeat (first | apply Kd.R_alloc | apply Kd.R_drewN | apply Kd.R_drew)); exact Kd.R_mono HO378.out (fun _ hk => ⟨hk.1.2, hk.2⟩)⟩, ⟨by (with_reducible repeat (first | apply Kd.R_alloc | apply Kd.R_drewN | apply Kd.R_drew)); exact Kd.R_mono HO385.out (fun _ hk => ⟨hk.1.2, hk.2⟩)⟩, ⟨by (with_reducible repeat (first | apply Kd.R_alloc | apply Kd.R_drewN | apply Kd.R_drew)); exact Kd.R_mono HO388.out (fun _ hk => ⟨hk.1.2, hk.2⟩)⟩, ⟨bZ HB⟩⟩
        case round =>
         clear H'
         try clear c1
         try clear c2
         try clear p2
         try clear c3
         try clear p3
         try clear q3
         try clear hx3
         try clear qi3
         try clear c6
         try clear c6b0
         try clear c6b1
         try clear c7
         try clear c7b0
         try clear c7b1
         try clear c7b2
         try clear c10
         try clear c10b0
         try clear c11
         try clear c11b0
         try clear c12
         try clear c12b0
         try clear c12b1
         try clear c12b2
         try clear c14
         try clear c15
         try clear c15b0
         try clear c15b1
         try clear c17
         try clear c23
         try clear c26
         try clear c27
         try clear c28
         try clear c29
         try clear hx375_0
         try clear hx379_0
         try clear hx382_0
         try clear hx389_0
         try clear p375
         try clear p379
         try clear p382
         try clear p389
         try clear q375
         try clear q379
         try clear q382
         try clear q389
         obtain ⟨x10_1, x11_1, x12_1, x13_1, x14_1, rfl, rfl, rfl, HA, HK1, HO_6, HO_10, HO_11, HB⟩ := hrel
         cases gk with
         | zero => exact absurd HA.out (by simp [laws_FnOneLeaf.l0])
         | succ k1 =>
          have H := HA.out
          clear HA
          simp only [laws_FnOneLeaf.l0] at H
          by_cases c32 : x14_1 < (t376.length : Int)
          ·rw [if_pos c32] at H
           have c32b0 : decide (x14_1 < (t376.length : Int)) = true := decide_eq_true c32
           clear c32
           by_cases c33 : 0 ≤ x14_1
           ·rw [if_pos c33] at H
            have c33b0 : decide (0 ≤ x14_1) = true := decide_eq_true c33
            clear c33
            by_cases c34 : x12_1.size + (rdOf ByteArray.empty t376 x14_1).size ≤ 9223372036854775807
            ·rw [if_pos c34] at H
             have c34b0 := eq_true c34
             have c34b1 : decide (x12_1.size + (rdOf ByteArray.empty t376 x14_1).size ≤ 9223372036854775807) = true := decide_eq_true c34
             try have c34b2 : (9223372036854775807 < x12_1.size + (rdOf ByteArray.empty t376 x14_1).size) = False := eq_false (Nat.not_lt.2 c34)
             try simp only [ByteArray.size_append] at c34b2
             by_cases c35 : x13_1.size + (rdOf ByteArray.empty t376 x14_1).size ≤ 9223372036854775807
             ·rw [if_pos c35] at H
              have c35b0 := eq_true c35
              have c35b1 : decide (x13_1.size + (rdOf ByteArray.empty t376 x14_1).size ≤ 9223372036854775807) = true := decide_eq_true c35
              try have c35b2 : (9223372036854775807 < x13_1.size + (rdOf ByteArray.empty t376 x14_1).size) = False := eq_false (Nat.not_lt.2 c35)
              try simp only [ByteArray.size_append] at c35b2
              obtain ⟨ji36, hji36⟩ : ∃ j_ : Int, (IntKind.u64.wrap (x14_1)) = j_ := ⟨_, rfl⟩
              replace H : (if 0 ≤ (ji36) then (if (Int.tmod (shr .i64 ji9 (ji36)) 2) = 1 then (if (rdOf ByteArray.empty t376 x14_1).size + x12_1.size ≤ 9223372036854775807 then (if (rdOf ByteArray.empty t376 x14_1).size + x13_1.size ≤ 9223372036854775807 then (if x10_1.length < 8796093022208 then (if x11_1.length < 8796093022208 then ((spec_Digest.f ((rdOf ByteArray.empty t376 x14_1) ++ x12_1)).bind fun t403 => ((spec_Digest.f ((rdOf ByteArray.empty t376 x14_1) ++ x13_1)).bind fun t404 => (laws_FnOneLeaf.l0 k1 ji9 t376 (x10_1 ++ [(rdOf ByteArray.empty t376 x14_1) ++ x12_1]) (x11_1 ++ [(rdOf ByteArray.empty t376 x14_1) ++ x13_1]) t403 t404 (wrap64 (x14_1 + 1))))) else (none)) else (none)) else (none)) else (none)) else (if x10_1.length < 8796093022208 then (if x11_1.length < 8796093022208 then ((spec_Digest.f (x12_1 ++ (rdOf ByteArray.empty t376 x14_1))).bind fun t411 => ((spec_Digest.f (x13_1 ++ (rdOf ByteArray.empty t376 x14_1))).bind fun t412 => (laws_FnOneLeaf.l0 k1 ji9 t376 (x10_1 ++ [x12_1 ++ (rdOf ByteArray.empty t376 x14_1)]) (x11_1 ++ [x13_1 ++ (rdOf ByteArray.empty t376 x14_1)]) t411 t412 (wrap64 (x14_1 + 1))))) else (none)) else (none))) else (none)) = some r := by first | (rw [hji36] at H; exact H) | (simp only [hji36] at H ⊢; exact H)
              by_cases c37 : 0 ≤ (ji36)
              ·rw [if_pos c37] at H
               have c37b0 := eq_true c37
               have c37b1 : decide (0 ≤ (ji36)) = true := decide_eq_true c37
               clear c37
               obtain ⟨ji38, hji38⟩ : ∃ j_ : Int, (shr .i64 ji9 (ji36)) = j_ := ⟨_, rfl⟩
               replace H : (if (Int.tmod (ji38) 2) = 1 then (if (rdOf ByteArray.empty t376 x14_1).size + x12_1.size ≤ 9223372036854775807 then (if (rdOf ByteArray.empty t376 x14_1).size + x13_1.size ≤ 9223372036854775807 then (if x10_1.length < 8796093022208 then (if x11_1.length < 8796093022208 then ((spec_Digest.f ((rdOf ByteArray.empty t376 x14_1) ++ x12_1)).bind fun t403 => ((spec_Digest.f ((rdOf ByteArray.empty t376 x14_1) ++ x13_1)).bind fun t404 => (laws_FnOneLeaf.l0 k1 ji9 t376 (x10_1 ++ [(rdOf ByteArray.empty t376 x14_1) ++ x12_1]) (x11_1 ++ [(rdOf ByteArray.empty t376 x14_1) ++ x13_1]) t403 t404 (wrap64 (x14_1 + 1))))) else (none)) else (none)) else (none)) else (none)) else (if x10_1.length < 8796093022208 then (if x11_1.length < 8796093022208 then ((spec_Digest.f (x12_1 ++ (rdOf ByteArray.empty t376 x14_1))).bind fun t411 => ((spec_Digest.f (x13_1 ++ (rdOf ByteArray.empty t376 x14_1))).bind fun t412 => (laws_FnOneLeaf.l0 k1 ji9 t376 (x10_1 ++ [x12_1 ++ (rdOf ByteArray.empty t376 x14_1)]) (x11_1 ++ [x13_1 ++ (rdOf ByteArray.empty t376 x14_1)]) t411 t412 (wrap64 (x14_1 + 1))))) else (none)) else (none))) = some r := by first | (rw [hji38] at H; exact H) | (simp only [hji38] at H ⊢; exact H)
               have hji38_ : (ji9 / 2 ^ min (ji36).toNat 64) = ji38 := hji38
               have hji38z : (ji36) ≤ 64 → (ji9 / 2 ^ (ji36).toNat) = ji38 := shr_small hji38
               by_cases c39 : (Int.tmod (ji38) 2) = 1
               ·rw [if_pos c39] at H
                have c39b0 : ((Int.tmod (ji38) 2) == 1) = true := beq_iff_eq.mpr c39
                have c39b1 : ((Int.tmod (ji38) 2) != 1) = false := bne_eq_false_iff_eq.mpr c39
                clear c39
                by_cases c40 : (rdOf ByteArray.empty t376 x14_1).size + x12_1.size ≤ 9223372036854775807
                ·rw [if_pos c40] at H
                 have c40b0 := eq_true c40
                 have c40b1 : decide ((rdOf ByteArray.empty t376 x14_1).size + x12_1.size ≤ 9223372036854775807) = true := decide_eq_true c40
                 try have c40b2 : (9223372036854775807 < (rdOf ByteArray.empty t376 x14_1).size + x12_1.size) = False := eq_false (Nat.not_lt.2 c40)
                 try simp only [ByteArray.size_append] at c40b2
                 by_cases c41 : (rdOf ByteArray.empty t376 x14_1).size + x13_1.size ≤ 9223372036854775807
                 ·rw [if_pos c41] at H
                  have c41b0 := eq_true c41
                  have c41b1 : decide ((rdOf ByteArray.empty t376 x14_1).size + x13_1.size ≤ 9223372036854775807) = true := decide_eq_true c41
                  try have c41b2 : (9223372036854775807 < (rdOf ByteArray.empty t376 x14_1).size + x13_1.size) = False := eq_false (Nat.not_lt.2 c41)
                  try simp only [ByteArray.size_append] at c41b2
                  by_cases c42 : x10_1.length < 8796093022208
                  ·rw [if_pos c42] at H
                   have LMc42 := Aside0.mk c42
                   clear c42
                   obtain ⟨y397, hy397⟩ : ∃ y_ : List ByteArray, y_ = (x10_1 ++ [(rdOf ByteArray.empty t376 x14_1) ++ x12_1]) := ⟨_, rfl⟩
                   replace H : (if x11_1.length < 8796093022208 then ((spec_Digest.f ((rdOf ByteArray.empty t376 x14_1) ++ x12_1)).bind fun t403 => ((spec_Digest.f ((rdOf ByteArray.empty t376 x14_1) ++ x13_1)).bind fun t404 => (laws_FnOneLeaf.l0 k1 ji9 t376 y397 (x11_1 ++ [(rdOf ByteArray.empty t376 x14_1) ++ x13_1]) t403 t404 (wrap64 (x14_1 + 1))))) else (none)) = some r := by first | (rw [hy397]; with_reducible exact H) | (have H2_ := (Option.bind_some _ _).symm.trans H; rw [hy397]; with_reducible exact H2_) | (have H2_ := (Option.bind_some _ _).symm.trans H; with_reducible exact H2_) | with_reducible exact H | (rw [hy397]; exact H) | exact H
                   have Ny397 := Aside0.mk hy397
                   clear hy397
                   by_cases c43 : x11_1.length < 8796093022208
                   ·rw [if_pos c43] at H
                    have LMc43 := Aside0.mk c43
                    clear c43
                    obtain ⟨y400, hy400⟩ : ∃ y_ : List ByteArray, y_ = (x11_1 ++ [(rdOf ByteArray.empty t376 x14_1) ++ x13_1]) := ⟨_, rfl⟩
                    replace H : ((spec_Digest.f ((rdOf ByteArray.empty t376 x14_1) ++ x12_1)).bind fun t403 => ((spec_Digest.f ((rdOf ByteArray.empty t376 x14_1) ++ x13_1)).bind fun t404 => (laws_FnOneLeaf.l0 k1 ji9 t376 y397 y400 t403 t404 (wrap64 (x14_1 + 1))))) = some r := by first | (rw [hy400]; with_reducible exact H) | (have H2_ := (Option.bind_some _ _).symm.trans H; rw [hy400]; with_reducible exact H2_) | (have H2_ := (Option.bind_some _ _).symm.trans H; with_reducible exact H2_) | with_reducible exact H | (rw [hy400]; exact H) | exact H
                    have Ny400 := Aside0.mk hy400
                    clear hy400
                    replace H := Option.bind_eq_some_iff.mp H
                    obtain ⟨t403, A440, H⟩ := H
                    replace H : ((spec_Digest.f ((rdOf ByteArray.empty t376 x14_1) ++ x13_1)).bind fun t404 => (laws_FnOneLeaf.l0 k1 ji9 t376 y397 y400 t403 t404 (wrap64 (x14_1 + 1)))) = some r := H
                    have A44 := Aside0.mk A440
                    clear A440
                    replace H := Option.bind_eq_some_iff.mp H
                    obtain ⟨t404, A450, H⟩ := H
                    replace H : (laws_FnOneLeaf.l0 k1 ji9 t376 y397 y400 t403 t404 (wrap64 (x14_1 + 1))) = some r := H
                    have A45 := Aside0.mk A450
                    clear A450
                    have H' := Aside0.mk H
                    clear H
                    have p393 : 0 ≤ (x14_1 : Int) := of_decide_eq_true (by first | (with_reducible assumption) | assumption)
                    have q393 : x14_1 < (t376.length : Int) := of_decide_eq_true (by first | (with_reducible assumption) | assumption)
                    obtain ⟨ad393, e393, hx393_0⟩ := Kd.at_string (Kd.R_reads' HO_6.out).2.2 x14_1 p393 q393
                    cases e393
                    replace p393 := eq_true p393
                    replace q393 := eq_true q393
                    have p394 : 0 ≤ (x14_1 : Int) := of_decide_eq_true (by first | (with_reducible assumption) | assumption)
                    have q394 : x14_1 < (t376.length : Int) := of_decide_eq_true (by first | (with_reducible assumption) | assumption)
                    obtain ⟨ad394, e394, hx394_0⟩ := Kd.at_string (Kd.R_reads' HO_6.out).2.2 x14_1 p394 q394
                    obtain rfl : ad393 = ad394 := (by injection e394)
                    replace p394 := eq_true p394
                    replace q394 := eq_true q394
                    have p395 : 0 ≤ (x14_1 : Int) := of_decide_eq_true (by first | (with_reducible assumption) | assumption)
                    have q395 : x14_1 < (t376.length : Int) := of_decide_eq_true (by first | (with_reducible assumption) | assumption)
                    obtain ⟨ad395, e395, hx395_0⟩ := Kd.at_string (Kd.R_reads' HO_6.out).2.2 x14_1 p395 q395
                    obtain rfl : ad393 = ad395 := (by injection e395)
                    replace p395 := eq_true p395
                    replace q395 := eq_true q395
                    have p396 : 0 ≤ (x14_1 : Int) := of_decide_eq_true (by first | (with_reducible assumption) | assumption)
                    have q396 : x14_1 < (t376.length : Int) := of_decide_eq_true (by first | (with_reducible assumption) | assumption)
                    obtain ⟨ad396, e396, hx396_0⟩ := Kd.at_string (Kd.R_reads' HO_6.out).2.2 x14_1 p396 q396
                    obtain rfl : ad393 = ad396 := (by injection e396)
                    replace p396 := eq_true p396
                    replace q396 := eq_true q396
                    go_wp2_with (first | ((with_reducible refine gate_builtin (b := .append) (xs := #[.tmp 96, .tmp 98]) rfl ?_); (try (refine gate_guard (by rfl) ?_; dsimp only)); at_builtin; refine Kd.R_append Kd.string (w0 := w) w.heap.size rfl (.tmp 96) (.tmp 98) 22 9 (.string ⟨#[]⟩) 16 rfl Tryd.underlying22 info9 rfl (by decide) (by omega) u10 x10_1 ((rdOf ByteArray.empty t376 x14_1) ++ x12_1) [.string ((rdOf ByteArray.empty t376 x14_1) ++ x12_1)] (fun k_ => some k_ ≠ (.slice (some ad393) t376.length co24 : Value).ownBlock ∧ some k_ ≠ (u11 : Value).ownBlock) (fun _ => False) rfl rfl ?aP (fun _ hk => hk.elim) ?aF ?aO ?aB ?aS ?aL ?_; (case aP => exact rfl); (case aB => exact (bZ HB)); (case aF => exact (fun k_ hk => ⟨Kd.fresh' (Kd.R_lt (by (with_reducible repeat (first | apply Kd.R_alloc | apply Kd.R_drewN | apply Kd.R_drew)); exact HO_6.out)) k_ hk, Kd.fresh' (Kd.R_lt (by (with_reducible repeat (first | apply Kd.R_alloc | apply Kd.R_drewN | apply Kd.R_drew)); exact HO_11.out)) k_ hk⟩)); (case aO => exact (by (with_reducible repeat (first | apply Kd.R_alloc | apply Kd.R_drewN | apply Kd.R_drew)); exact HO_10.out)); (case aS => exact (below_size (bZ HB))); (case aL => have := LMc42.out; omega); intro v398 w46 ho hb hg hat; rw [← Ny397.out] at ho; replace HO_6 := Aside0.mk (Kd.R_after (ok := (fun k_ => some k_ ≠ (u11 : Value).ownBlock)) (by (with_reducible repeat (first | apply Kd.R_alloc | apply Kd.R_drewN | apply Kd.R_drew)); exact Kd.R_mono HO_6.out (fun _ hk => ⟨hk.2, hk.1⟩)) hg hat); replace HO_11 := Aside0.mk (Kd.R_after (ok := (fun k_ => some k_ ≠ (.slice (some ad393) t376.length co24 : Value).ownBlock)) (by (with_reducible repeat (first | apply Kd.R_alloc | apply Kd.R_drewN | apply Kd.R_drew)); exact HO_11.out) hg hat); replace HB := Aside0.mk (hb); have HO399 := Aside0.mk (ho); clear HO_10; clear ho hb hg hat) | ((with_reducible refine gate_builtin (b := .append) (xs := #[.tmp 100, .tmp 102]) rfl ?_); (try (refine gate_guard (by rfl) ?_; dsimp only)); at_builtin; refine Kd.R_append Kd.string (w0 := w) w.heap.size rfl (.tmp 100) (.tmp 102) 22 9 (.string ⟨#[]⟩) 16 rfl Tryd.underlying22 info9 rfl (by decide) (by omega) u11 x11_1 ((rdOf ByteArray.empty t376 x14_1) ++ x13_1) [.string ((rdOf ByteArray.empty t376 x14_1) ++ x13_1)] (fun k_ => some k_ ≠ (.slice (some ad393) t376.length co24 : Value).ownBlock ∧ some k_ ≠ (v398 : Value).ownBlock) (fun _ => False) rfl rfl ?aP (fun _ hk => hk.elim) ?aF ?aO ?aB ?aS ?aL ?_; (case aP => exact rfl); (case aB => exact (bZ HB)); (case aF => exact (fun k_ hk => ⟨Kd.fresh' (Kd.R_lt (by (with_reducible repeat (first | apply Kd.R_alloc | apply Kd.R_drewN | apply Kd.R_drew)); exact HO_6.out)) k_ hk, Kd.fresh' (Kd.R_lt (by (with_reducible repeat (first | apply Kd.R_alloc | apply Kd.R_drewN | apply Kd.R_drew)); exact HO399.out)) k_ hk⟩)); (case aO => exact (by (with_reducible repeat (first | apply Kd.R_alloc | apply Kd.R_drewN | apply Kd.R_drew)); exact HO_11.out)); (case aS => exact (below_size (bZ HB))); (case aL => have := LMc43.out; omega); intro v401 w47 ho hb hg hat; rw [← Ny400.out] at ho; replace HO_6 := Aside0.mk (Kd.R_after (ok := (fun k_ => some k_ ≠ (v398 : Value).ownBlock)) (by (with_reducible repeat (first | apply Kd.R_alloc | apply Kd.R_drewN | apply Kd.R_drew)); exact Kd.R_mono HO_6.out (fun _ hk => ⟨hk.2, hk.1⟩)) hg hat); replace HO399 := Aside0.mk (Kd.R_after (ok := (fun k_ => some k_ ≠ (.slice (some ad393) t376.length co24 : Value).ownBlock)) (by (with_reducible repeat (first | apply Kd.R_alloc | apply Kd.R_drewN | apply Kd.R_drew)); exact HO399.out) hg hat); replace HB := Aside0.mk (hb); have HO402 := Aside0.mk (ho); clear HO_11; clear ho hb hg hat) | ((with_reducible refine gate_callee (f := 29) rfl ?_); refine goesL_ (some 105) rfl rfl Tryd.func29 (by kernel_rfl) rfl #[.string ((rdOf ByteArray.empty t376 x14_1) ++ x12_1)] rfl (by (try simp only [List.map_toArray, List.map_cons, List.map_nil]); first | done | rfl | (simp only [List.length_drop, List.length_take]; rfl)) ?_; (with_reducible refine (spec_Digest.calls ((rdOf ByteArray.empty t376 x14_1) ++ x12_1) t403 _ A44.out).mono ?_); rintro e w48 ⟨rfl, hb⟩; refine ⟨_, rfl, ?_⟩; replace HO_6 := Aside0.mk (Kd.R_below (by (with_reducible repeat (first | apply Kd.R_alloc | apply Kd.R_drewN | apply Kd.R_drew)); exact HO_6.out) hb); replace HO399 := Aside0.mk (Kd.R_below (by (with_reducible repeat (first | apply Kd.R_alloc | apply Kd.R_drewN | apply Kd.R_drew)); exact HO399.out) hb); replace HO402 := Aside0.mk (Kd.R_below (by (with_reducible repeat (first | apply Kd.R_alloc | apply Kd.R_drewN | apply Kd.R_drew)); exact HO402.out) hb); replace HB := bS HB hb; (try clear hb); (try clear hb2); (try clear hk); (try clear hi)) | ((with_reducible refine gate_callee (f := 29) rfl ?_); refine goesL_ (some 107) rfl rfl Tryd.func29 (by kernel_rfl) rfl #[.string ((rdOf ByteArray.empty t376 x14_1) ++ x13_1)] rfl (by (try simp only [List.map_toArray, List.map_cons, List.map_nil]); first | done | rfl | (simp only [List.length_drop, List.length_take]; rfl)) ?_; (with_reducible refine (spec_Digest.calls ((rdOf ByteArray.empty t376 x14_1) ++ x13_1) t404 _ A45.out).mono ?_); rintro e w49 ⟨rfl, hb⟩; refine ⟨_, rfl, ?_⟩; replace HO_6 := Aside0.mk (Kd.R_below (by (with_reducible repeat (first | apply Kd.R_alloc | apply Kd.R_drewN | apply Kd.R_drew)); exact HO_6.out) hb); replace HO399 := Aside0.mk (Kd.R_below (by (with_reducible repeat (first | apply Kd.R_alloc | apply Kd.R_drewN | apply Kd.R_drew)); exact HO399.out) hb); replace HO402 := Aside0.mk (Kd.R_below (by (with_reducible repeat (first | apply Kd.R_alloc | apply Kd.R_drewN | apply Kd.R_drew)); exact HO402.out) hb); replace HB := bS HB hb; (try clear hb); (try clear hb2); (try clear hk); (try clear hi)))
                    go_roundg k1
                    case measure => have := HK1.out; omega
                    case rel => exact ⟨(y397), (y400), (t403), (t404), (wrap64 (x14_1 + 1)), (by first | rfl | (simp; done) | (simp [*]; done)), (by first | rfl | (simp; done) | (simp [*]; done)), (by first | rfl | (simp; done) | (simp [*]; done)), H', ⟨by have := HK1.out; omega⟩, ⟨by (with_reducible repeat (first | apply Kd.R_alloc | apply Kd.R_drewN | apply Kd.R_drew)); exact HO_6.out⟩, ⟨by (with_reducible repeat (first | apply Kd.R_alloc | apply Kd.R_drewN | apply Kd.R_drew)); exact HO399.out⟩, ⟨by (with_reducible repeat (first | apply Kd.R_alloc | apply Kd.R_drewN | apply Kd.R_drew)); exact HO402.out⟩, ⟨bZ HB⟩⟩
                   ·rw [if_neg c43] at H
                    exact absurd H (by simp)
                  ·rw [if_neg c42] at H
                   exact absurd H (by simp)
                 ·rw [if_neg c41] at H
                  exact absurd H (by simp)
                ·rw [if_neg c40] at H
                 exact absurd H (by simp)
               ·rw [if_neg c39] at H
                have c39b0 : ((Int.tmod (ji38) 2) == 1) = false := beq_eq_false_iff_ne.mpr c39
                have c39b1 : ((Int.tmod (ji38) 2) != 1) = true := bne_iff_ne.mpr c39
                by_cases c50 : x10_1.length < 8796093022208
                ·rw [if_pos c50] at H
                 have LMc50 := Aside0.mk c50
                 clear c50
                 obtain ⟨y405, hy405⟩ : ∃ y_ : List ByteArray, y_ = (x10_1 ++ [x12_1 ++ (rdOf ByteArray.empty t376 x14_1)]) := ⟨_, rfl⟩
                 replace H : (if x11_1.length < 8796093022208 then ((spec_Digest.f (x12_1 ++ (rdOf ByteArray.empty t376 x14_1))).bind fun t411 => ((spec_Digest.f (x13_1 ++ (rdOf ByteArray.empty t376 x14_1))).bind fun t412 => (laws_FnOneLeaf.l0 k1 ji9 t376 y405 (x11_1 ++ [x13_1 ++ (rdOf ByteArray.empty t376 x14_1)]) t411 t412 (wrap64 (x14_1 + 1))))) else (none)) = some r := by first | (rw [hy405]; with_reducible exact H) | (have H2_ := (Option.bind_some _ _).symm.trans H; rw [hy405]; with_reducible exact H2_) | (have H2_ := (Option.bind_some _ _).symm.trans H; with_reducible exact H2_) | with_reducible exact H | (rw [hy405]; exact H) | exact H
                 have Ny405 := Aside0.mk hy405
                 clear hy405
                 by_cases c51 : x11_1.length < 8796093022208
                 ·rw [if_pos c51] at H
                  have LMc51 := Aside0.mk c51
                  clear c51
                  obtain ⟨y408, hy408⟩ : ∃ y_ : List ByteArray, y_ = (x11_1 ++ [x13_1 ++ (rdOf ByteArray.empty t376 x14_1)]) := ⟨_, rfl⟩
                  replace H : ((spec_Digest.f (x12_1 ++ (rdOf ByteArray.empty t376 x14_1))).bind fun t411 => ((spec_Digest.f (x13_1 ++ (rdOf ByteArray.empty t376 x14_1))).bind fun t412 => (laws_FnOneLeaf.l0 k1 ji9 t376 y405 y408 t411 t412 (wrap64 (x14_1 + 1))))) = some r := by first | (rw [hy408]; with_reducible exact H) | (have H2_ := (Option.bind_some _ _).symm.trans H; rw [hy408]; with_reducible exact H2_) | (have H2_ := (Option.bind_some _ _).symm.trans H; with_reducible exact H2_) | with_reducible exact H | (rw [hy408]; exact H) | exact H
                  have Ny408 := Aside0.mk hy408
                  clear hy408
                  replace H := Option.bind_eq_some_iff.mp H
                  obtain ⟨t411, A520, H⟩ := H
                  replace H : ((spec_Digest.f (x13_1 ++ (rdOf ByteArray.empty t376 x14_1))).bind fun t412 => (laws_FnOneLeaf.l0 k1 ji9 t376 y405 y408 t411 t412 (wrap64 (x14_1 + 1)))) = some r := H
                  have A52 := Aside0.mk A520
                  clear A520
                  replace H := Option.bind_eq_some_iff.mp H
                  obtain ⟨t412, A530, H⟩ := H
                  replace H : (laws_FnOneLeaf.l0 k1 ji9 t376 y405 y408 t411 t412 (wrap64 (x14_1 + 1))) = some r := H
                  have A53 := Aside0.mk A530
                  clear A530
                  have H' := Aside0.mk H
                  clear H
                  have p393 : 0 ≤ (x14_1 : Int) := of_decide_eq_true (by first | (with_reducible assumption) | assumption)
                  have q393 : x14_1 < (t376.length : Int) := of_decide_eq_true (by first | (with_reducible assumption) | assumption)
                  obtain ⟨ad393, e393, hx393_0⟩ := Kd.at_string (Kd.R_reads' HO_6.out).2.2 x14_1 p393 q393
                  cases e393
                  replace p393 := eq_true p393
                  replace q393 := eq_true q393
                  have p394 : 0 ≤ (x14_1 : Int) := of_decide_eq_true (by first | (with_reducible assumption) | assumption)
                  have q394 : x14_1 < (t376.length : Int) := of_decide_eq_true (by first | (with_reducible assumption) | assumption)
                  obtain ⟨ad394, e394, hx394_0⟩ := Kd.at_string (Kd.R_reads' HO_6.out).2.2 x14_1 p394 q394
                  obtain rfl : ad393 = ad394 := (by injection e394)
                  replace p394 := eq_true p394
                  replace q394 := eq_true q394
                  go_wp2_with (first | ((with_reducible refine gate_builtin (b := .append) (xs := #[.tmp 96, .tmp 98]) rfl ?_); (try (refine gate_guard (by rfl) ?_; dsimp only)); at_builtin; refine Kd.R_append Kd.string (w0 := w) w.heap.size rfl (.tmp 96) (.tmp 98) 22 9 (.string ⟨#[]⟩) 16 rfl Tryd.underlying22 info9 rfl (by decide) (by omega) u10 x10_1 (x12_1 ++ (rdOf ByteArray.empty t376 x14_1)) [.string (x12_1 ++ (rdOf ByteArray.empty t376 x14_1))] (fun k_ => some k_ ≠ (.slice (some ad393) t376.length co24 : Value).ownBlock ∧ some k_ ≠ (u11 : Value).ownBlock) (fun _ => False) rfl rfl ?aP (fun _ hk => hk.elim) ?aF ?aO ?aB ?aS ?aL ?_; (case aP => exact rfl); (case aB => exact (bZ HB)); (case aF => exact (fun k_ hk => ⟨Kd.fresh' (Kd.R_lt (by (with_reducible repeat (first | apply Kd.R_alloc | apply Kd.R_drewN | apply Kd.R_drew)); exact HO_6.out)) k_ hk, Kd.fresh' (Kd.R_lt (by (with_reducible repeat (first | apply Kd.R_alloc | apply Kd.R_drewN | apply Kd.R_drew)); exact HO_11.out)) k_ hk⟩)); (case aO => exact (by (with_reducible repeat (first | apply Kd.R_alloc | apply Kd.R_drewN | apply Kd.R_drew)); exact HO_10.out)); (case aS => exact (below_size (bZ HB))); (case aL => have := LMc50.out; omega); intro v406 w54 ho hb hg hat; rw [← Ny405.out] at ho; replace HO_6 := Aside0.mk (Kd.R_after (ok := (fun k_ => some k_ ≠ (u11 : Value).ownBlock)) (by (with_reducible repeat (first | apply Kd.R_alloc | apply Kd.R_drewN | apply Kd.R_drew)); exact Kd.R_mono HO_6.out (fun _ hk => ⟨hk.2, hk.1⟩)) hg hat); replace HO_11 := Aside0.mk (Kd.R_after (ok := (fun k_ => some k_ ≠ (.slice (some ad393) t376.length co24 : Value).ownBlock)) (by (with_reducible repeat (first | apply Kd.R_alloc | apply Kd.R_drewN | apply Kd.R_drew)); exact HO_11.out) hg hat); replace HB := Aside0.mk (hb); have HO407 := Aside0.mk (ho); clear HO_10; clear ho hb hg hat) | ((with_reducible refine gate_builtin (b := .append) (xs := #[.tmp 100, .tmp 102]) rfl ?_); (try (refine gate_guard (by rfl) ?_; dsimp only)); at_builtin; refine Kd.R_append Kd.string (w0 := w) w.heap.size rfl (.tmp 100) (.tmp 102) 22 9 (.string ⟨#[]⟩) 16 rfl Tryd.underlying22 info9 rfl (by decide) (by omega) u11 x11_1 (x13_1 ++ (rdOf ByteArray.empty t376 x14_1)) [.string (x13_1 ++ (rdOf ByteArray.empty t376 x14_1))] (fun k_ => some k_ ≠ (.slice (some ad393) t376.length co24 : Value).ownBlock ∧ some k_ ≠ (v406 : Value).ownBlock) (fun _ => False) rfl rfl ?aP (fun _ hk => hk.elim) ?aF ?aO ?aB ?aS ?aL ?_; (case aP => exact rfl); (case aB => exact (bZ HB)); (case aF => exact (fun k_ hk => ⟨Kd.fresh' (Kd.R_lt (by (with_reducible repeat (first | apply Kd.R_alloc | apply Kd.R_drewN | apply Kd.R_drew)); exact HO_6.out)) k_ hk, Kd.fresh' (Kd.R_lt (by (with_reducible repeat (first | apply Kd.R_alloc | apply Kd.R_drewN | apply Kd.R_drew)); exact HO407.out)) k_ hk⟩)); (case aO => exact (by (with_reducible repeat (first | apply Kd.R_alloc | apply Kd.R_drewN | apply Kd.R_drew)); exact HO_11.out)); (case aS => exact (below_size (bZ HB))); (case aL => have := LMc51.out; omega); intro v409 w55 ho hb hg hat; rw [← Ny408.out] at ho; replace HO_6 := Aside0.mk (Kd.R_after (ok := (fun k_ => some k_ ≠ (v406 : Value).ownBlock)) (by (with_reducible repeat (first | apply Kd.R_alloc | apply Kd.R_drewN | apply Kd.R_drew)); exact Kd.R_mono HO_6.out (fun _ hk => ⟨hk.2, hk.1⟩)) hg hat); replace HO407 := Aside0.mk (Kd.R_after (ok := (fun k_ => some k_ ≠ (.slice (some ad393) t376.length co24 : Value).ownBlock)) (by (with_reducible repeat (first | apply Kd.R_alloc | apply Kd.R_drewN | apply Kd.R_drew)); exact HO407.out) hg hat); replace HB := Aside0.mk (hb); have HO410 := Aside0.mk (ho); clear HO_11; clear ho hb hg hat) | ((with_reducible refine gate_callee (f := 29) rfl ?_); refine goesL_ (some 105) rfl rfl Tryd.func29 (by kernel_rfl) rfl #[.string (x12_1 ++ (rdOf ByteArray.empty t376 x14_1))] rfl (by (try simp only [List.map_toArray, List.map_cons, List.map_nil]); first | done | rfl | (simp only [List.length_drop, List.length_take]; rfl)) ?_; (with_reducible refine (spec_Digest.calls (x12_1 ++ (rdOf ByteArray.empty t376 x14_1)) t411 _ A52.out).mono ?_); rintro e w56 ⟨rfl, hb⟩; refine ⟨_, rfl, ?_⟩; replace HO_6 := Aside0.mk (Kd.R_below (by (with_reducible repeat (first | apply Kd.R_alloc | apply Kd.R_drewN | apply Kd.R_drew)); exact HO_6.out) hb); replace HO407 := Aside0.mk (Kd.R_below (by (with_reducible repeat (first | apply Kd.R_alloc | apply Kd.R_drewN | apply Kd.R_drew)); exact HO407.out) hb); replace HO410 := Aside0.mk (Kd.R_below (by (with_reducible repeat (first | apply Kd.R_alloc | apply Kd.R_drewN | apply Kd.R_drew)); exact HO410.out) hb); replace HB := bS HB hb; (try clear hb); (try clear hb2); (try clear hk); (try clear hi)) | ((with_reducible refine gate_callee (f := 29) rfl ?_); refine goesL_ (some 107) rfl rfl Tryd.func29 (by kernel_rfl) rfl #[.string (x13_1 ++ (rdOf ByteArray.empty t376 x14_1))] rfl (by (try simp only [List.map_toArray, List.map_cons, List.map_nil]); first | done | rfl | (simp only [List.length_drop, List.length_take]; rfl)) ?_; (with_reducible refine (spec_Digest.calls (x13_1 ++ (rdOf ByteArray.empty t376 x14_1)) t412 _ A53.out).mono ?_); rintro e w57 ⟨rfl, hb⟩; refine ⟨_, rfl, ?_⟩; replace HO_6 := Aside0.mk (Kd.R_below (by (with_reducible repeat (first | apply Kd.R_alloc | apply Kd.R_drewN | apply Kd.R_drew)); exact HO_6.out) hb); replace HO407 := Aside0.mk (Kd.R_below (by (with_reducible repeat (first | apply Kd.R_alloc | apply Kd.R_drewN | apply Kd.R_drew)); exact HO407.out) hb); replace HO410 := Aside0.mk (Kd.R_below (by (with_reducible repeat (first | apply Kd.R_alloc | apply Kd.R_drewN | apply Kd.R_drew)); exact HO410.out) hb); replace HB := bS HB hb; (try clear hb); (try clear hb2); (try clear hk); (try clear hi)))
                  go_roundg k1
                  case measure => have := HK1.out; omega
                  case rel => exact ⟨(y405), (y408), (t411), (t412), (wrap64 (x14_1 + 1)), (by first | rfl | (simp; done) | (simp [*]; done)), (by first | rfl | (simp; done) | (simp [*]; done)), (by first | rfl | (simp; done) | (simp [*]; done)), H', ⟨by have := HK1.out; omega⟩, ⟨by (with_reducible repeat (first | apply Kd.R_alloc | apply Kd.R_drewN | apply Kd.R_drew)); exact HO_6.out⟩, ⟨by (with_reducible repeat (first | apply Kd.R_alloc | apply Kd.R_drewN | apply Kd.R_drew)); exact HO407.out⟩, ⟨by (with_reducible repeat (first | apply Kd.R_alloc | apply Kd.R_drewN | apply Kd.R_drew)); exact HO410.out⟩, ⟨bZ HB⟩⟩
                 ·rw [if_neg c51] at H
                  exact absurd H (by simp)
                ·rw [if_neg c50] at H
                 exact absurd H (by simp)
              ·rw [if_neg c37] at H
               exact absurd H (by simp)
             ·rw [if_neg c35] at H
              exact absurd H (by simp)
            ·rw [if_neg c34] at H
             exact absurd H (by simp)
           ·rw [if_neg c33] at H
            exact absurd H (by simp)
          ·rw [if_neg c32] at H
           have c32b0 : decide (x14_1 < (t376.length : Int)) = false := decide_eq_false c32
           clear c32
           replace H := Option.bind_eq_some_iff.mp H
           obtain ⟨t392, A580, H⟩ := H
           replace H : (some t392) = some r := H
           have A58 := Aside0.mk A580
           clear A580
           obtain rfl := Option.some.inj H
           obtain ⟨Ao59, co59, eo59⟩ := Kd.R_slice HO_10.out
           subst eo59
           obtain ⟨Ao60, co60, eo60⟩ := Kd.R_slice HO_11.out
           subst eo60
           go_wp2_with (first | ((with_reducible refine gate_callee (f := 30) rfl ?_); refine goesL_ (some 110) rfl rfl Tryd.func30 (by kernel_rfl) rfl #[.slice Ao59 x10_1.length co59, .slice Ao60 x11_1.length co60] rfl (by (try simp only [List.map_toArray, List.map_cons, List.map_nil]); first | done | rfl | (simp only [List.length_drop, List.length_take]; rfl)) ?_; (with_reducible refine (laws_clash.calls k1 _ _ x10_1 _ _ x11_1 t392 _ ?side1 ?side2 ?side3 ?side4 A58.out).mono ?_); (case side1 => repeat (first | exact (Kd.R_reads' HO_10.out).2.2 | (with_reducible refine Kd.C_alloc ?_ _) | (with_reducible refine Kd.C_drewN ?_ _) | (with_reducible refine Kd.C_drew ?_))); (case side2 => exact (Kd.R_reads' HO_10.out).2.1); (case side3 => repeat (first | exact (Kd.R_reads' HO_11.out).2.2 | (with_reducible refine Kd.C_alloc ?_ _) | (with_reducible refine Kd.C_drewN ?_ _) | (with_reducible refine Kd.C_drew ?_))); (case side4 => exact (Kd.R_reads' HO_11.out).2.1); rintro e w61 ⟨rfl, hb⟩; refine ⟨_, rfl, ?_⟩; replace HO_6 := Aside0.mk (Kd.R_below (by (with_reducible repeat (first | apply Kd.R_alloc | apply Kd.R_drewN | apply Kd.R_drew)); exact HO_6.out) hb); replace HO_10 := Aside0.mk (Kd.R_below (by (with_reducible repeat (first | apply Kd.R_alloc | apply Kd.R_drewN | apply Kd.R_drew)); exact HO_10.out) hb); replace HO_11 := Aside0.mk (Kd.R_below (by (with_reducible repeat (first | apply Kd.R_alloc | apply Kd.R_drewN | apply Kd.R_drew)); exact HO_11.out) hb); replace HB := bS HB hb; (try clear hb); (try clear hb2); (try clear hk); (try clear hi)))
           go_ret
           exact ⟨by first | rfl | (simp [errW_none, errW_some] <;> rfl) | (simp only [← hji9]; first | rfl | (simp [errW_none, errW_some] <;> rfl)) | (simp [*, errW_none, errW_some] <;> rfl), bZ HB⟩
       ·rw [if_neg c15] at H
        have c15b0 : (t381.toList == t380.toList) = false := beq_eq_false_iff_ne.mpr c15
        have c15b1 : (t381.toList != t380.toList) = true := bne_iff_ne.mpr c15
        by_cases c62 : (t381.size : Int) = 32
        ·rw [if_pos c62] at H
         have c62b0 : ((t381.size : Int) == 32) = true := beq_iff_eq.mpr c62
         have c62b1 : ((t381.size : Int) != 32) = false := bne_eq_false_iff_eq.mpr c62
         clear c62
         replace H := Option.bind_eq_some_iff.mp H
         obtain ⟨t413, A630, H⟩ := H
         replace H : (if t381.toList = t413.toList then (some ((t380.size : Int) == 32)) else (some false)) = some r := H
         have A63 := Aside0.mk A630
         clear A630
         by_cases c64 : t381.toList = t413.toList
         ·rw [if_pos c64] at H
          have c64b0 : (t381.toList == t413.toList) = true := beq_iff_eq.mpr c64
          have c64b1 : (t381.toList != t413.toList) = false := bne_eq_false_iff_eq.mpr c64
          clear c64
          obtain rfl := Option.some.inj H
          go_enter Tryd.func7, Tryd.ntmps7
          go_wp2_with (first | ((with_reducible refine gate_callee (f := 26) rfl ?_); refine goesL_ (some 18) rfl rfl Tryd.func26 (by kernel_rfl) rfl #[.slice A0 l0.length c0] rfl (by (try simp only [List.map_toArray, List.map_cons, List.map_nil]); first | done | rfl | (simp only [List.length_drop, List.length_take]; rfl)) ?_; (with_reducible refine (laws_big.calls _ _ l0 false _ ?side1 ?side2 A2.out).mono ?_); (case side1 => repeat (first | exact HR0.out | (with_reducible refine Kd.C_alloc ?_ _) | (with_reducible refine Kd.C_drewN ?_ _) | (with_reducible refine Kd.C_drew ?_))); (case side2 => exact HC0.out); rintro e w' ⟨rfl, ⟨nd, rfl⟩⟩; refine ⟨_, rfl, ?_⟩) | ((with_reducible refine gate_callee (f := 27) rfl ?_); refine goesL_ (some 20) rfl rfl Tryd.func27 (by kernel_rfl) rfl #[.slice A0 l0.length c0] rfl (by (try simp only [List.map_toArray, List.map_cons, List.map_nil]); first | done | rfl | (simp only [List.length_drop, List.length_take]; rfl)) ?_; (with_reducible refine (spec_DrawLeaves.calls k _ _ l0 t369 _ ?side1 ?side2 A4.out).mono ?_); (case side1 => repeat (first | exact HR0.out | (with_reducible refine Kd.C_alloc ?_ _) | (with_reducible refine Kd.C_drewN ?_ _) | (with_reducible refine Kd.C_drew ?_))); (case side2 => exact HC0.out); rintro e w65 ⟨v370, rfl, ho0, hb⟩; refine ⟨_, rfl, ?_⟩; have HO371 := Aside0.mk (Kd.R_lower ho0 (below_size (bZ HB))); replace HB := bS HB hb; (try clear hb); (try clear hb2); (try clear hk); (try clear hi); (try clear ho0)) | ((with_reducible refine gate_callee (f := 28) rfl ?_); refine goesL_ (some 22) rfl rfl Tryd.func28 (by kernel_rfl) rfl #[.slice A0 l0.length c0] rfl (by (try simp only [List.map_toArray, List.map_cons, List.map_nil]); first | done | rfl | (simp only [List.length_drop, List.length_take]; rfl)) ?_; (with_reducible refine (spec_DrawPlaces.calls k _ _ l0 t372 _ ?side1 ?side2 A5.out).mono ?_); (case side1 => repeat (first | exact (Kd.C_below HR0.out HB.out) | (with_reducible refine Kd.C_alloc ?_ _) | (with_reducible refine Kd.C_drewN ?_ _) | (with_reducible refine Kd.C_drew ?_))); (case side2 => exact HC0.out); rintro e w66 ⟨v373, rfl, ho0, hb⟩; refine ⟨_, rfl, ?_⟩; replace HO371 := Aside0.mk (Kd.R_below (by (with_reducible repeat (first | apply Kd.R_alloc | apply Kd.R_drewN | apply Kd.R_drew)); exact HO371.out) hb); have HO374 := Aside0.mk (Kd.R_lower ho0 (below_size (bZ HB))); replace HB := bS HB hb; (try clear hb); (try clear hb2); (try clear hk); (try clear hi); (try clear ho0); obtain ⟨Ao67, co67, eo67⟩ := Kd.R_slice HO374.out; subst eo67; have p375 : 0 ≤ (0 : Int) := (by omega); have q375 : 0 < (t372.length : Int) := of_decide_eq_true (by first | (with_reducible assumption) | assumption); obtain ⟨ad375, e375, hx375_0⟩ := Kd.at_int (Kd.R_reads' HO374.out).2.2 0 p375 q375; cases e375; have qi375 : (0 < t372.length) = True := eq_true (by omega); (try rw [show ((0 : Int)).toNat = 0 from rfl] at hx375_0); (try rw [Addr.add_zero'] at hx375_0); replace p375 := eq_true p375; replace q375 := eq_true q375; obtain ⟨Ao68, co68, eo68⟩ := Kd.R_slice HO371.out; subst eo68) | ((with_reducible refine gate_callee (f := 23) rfl ?_); refine goesL_ (some 31) rfl rfl Tryd.func23 (by kernel_rfl) rfl #[.slice Ao68 t369.length co68, .int .i64 ji9] rfl (by (try simp only [List.map_toArray, List.map_cons, List.map_nil]); first | done | (simp only [hji9]; rfl) | rfl | (simp only [List.length_drop, List.length_take]; rfl)) ?_; (with_reducible refine (impl_BranchOf.calls k _ _ t369 ji9 t376 _ ?side1 ?side2 (Kp.Tab.below HT.out (bZ HB)) A8.out).mono ?_); (case side1 => repeat (first | exact (Kd.R_reads' HO371.out).2.2 | (with_reducible refine Kd.C_alloc ?_ _) | (with_reducible refine Kd.C_drewN ?_ _) | (with_reducible refine Kd.C_drew ?_))); (case side2 => exact (Kd.R_reads' HO371.out).2.1); rintro e w69 ⟨v377, rfl, ho0, hb⟩; refine ⟨_, rfl, ?_⟩; replace HO374 := Aside0.mk (Kd.R_below (by (with_reducible repeat (first | apply Kd.R_alloc | apply Kd.R_drewN | apply Kd.R_drew)); exact HO374.out) hb); have HO378 := Aside0.mk (Kd.R_lower (Kd.R_new' ho0 (Kd.R_lt (by (with_reducible repeat (first | apply Kd.R_alloc | apply Kd.R_drewN | apply Kd.R_drew)); exact HO371.out))) (below_size (bZ HB))); replace HO371 := Aside0.mk (Kd.R_elder' (by (with_reducible repeat (first | apply Kd.R_alloc | apply Kd.R_drewN | apply Kd.R_drew)); exact HO371.out) (Kd.R_base ho0) hb); replace HB := bS HB hb; (try clear hb); (try clear hb2); (try clear hk); (try clear hi); (try clear ho0); have p379 : 0 ≤ ((ji9) : Int) := of_decide_eq_true (by first | (with_reducible assumption) | assumption); have q379 : (ji9) < (t369.length : Int) := of_decide_eq_true (by first | (with_reducible assumption) | assumption); obtain ⟨ad379, e379, hx379_0⟩ := Kd.at_string (Kd.R_reads' HO371.out).2.2 (ji9) p379 q379; cases e379; replace p379 := eq_true p379; replace q379 := eq_true q379) | ((with_reducible refine gate_callee (f := 17) rfl ?_); refine goesL_ (some 38) rfl rfl Tryd.func17 (by kernel_rfl) rfl #[.slice (some ad379) t369.length co68] rfl (by (try simp only [List.map_toArray, List.map_cons, List.map_nil]); first | done | rfl | (simp only [List.length_drop, List.length_take]; rfl)) ?_; (with_reducible refine (impl_RootOf.calls k _ _ t369 t380 _ ?side1 ?side2 (Kp.Tab.below HT.out (bZ HB)) A13.out).mono ?_); (case side1 => repeat (first | exact (Kd.R_reads' HO371.out).2.2 | (with_reducible refine Kd.C_alloc ?_ _) | (with_reducible refine Kd.C_drewN ?_ _) | (with_reducible refine Kd.C_drew ?_))); (case side2 => exact (Kd.R_reads' HO371.out).2.1); rintro e w70 ⟨rfl, hb⟩; refine ⟨_, rfl, ?_⟩; replace HO371 := Aside0.mk (Kd.R_below (by (with_reducible repeat (first | apply Kd.R_alloc | apply Kd.R_drewN | apply Kd.R_drew)); exact HO371.out) hb); replace HO374 := Aside0.mk (Kd.R_below (by (with_reducible repeat (first | apply Kd.R_alloc | apply Kd.R_drewN | apply Kd.R_drew)); exact HO374.out) hb); replace HO378 := Aside0.mk (Kd.R_below (by (with_reducible repeat (first | apply Kd.R_alloc | apply Kd.R_drewN | apply Kd.R_drew)); exact HO378.out) hb); replace HB := bS HB hb; (try clear hb); (try clear hb2); (try clear hk); (try clear hi); obtain ⟨Ao71, co71, eo71⟩ := Kd.R_slice HO378.out; subst eo71) | ((with_reducible refine gate_callee (f := 14) rfl ?_); refine goesL_ (some 42) rfl rfl Tryd.func14 (by kernel_rfl) rfl #[.string ((rdOf ByteArray.empty t369 (ji9)) ++ (⟨#[120]⟩ : ByteArray)), .int .i64 ji9, .slice Ao71 t376.length co71] rfl (by (try simp only [List.map_toArray, List.map_cons, List.map_nil]); first | done | (simp only [hji9]; rfl) | rfl | (simp only [List.length_drop, List.length_take]; rfl)) ?_; (with_reducible refine (impl_FoldBranch.calls k ((rdOf ByteArray.empty t369 (ji9)) ++ (⟨#[120]⟩ : ByteArray)) ji9 _ _ t376 t381 _ ?side1 ?side2 (Kp.Tab.below HT.out (bZ HB)) A14.out).mono ?_); (case side1 => repeat (first | exact (Kd.R_reads' HO378.out).2.2 | (with_reducible refine Kd.C_alloc ?_ _) | (with_reducible refine Kd.C_drewN ?_ _) | (with_reducible refine Kd.C_drew ?_))); (case side2 => exact (Kd.R_reads' HO378.out).2.1); rintro e w72 ⟨rfl, hb⟩; refine ⟨_, rfl, ?_⟩; replace HO371 := Aside0.mk (Kd.R_below (by (with_reducible repeat (first | apply Kd.R_alloc | apply Kd.R_drewN | apply Kd.R_drew)); exact HO371.out) hb); replace HO374 := Aside0.mk (Kd.R_below (by (with_reducible repeat (first | apply Kd.R_alloc | apply Kd.R_drewN | apply Kd.R_drew)); exact HO374.out) hb); replace HO378 := Aside0.mk (Kd.R_below (by (with_reducible repeat (first | apply Kd.R_alloc | apply Kd.R_drewN | apply Kd.R_drew)); exact HO378.out) hb); replace HB := bS HB hb; (try clear hb); (try clear hb2); (try clear hk); (try clear hi)) | (go_at_call 12; (with_reducible refine (spec_FoldBranch.calls k ((rdOf ByteArray.empty t369 (ji9)) ++ (⟨#[120]⟩ : ByteArray)) ji9 _ _ t376 t413 _ ?side1 ?side2 A63.out).mono ?_); (case side1 => repeat (first | exact (Kd.R_reads' HO378.out).2.2 | (with_reducible refine Kd.C_alloc ?_ _) | (with_reducible refine Kd.C_drewN ?_ _) | (with_reducible refine Kd.C_drew ?_))); (case side2 => exact (Kd.R_reads' HO378.out).2.1); rintro e w73 ⟨rfl, hb⟩; replace HO371 := Aside0.mk (Kd.R_below (by (with_reducible repeat (first | apply Kd.R_alloc | apply Kd.R_drewN | apply Kd.R_drew)); exact HO371.out) hb); replace HO374 := Aside0.mk (Kd.R_below (by (with_reducible repeat (first | apply Kd.R_alloc | apply Kd.R_drewN | apply Kd.R_drew)); exact HO374.out) hb); replace HO378 := Aside0.mk (Kd.R_below (by (with_reducible repeat (first | apply Kd.R_alloc | apply Kd.R_drewN | apply Kd.R_drew)); exact HO378.out) hb); replace HB := bS HB hb; (try clear hb); (try clear hb2); (try clear hk); (try clear hi)))
          go_ret
          exact ⟨by first | rfl | (simp [errW_none, errW_some] <;> rfl) | (simp only [← hji9]; first | rfl | (simp [errW_none, errW_some] <;> rfl)) | (simp [*, errW_none, errW_some] <;> rfl), bZ HB⟩
         ·rw [if_neg c64] at H
          have c64b0 : (t381.toList == t413.toList) = false := beq_eq_false_iff_ne.mpr c64
          have c64b1 : (t381.toList != t413.toList) = true := bne_iff_ne.mpr c64
          exact absurd (Option.some.inj H) (by rw [htrue.out]; exact Bool.false_ne_true)
        ·rw [if_neg c62] at H
         have c62b0 : ((t381.size : Int) == 32) = false := beq_eq_false_iff_ne.mpr c62
         have c62b1 : ((t381.size : Int) != 32) = true := bne_iff_ne.mpr c62
         exact absurd (Option.some.inj H) (by rw [htrue.out]; exact Bool.false_ne_true)
      ·rw [if_neg c12] at H
       exact absurd H (by simp)
     ·rw [if_neg c11] at H
      exact absurd H (by simp)
    ·rw [if_neg c10] at H
     exact absurd H (by simp)
  ·rw [if_neg c6] at H
   exact absurd H (by simp)

/-- THE ONE PURE STATEMENT of laws_FnOneLeaf. -/
def laws_FnOneLeaf.Pure : Prop := ∀ (l0 : List Int), (l0.length ≤ 9223372036854775807 ∧ ∀ y1 ∈ l0, (Lit.int .u8 y1).wf = true) → ∃ k, laws_FnOneLeaf.f k l0 = some true
/-! ### spec_LevelsOf: function 39 -/
def spec_LevelsOf.l0 : Nat → Int → Int → Option (Int)
 | 0, _, _ => none
 | k + 1, x0, x3 => if 0 ≤ (IntKind.u64.wrap (x3)) then (if (shl .i64 1 (IntKind.u64.wrap (x3))) < x0 then (spec_LevelsOf.l0 k x0 (wrap64 (x3 + 1))) else (some x3)) else (none)
def spec_LevelsOf.f (k : Nat) (a0 : Int) : Option (Int) := (spec_l01In.f a0 0 32).bind fun t134 => (if t134 = true then (spec_LevelsOf.l0 k a0 0) else (some (-1)))
theorem spec_LevelsOf.mono_l : ∀ k, (∀ y0 y1, LeO (spec_LevelsOf.l0 k y0 y1) (spec_LevelsOf.l0 (k + 1) y0 y1))
 | 0 => fun _ _ r h => by simp [spec_LevelsOf.l0] at h
 | k + 1 => by
  have ih0 := spec_LevelsOf.mono_l k
  ·intro y0 y1
   unfold spec_LevelsOf.l0
   repeat' first
   | (with_reducible exact ih0 _ _)
   | (with_reducible exact LeO.refl _)
   | (with_reducible exact LeO.none _)
   | (with_reducible refine LeO.ite ?_ ?_)
   | (with_reducible refine LeO.bind ?_ (fun _ => ?_))
   | exact ih0 _ _
   | exact LeO.none _
   | refine LeO.ite ?_ ?_
   | refine LeO.bind ?_ (fun _ => ?_)
theorem spec_LevelsOf.mono : ∀ a0 k, LeO (spec_LevelsOf.f k a0) (spec_LevelsOf.f (k + 1) a0) := by
 intro a0 k
 have ih0 := spec_LevelsOf.mono_l k
 unfold spec_LevelsOf.f
 repeat' first
   | (with_reducible exact ih0 _ _)
   | (with_reducible exact LeO.refl _)
   | (with_reducible exact LeO.none _)
   | (with_reducible refine LeO.ite ?_ ?_)
   | (with_reducible refine LeO.bind ?_ (fun _ => ?_))
   | exact ih0 _ _
   | exact LeO.none _
   | refine LeO.ite ?_ ?_
   | refine LeO.bind ?_ (fun _ => ?_)
set_option maxHeartbeats 8000000 in
set_option maxRecDepth 100000 in
theorem spec_LevelsOf.calls (k : Nat) (a0 : Int) (r : Int) (w : World) (h : spec_LevelsOf.f k a0 = some r) :
  Calls Tryd.prog 39 #[.int .i64 a0] w fun e w' => e = .returned (.int .i64 r) ∧ Drawn0 w w' := by
 have H : ((spec_l01In.f a0 0 32).bind fun t134 => (if t134 = true then (spec_LevelsOf.l0 k a0 0) else (some (-1)))) = some r := h
 clear h
 replace H := Option.bind_eq_some_iff.mp H
 obtain ⟨t134, A20, H⟩ := H
 replace H : (if t134 = true then (spec_LevelsOf.l0 k a0 0) else (some (-1))) = some r := H
 have A2 := Aside0.mk A20
 clear A20
 by_cases c3 : t134 = true
 ·subst c3
  have H1 : (spec_LevelsOf.l0 k a0 0) = some r := by rw [if_pos rfl] at H; exact H
  clear H
  have H := H1
  clear H1
  have H' := Aside0.mk H
  clear H
  go_enter Tryd.func39, Tryd.ntmps39
  go_wp2_with (first | ((with_reducible refine gate_callee (f := 49) rfl ?_); refine goesL_ (some 5) rfl rfl Tryd.func49 (by kernel_rfl) rfl #[.int .i64 a0, .int .i64 0, .int .i64 32] rfl (by (try simp only [List.map_toArray, List.map_cons, List.map_nil]); first | done | rfl | (simp only [List.length_drop, List.length_take]; rfl)) ?_; (with_reducible refine (spec_l01In.calls a0 0 32 true _ A2.out).mono ?_); rintro e w' ⟨rfl, ⟨nd, rfl⟩⟩; refine ⟨_, rfl, ?_⟩))
  go_loopg [3] k (fun kq v3 w' => ∃ (x3_1 : Int), v3 = .int .i64 x3_1 ∧ Aside0 (spec_LevelsOf.l0 kq a0 x3_1 = some r) ∧ Aside0 (kq ≤ k) ∧ Drawn0 w w')
  case atStart => exact ⟨(0), (by first | rfl | (simp; done) | (simp [*]; done)), H', ⟨Nat.le_refl _⟩, by repeat (first | exact Drawn0.refl _ | apply Drawn0.step)⟩
  case round =>
   clear H'
   try clear p2
   try clear c3
   obtain ⟨x3_1, rfl, HA, HK1, ⟨m1, rfl⟩⟩ := hrel
   cases gk with
   | zero => exact absurd HA.out (by simp [spec_LevelsOf.l0])
   | succ k1 =>
    have H := HA.out
    clear HA
    simp only [spec_LevelsOf.l0] at H
    obtain ⟨ji4, hji4⟩ : ∃ j_ : Int, (IntKind.u64.wrap (x3_1)) = j_ := ⟨_, rfl⟩
    replace H : (if 0 ≤ (ji4) then (if (shl .i64 1 (ji4)) < a0 then (spec_LevelsOf.l0 k1 a0 (wrap64 (x3_1 + 1))) else (some x3_1)) else (none)) = some r := by first | (rw [hji4] at H; exact H) | (simp only [hji4] at H ⊢; exact H)
    by_cases c5 : 0 ≤ (ji4)
    ·rw [if_pos c5] at H
     have c5b0 := eq_true c5
     have c5b1 : decide (0 ≤ (ji4)) = true := decide_eq_true c5
     clear c5
     obtain ⟨ji6, hji6⟩ : ∃ j_ : Int, (shl .i64 1 (ji4)) = j_ := ⟨_, rfl⟩
     replace H : (if (ji6) < a0 then (spec_LevelsOf.l0 k1 a0 (wrap64 (x3_1 + 1))) else (some x3_1)) = some r := by first | (rw [hji6] at H; exact H) | (simp only [hji6] at H ⊢; exact H)
     have hji6_ : (IntKind.i64.wrap (1 * 2 ^ min (ji4).toNat 64)) = ji6 := hji6
     have hji6z : (ji4) ≤ 64 → (IntKind.i64.wrap (1 * 2 ^ (ji4).toNat)) = ji6 := shl_small hji6
     have hji6u : (IntKind.i64.wrap (2 ^ min (ji4).toNat 64)) = ji6 := by have h_ := hji6_; rw [Int.one_mul] at h_; exact h_
     have hji6v : (ji4) ≤ 64 → (IntKind.i64.wrap (2 ^ (ji4).toNat)) = ji6 := fun hle_ => by have h_ := hji6z hle_; rw [Int.one_mul] at h_; exact h_
     have hji6y : (wrap64 (1 * 2 ^ min (ji4).toNat 64)) = ji6 := (i64_w _).symm.trans hji6_
     have hji6x : (ji4) ≤ 64 → (wrap64 (1 * 2 ^ (ji4).toNat)) = ji6 := fun h_ => (i64_w _).symm.trans (hji6z h_)
     by_cases c7 : (ji6) < a0
     ·rw [if_pos c7] at H
      have c7b0 : decide ((ji6) < a0) = true := decide_eq_true c7
      clear c7
      have H' := Aside0.mk H
      clear H
      go_wp2
      go_roundg k1
      case measure => have := HK1.out; omega
      case rel => exact ⟨(wrap64 (x3_1 + 1)), (by first | rfl | (simp; done) | (simp [*]; done)), H', ⟨by have := HK1.out; omega⟩, by repeat (first | exact Drawn0.refl _ | apply Drawn0.step)⟩
     ·rw [if_neg c7] at H
      have c7b0 : decide ((ji6) < a0) = false := decide_eq_false c7
      clear c7
      obtain rfl := Option.some.inj H
      go_wp2
      go_ret
      exact ⟨by first | rfl | (simp; done) | (simp only [← hji4, ← hji6] <;> (first | rfl | simp)) | (simp [*]; done), by repeat (first | exact Drawn0.refl _ | apply Drawn0.step)⟩
    ·rw [if_neg c5] at H
     exact absurd H (by simp)
 ·replace c3 := Bool.eq_false_iff.mpr c3
  subst c3
  have H1 : (some (-1)) = some r := by rw [if_neg (show ¬ (false = true) by decide)] at H; exact H
  clear H
  have H := H1
  clear H1
  obtain rfl := Option.some.inj H
  go_enter Tryd.func39, Tryd.ntmps39
  go_wp2_with (first | ((with_reducible refine gate_callee (f := 49) rfl ?_); refine goesL_ (some 5) rfl rfl Tryd.func49 (by kernel_rfl) rfl #[.int .i64 a0, .int .i64 0, .int .i64 32] rfl (by (try simp only [List.map_toArray, List.map_cons, List.map_nil]); first | done | rfl | (simp only [List.length_drop, List.length_take]; rfl)) ?_; (with_reducible refine (spec_l01In.calls a0 0 32 false _ A2.out).mono ?_); rintro e w' ⟨rfl, ⟨nd, rfl⟩⟩; refine ⟨_, rfl, ?_⟩))
  go_ret
  exact ⟨by first | rfl | (simp; done) | (simp [*]; done), by repeat (first | exact Drawn0.refl _ | apply Drawn0.step)⟩
end Go.Proofs.YtmiiknkfhiecgaaDoor.Pf
end
section
namespace Go.Proofs.YtmiiknkfhiecgaaDoor.Pf
open Go.RowKit Go.Proofs.YtmiiknkfhiecgaaDoorW.PrintWords Go.Proofs.YtmiiknkfhiecgaaDoorW.PrintLast Go.Proofs.YtmiiknkfhiecgaaDoorW.PrintMore
attribute [local go_sem] max2_int min2_int max_two min_two max_three min_three max_four min_four   -- for this text's walks alone
set_option linter.unusedVariables false
set_option linter.unusedSimpArgs false

/-! ### spec_l10Hashes: function 53 -/
mutual
def spec_l10Hashes.l0 : Nat → List ByteArray → List ByteArray → Int → Option (List ByteArray)
 | 0, _, _, _ => none
 | k + 1, x0, x3, x4 => if x4 < (x0.length : Int) then (if 0 ≤ x4 then ((spec_Digest.f (rdOf ByteArray.empty x0 x4)).bind fun t139 => (if x3.length < 8796093022208 then (spec_l10Hashes.l0 k x0 (x3 ++ [t139]) (wrap64 (x4 + 1))) else (none))) else (none)) else ((spec_Digest.f (⟨#[]⟩ : ByteArray)).bind fun t143 => (spec_l10Hashes.l1 k x0 x3 t143))
def spec_l10Hashes.l1 : Nat → List ByteArray → List ByteArray → ByteArray → Option (List ByteArray)
 | 0, _, _, _ => none
 | k + 1, x0, x3, x5 => (spec_LevelsOf.f k (x0.length : Int)).bind fun t144 => (if 0 ≤ (IntKind.u64.wrap (t144)) then (if (x3.length : Int) < (shl .i64 1 (IntKind.u64.wrap (t144))) then (if x3.length < 8796093022208 then (spec_l10Hashes.l1 k x0 (x3 ++ [x5]) x5) else (none)) else (some x3)) else (none))
end
def spec_l10Hashes.f (k : Nat) (l0 : List ByteArray) : Option (List ByteArray) := spec_l10Hashes.l0 k l0 (([] : List ByteArray)) 0
theorem spec_l10Hashes.mono_l : ∀ k, (∀ y0 y1 y2, LeO (spec_l10Hashes.l0 k y0 y1 y2) (spec_l10Hashes.l0 (k + 1) y0 y1 y2)) ∧ (∀ y0 y1 y2, LeO (spec_l10Hashes.l1 k y0 y1 y2) (spec_l10Hashes.l1 (k + 1) y0 y1 y2))
 | 0 => ⟨fun _ _ _ r h => by simp [spec_l10Hashes.l0] at h, fun _ _ _ r h => by simp [spec_l10Hashes.l1] at h⟩
 | k + 1 => by
  obtain ⟨ih0, ih1⟩ := spec_l10Hashes.mono_l k
  refine ⟨?_, ?_⟩
  ·intro y0 y1 y2
   unfold spec_l10Hashes.l0
   repeat' first
   | (with_reducible exact ih0 _ _ _)
   | (with_reducible exact ih1 _ _ _)
   | (with_reducible exact spec_LevelsOf.mono _ _)
   | (with_reducible exact LeO.refl _)
   | (with_reducible exact LeO.none _)
   | (with_reducible refine LeO.ite ?_ ?_)
   | (with_reducible refine LeO.bind ?_ (fun _ => ?_))
   | exact ih0 _ _ _
   | exact ih1 _ _ _
   | exact spec_LevelsOf.mono _ _
   | exact LeO.none _
   | refine LeO.ite ?_ ?_
   | refine LeO.bind ?_ (fun _ => ?_)
  ·intro y0 y1 y2
   unfold spec_l10Hashes.l1
   repeat' first
   | (with_reducible exact ih0 _ _ _)
   | (with_reducible exact ih1 _ _ _)
   | (with_reducible exact spec_LevelsOf.mono _ _)
   | (with_reducible exact LeO.refl _)
   | (with_reducible exact LeO.none _)
   | (with_reducible refine LeO.ite ?_ ?_)
   | (with_reducible refine LeO.bind ?_ (fun _ => ?_))
   | exact ih0 _ _ _
   | exact ih1 _ _ _
   | exact spec_LevelsOf.mono _ _
   | exact LeO.none _
   | refine LeO.ite ?_ ?_
   | refine LeO.bind ?_ (fun _ => ?_)
theorem spec_l10Hashes.mono : ∀ a0 k, LeO (spec_l10Hashes.f k a0) (spec_l10Hashes.f (k + 1) a0) := by
 intro a0 k
 obtain ⟨ih0, ih1⟩ := spec_l10Hashes.mono_l k
 unfold spec_l10Hashes.f
 repeat' first
   | (with_reducible exact ih0 _ _ _)
   | (with_reducible exact ih1 _ _ _)
   | (with_reducible exact spec_LevelsOf.mono _ _)
   | (with_reducible exact LeO.refl _)
   | (with_reducible exact LeO.none _)
   | (with_reducible refine LeO.ite ?_ ?_)
   | (with_reducible refine LeO.bind ?_ (fun _ => ?_))
   | exact ih0 _ _ _
   | exact ih1 _ _ _
   | exact spec_LevelsOf.mono _ _
   | exact LeO.none _
   | refine LeO.ite ?_ ?_
   | refine LeO.bind ?_ (fun _ => ?_)
set_option maxHeartbeats 8000000 in
set_option maxRecDepth 100000 in
theorem spec_l10Hashes.calls (k : Nat) (A0 : Option Addr) (c0 : Nat) (l0 : List ByteArray) (r : List ByteArray) (w : World) (hr0 : Kd.C Kd.string w A0 l0.length l0) (hc0 : l0.length ≤ c0) (h : spec_l10Hashes.f k l0 = some r) :
  Calls Tryd.prog 53 #[.slice A0 l0.length c0] w fun e w' => ∃ v0_ : Value, e = .returned (v0_) ∧ Kd.R Kd.string 9 w' w.heap.size (fun _ => True) v0_ r ∧ Below w.heap.size w w' := by
 have HR0 := Aside0.mk hr0
 have HC0 := Aside0.mk hc0
 clear hr0 hc0
 have HB := Aside0.mk (Below.refl w.heap.size w)
 have H : (spec_l10Hashes.l0 k l0 (([] : List ByteArray)) 0) = some r := h
 clear h
 obtain ⟨y135, hy135⟩ : ∃ y_ : List ByteArray, y_ = (([] : List ByteArray)) := ⟨_, rfl⟩
 replace H : (spec_l10Hashes.l0 k l0 y135 0) = some r := by first | (rw [hy135]; with_reducible exact H) | (have H2_ := (Option.bind_some _ _).symm.trans H; rw [hy135]; with_reducible exact H2_) | (have H2_ := (Option.bind_some _ _).symm.trans H; with_reducible exact H2_) | with_reducible exact H | (rw [hy135]; exact H) | exact H
 have Ny135 := Aside0.mk hy135
 clear hy135
 have H' := Aside0.mk H
 clear H
 go_enter Tryd.func53, Tryd.ntmps53
 go_wp2_with (first | ((with_reducible refine gate_dst (N := 6) rfl ?_); refine Kd.R_lit Kd.string _ 9 ?hg (N := 6) ?hd (xs := ([] : List ByteArray)) (inner := []) (ok := fun _ => True) (okp := fun _ => True) ?hr ?hp (fun _ hk => hk) trivial (Below.refl _ _) (Nat.le_refl _) (by simp) ?_; (case hd => rfl); (case hg => rfl); (case hr => first | (go_simp; done) | (go_simp; rfl)); (case hp => exact (Reps.none _ _)); intro v136 w2 ho3 hb hg_ hnew_; clear hg_ hnew_; (first | rw [← Ny135.out] at ho3 | (simp only [Int.reduceToNat] at ho3; rw [← Ny135.out] at ho3)); have HO137 := Aside0.mk (Kd.R_lower ho3 (below_size (bZ HB))); replace HB := bS HB hb; clear hb ho3))
 go_loopg [3, 4] k (fun kq v3 v4 w' => ∃ (x3_1 : List ByteArray) (x4_1 : Int), v4 = .int .i64 x4_1 ∧ Aside0 (spec_l10Hashes.l0 kq l0 x3_1 x4_1 = some r) ∧ Aside0 (kq ≤ k) ∧ Aside0 (Kd.R Kd.string 9 w' w.heap.size (fun _ => True) v3 x3_1) ∧ Aside0 (Below w.heap.size w w'))
 case atStart => exact ⟨(y135), (0), (by first | rfl | (simp; done) | (simp [*]; done)), H', ⟨Nat.le_refl _⟩, ⟨by (with_reducible repeat (first | apply Kd.R_alloc | apply Kd.R_drewN | apply Kd.R_drew)); exact HO137.out⟩, ⟨bZ HB⟩⟩
 case round =>
  clear H'
  try clear p2
  obtain ⟨x3_1, x4_1, rfl, HA, HK1, HO_3, HB⟩ := hrel
  cases gk with
  | zero => exact absurd HA.out (by simp [spec_l10Hashes.l0])
  | succ k1 =>
   have H := HA.out
   clear HA
   simp only [spec_l10Hashes.l0] at H
   by_cases c4 : x4_1 < (l0.length : Int)
   ·rw [if_pos c4] at H
    have c4b0 : decide (x4_1 < (l0.length : Int)) = true := decide_eq_true c4
    clear c4
    by_cases c5 : 0 ≤ x4_1
    ·rw [if_pos c5] at H
     have c5b0 : decide (0 ≤ x4_1) = true := decide_eq_true c5
     clear c5
     replace H := Option.bind_eq_some_iff.mp H
     obtain ⟨t139, A60, H⟩ := H
     replace H : (if x3_1.length < 8796093022208 then (spec_l10Hashes.l0 k1 l0 (x3_1 ++ [t139]) (wrap64 (x4_1 + 1))) else (none)) = some r := H
     have A6 := Aside0.mk A60
     clear A60
     by_cases c7 : x3_1.length < 8796093022208
     ·rw [if_pos c7] at H
      have LMc7 := Aside0.mk c7
      clear c7
      obtain ⟨y140, hy140⟩ : ∃ y_ : List ByteArray, y_ = (x3_1 ++ [t139]) := ⟨_, rfl⟩
      replace H : (spec_l10Hashes.l0 k1 l0 y140 (wrap64 (x4_1 + 1))) = some r := by first | (rw [hy140]; with_reducible exact H) | (have H2_ := (Option.bind_some _ _).symm.trans H; rw [hy140]; with_reducible exact H2_) | (have H2_ := (Option.bind_some _ _).symm.trans H; with_reducible exact H2_) | with_reducible exact H | (rw [hy140]; exact H) | exact H
      have Ny140 := Aside0.mk hy140
      clear hy140
      have H' := Aside0.mk H
      clear H
      have p138 : 0 ≤ (x4_1 : Int) := of_decide_eq_true (by first | (with_reducible assumption) | assumption)
      have q138 : x4_1 < (l0.length : Int) := of_decide_eq_true (by first | (with_reducible assumption) | assumption)
      obtain ⟨ad138, e138, hx138_0⟩ := Kd.at_string HR0.out x4_1 p138 q138
      cases e138
      replace hx138_0 := (HB.out.cell (World.block_lt_of_cell? w _ hx138_0)).trans hx138_0
      replace p138 := eq_true p138
      replace q138 := eq_true q138
      go_wp2_with (first | ((with_reducible refine gate_callee (f := 29) rfl ?_); refine goesL_ (some 18) rfl rfl Tryd.func29 (by kernel_rfl) rfl #[.string (rdOf ByteArray.empty l0 x4_1)] rfl (by (try simp only [List.map_toArray, List.map_cons, List.map_nil]); first | done | rfl | (simp only [List.length_drop, List.length_take]; rfl)) ?_; (with_reducible refine (spec_Digest.calls (rdOf ByteArray.empty l0 x4_1) t139 _ A6.out).mono ?_); rintro e w8 ⟨rfl, hb⟩; refine ⟨_, rfl, ?_⟩; replace HO_3 := Aside0.mk (Kd.R_below (by (with_reducible repeat (first | apply Kd.R_alloc | apply Kd.R_drewN | apply Kd.R_drew)); exact HO_3.out) hb); replace HB := bS HB hb; (try clear hb); (try clear hb2); (try clear hk); (try clear hi)) | ((with_reducible refine gate_builtin (b := .append) (xs := #[.tmp 13, .tmp 19]) rfl ?_); at_builtin; refine Kd.R_append Kd.string (w0 := w) w.heap.size rfl (.tmp 13) (.tmp 19) 22 9 (.string ⟨#[]⟩) 16 rfl Tryd.underlying22 info9 rfl (by decide) (by omega) u3 x3_1 t139 [.string t139] (fun _ => True) (fun _ => False) rfl rfl ?aP (fun _ hk => hk.elim) ?aF ?aO ?aB ?aS ?aL ?_; (case aP => exact rfl); (case aB => exact (bZ HB)); (case aF => exact (fun _ _ => trivial)); (case aO => exact (by (with_reducible repeat (first | apply Kd.R_alloc | apply Kd.R_drewN | apply Kd.R_drew)); exact HO_3.out)); (case aS => exact (below_size (bZ HB))); (case aL => have := LMc7.out; omega); intro v141 w9 ho hb hg hat; rw [← Ny140.out] at ho; replace HB := Aside0.mk (hb); have HO142 := Aside0.mk (ho); clear HO_3; clear ho hb hg hat))
      go_roundg k1
      case measure => have := HK1.out; omega
      case rel => exact ⟨(y140), (wrap64 (x4_1 + 1)), (by first | rfl | (simp; done) | (simp [*]; done)), H', ⟨by have := HK1.out; omega⟩, ⟨by (with_reducible repeat (first | apply Kd.R_alloc | apply Kd.R_drewN | apply Kd.R_drew)); exact HO142.out⟩, ⟨bZ HB⟩⟩
     ·rw [if_neg c7] at H
      exact absurd H (by simp)
    ·rw [if_neg c5] at H
     exact absurd H (by simp)
   ·rw [if_neg c4] at H
    have c4b0 : decide (x4_1 < (l0.length : Int)) = false := decide_eq_false c4
    clear c4
    replace H := Option.bind_eq_some_iff.mp H
    obtain ⟨t143, A100, H⟩ := H
    replace H : (spec_l10Hashes.l1 k1 l0 x3_1 t143) = some r := H
    have A10 := Aside0.mk A100
    clear A100
    have H' := Aside0.mk H
    clear H
    go_wp2_with (first | ((with_reducible refine gate_callee (f := 29) rfl ?_); refine goesL_ (some 21) rfl rfl Tryd.func29 (by kernel_rfl) rfl #[.string (⟨#[]⟩ : ByteArray)] rfl (by (try simp only [List.map_toArray, List.map_cons, List.map_nil]); first | done | rfl | (simp only [List.length_drop, List.length_take]; rfl)) ?_; (with_reducible refine (spec_Digest.calls (⟨#[]⟩ : ByteArray) t143 _ A10.out).mono ?_); rintro e w11 ⟨rfl, hb⟩; refine ⟨_, rfl, ?_⟩; replace HO_3 := Aside0.mk (Kd.R_below (by (with_reducible repeat (first | apply Kd.R_alloc | apply Kd.R_drewN | apply Kd.R_drew)); exact HO_3.out) hb); replace HB := bS HB hb; (try clear hb); (try clear hb2); (try clear hk); (try clear hi)))
    go_loopg [3] k1 (fun kq v3 w' => ∃ (x3_2 : List ByteArray), Aside0 (spec_l10Hashes.l1 kq l0 x3_2 t143 = some r) ∧ Aside0 (kq ≤ k1) ∧ Aside0 (Kd.R Kd.string 9 w' w.heap.size (fun _ => True) v3 x3_2) ∧ Aside0 (Below w.heap.size w w'))
    case atStart => exact ⟨(x3_1), H', ⟨Nat.le_refl _⟩, ⟨by (with_reducible repeat (first | apply Kd.R_alloc | apply Kd.R_drewN | apply Kd.R_drew)); exact HO_3.out⟩, ⟨bZ HB⟩⟩
    case round =>
     clear H'
     try clear p1
     try clear q1
     try clear hx1
     try clear c2
     try clear p2
     try clear c4
     try clear c4b0
     try clear c5
     try clear c5b0
     try clear p6
     try clear c7
     try clear hx138_0
     try clear p138
     try clear p2
     try clear q138
     obtain ⟨x3_2, HA, HK2, HO_3, HB⟩ := hrel
     cases gk with
     | zero => exact absurd HA.out (by simp [spec_l10Hashes.l1])
     | succ k2 =>
      have H := HA.out
      clear HA
      simp only [spec_l10Hashes.l1] at H
      replace H := Option.bind_eq_some_iff.mp H
      obtain ⟨t144, A120, H⟩ := H
      replace H : (if 0 ≤ (IntKind.u64.wrap (t144)) then (if (x3_2.length : Int) < (shl .i64 1 (IntKind.u64.wrap (t144))) then (if x3_2.length < 8796093022208 then (spec_l10Hashes.l1 k2 l0 (x3_2 ++ [t143]) t143) else (none)) else (some x3_2)) else (none)) = some r := H
      have A12 := Aside0.mk A120
      clear A120
      obtain ⟨ji13, hji13⟩ : ∃ j_ : Int, (IntKind.u64.wrap (t144)) = j_ := ⟨_, rfl⟩
      replace H : (if 0 ≤ (ji13) then (if (x3_2.length : Int) < (shl .i64 1 (ji13)) then (if x3_2.length < 8796093022208 then (spec_l10Hashes.l1 k2 l0 (x3_2 ++ [t143]) t143) else (none)) else (some x3_2)) else (none)) = some r := by first | (rw [hji13] at H; exact H) | (simp only [hji13] at H ⊢; exact H)
      (try rw [hji13] at A12)
      by_cases c14 : 0 ≤ (ji13)
      ·rw [if_pos c14] at H
       have c14b0 := eq_true c14
       have c14b1 : decide (0 ≤ (ji13)) = true := decide_eq_true c14
       clear c14
       obtain ⟨ji15, hji15⟩ : ∃ j_ : Int, (shl .i64 1 (ji13)) = j_ := ⟨_, rfl⟩
       replace H : (if (x3_2.length : Int) < (ji15) then (if x3_2.length < 8796093022208 then (spec_l10Hashes.l1 k2 l0 (x3_2 ++ [t143]) t143) else (none)) else (some x3_2)) = some r := by first | (rw [hji15] at H; exact H) | (simp only [hji15] at H ⊢; exact H)
       (try rw [hji15] at A12)
       have hji15_ : (IntKind.i64.wrap (1 * 2 ^ min (ji13).toNat 64)) = ji15 := hji15
       have hji15z : (ji13) ≤ 64 → (IntKind.i64.wrap (1 * 2 ^ (ji13).toNat)) = ji15 := shl_small hji15
       have hji15u : (IntKind.i64.wrap (2 ^ min (ji13).toNat 64)) = ji15 := by have h_ := hji15_; rw [Int.one_mul] at h_; exact h_
       have hji15v : (ji13) ≤ 64 → (IntKind.i64.wrap (2 ^ (ji13).toNat)) = ji15 := fun hle_ => by have h_ := hji15z hle_; rw [Int.one_mul] at h_; exact h_
       have hji15y : (wrap64 (1 * 2 ^ min (ji13).toNat 64)) = ji15 := (i64_w _).symm.trans hji15_
       have hji15x : (ji13) ≤ 64 → (wrap64 (1 * 2 ^ (ji13).toNat)) = ji15 := fun h_ => (i64_w _).symm.trans (hji15z h_)
       by_cases c16 : (x3_2.length : Int) < (ji15)
       ·rw [if_pos c16] at H
        have c16b0 : decide ((x3_2.length : Int) < (ji15)) = true := decide_eq_true c16
        clear c16
        by_cases c17 : x3_2.length < 8796093022208
        ·rw [if_pos c17] at H
         have LMc17 := Aside0.mk c17
         clear c17
         obtain ⟨y145, hy145⟩ : ∃ y_ : List ByteArray, y_ = (x3_2 ++ [t143]) := ⟨_, rfl⟩
         replace H : (spec_l10Hashes.l1 k2 l0 y145 t143) = some r := by first | (rw [hy145]; with_reducible exact H) | (have H2_ := (Option.bind_some _ _).symm.trans H; rw [hy145]; with_reducible exact H2_) | (have H2_ := (Option.bind_some _ _).symm.trans H; with_reducible exact H2_) | with_reducible exact H | (rw [hy145]; exact H) | exact H
         have Ny145 := Aside0.mk hy145
         clear hy145
         have H' := Aside0.mk H
         clear H
         obtain ⟨Ao18, co18, eo18⟩ := Kd.R_slice HO_3.out
         subst eo18
         go_wp2_with (first | ((with_reducible refine gate_callee (f := 39) rfl ?_); refine goesL_ (some 26) rfl rfl Tryd.func39 (by kernel_rfl) rfl #[.int .i64 (l0.length : Int)] rfl (by (try simp only [List.map_toArray, List.map_cons, List.map_nil]); first | done | rfl | (simp only [List.length_drop, List.length_take]; rfl)) ?_; (with_reducible refine (spec_LevelsOf.calls k2 (l0.length : Int) t144 _ A12.out).mono ?_); rintro e w' ⟨rfl, ⟨nd, rfl⟩⟩; refine ⟨_, rfl, ?_⟩) | ((with_reducible refine gate_builtin (b := .append) (xs := #[.tmp 30, .tmp 32]) rfl ?_); at_builtin; refine Kd.R_append Kd.string (w0 := w) w.heap.size rfl (.tmp 30) (.tmp 32) 22 9 (.string ⟨#[]⟩) 16 rfl Tryd.underlying22 info9 rfl (by decide) (by omega) (.slice Ao18 x3_2.length co18) x3_2 t143 [.string t143] (fun _ => True) (fun _ => False) rfl rfl ?aP (fun _ hk => hk.elim) ?aF ?aO ?aB ?aS ?aL ?_; (case aP => exact rfl); (case aB => exact (bZ HB)); (case aF => exact (fun _ _ => trivial)); (case aO => exact (by (with_reducible repeat (first | apply Kd.R_alloc | apply Kd.R_drewN | apply Kd.R_drew)); exact HO_3.out)); (case aS => exact (below_size (bZ HB))); (case aL => have := LMc17.out; omega); intro v146 w19 ho hb hg hat; rw [← Ny145.out] at ho; replace HB := Aside0.mk (hb); have HO147 := Aside0.mk (ho); clear HO_3; clear ho hb hg hat))
         go_roundg k2
         case measure => have := HK1.out; have := HK2.out; omega
         case rel => exact ⟨(y145), H', ⟨by have := HK1.out; have := HK2.out; omega⟩, ⟨by (with_reducible repeat (first | apply Kd.R_alloc | apply Kd.R_drewN | apply Kd.R_drew)); exact HO147.out⟩, ⟨bZ HB⟩⟩
        ·rw [if_neg c17] at H
         exact absurd H (by simp)
       ·rw [if_neg c16] at H
        have c16b0 : decide ((x3_2.length : Int) < (ji15)) = false := decide_eq_false c16
        clear c16
        obtain rfl := Option.some.inj H
        obtain ⟨Ao20, co20, eo20⟩ := Kd.R_slice HO_3.out
        subst eo20
        go_wp2_with (first | ((with_reducible refine gate_callee (f := 39) rfl ?_); refine goesL_ (some 26) rfl rfl Tryd.func39 (by kernel_rfl) rfl #[.int .i64 (l0.length : Int)] rfl (by (try simp only [List.map_toArray, List.map_cons, List.map_nil]); first | done | rfl | (simp only [List.length_drop, List.length_take]; rfl)) ?_; (with_reducible refine (spec_LevelsOf.calls k2 (l0.length : Int) t144 _ A12.out).mono ?_); rintro e w' ⟨rfl, ⟨nd, rfl⟩⟩; refine ⟨_, rfl, ?_⟩))
        go_ret
        exact ⟨_, by first | rfl | (simp [errW_none, errW_some] <;> rfl) | (simp only [← hji13, ← hji15]; first | rfl | (simp [errW_none, errW_some] <;> rfl)) | (simp [*, errW_none, errW_some] <;> rfl), by (with_reducible repeat (first | apply Kd.R_alloc | apply Kd.R_drewN | apply Kd.R_drew)); exact HO_3.out, bZ HB⟩
      ·rw [if_neg c14] at H
       exact absurd H (by simp)

end Go.Proofs.YtmiiknkfhiecgaaDoor.Pf
end
section
namespace Go.Proofs.YtmiiknkfhiecgaaDoor.Pf
open Go.RowKit Go.Proofs.YtmiiknkfhiecgaaDoorW.PrintWords Go.Proofs.YtmiiknkfhiecgaaDoorW.PrintLast Go.Proofs.YtmiiknkfhiecgaaDoorW.PrintMore
attribute [local go_sem] max2_int min2_int max_two min_two max_three min_three max_four min_four   -- for this text's walks alone
set_option linter.unusedVariables false
set_option linter.unusedSimpArgs false
/-! ### spec_l10Up: function 54 -/
def spec_l10Up.l0 : Nat → List ByteArray → List ByteArray → Int → Option (List ByteArray)
 | 0, _, _, _ => none
 | k + 1, x0, x3, x4 => if (wrap64 (x4 + 1)) < (x0.length : Int) then (if 0 ≤ x4 then (if x4 < (x0.length : Int) then (if 0 ≤ (wrap64 (x4 + 1)) then ((spec_DigestPair.f (rdOf ByteArray.empty x0 x4) (rdOf ByteArray.empty x0 (wrap64 (x4 + 1)))).bind fun t153 => (if x3.length < 8796093022208 then (spec_l10Up.l0 k x0 (x3 ++ [t153]) (wrap64 (x4 + 2))) else (none))) else (none)) else (none)) else (none)) else (some x3)
def spec_l10Up.f (k : Nat) (l0 : List ByteArray) : Option (List ByteArray) := spec_l10Up.l0 k l0 (([] : List ByteArray)) 0
theorem spec_l10Up.mono_l : ∀ k, (∀ y0 y1 y2, LeO (spec_l10Up.l0 k y0 y1 y2) (spec_l10Up.l0 (k + 1) y0 y1 y2))
 | 0 => fun _ _ _ r h => by simp [spec_l10Up.l0] at h
 | k + 1 => by
  have ih0 := spec_l10Up.mono_l k
  ·intro y0 y1 y2
   unfold spec_l10Up.l0
   repeat' first
   | (with_reducible exact ih0 _ _ _)
   | (with_reducible exact LeO.refl _)
   | (with_reducible exact LeO.none _)
   | (with_reducible refine LeO.ite ?_ ?_)
   | (with_reducible refine LeO.bind ?_ (fun _ => ?_))
   | exact ih0 _ _ _
   | exact LeO.none _
   | refine LeO.ite ?_ ?_
   | refine LeO.bind ?_ (fun _ => ?_)
theorem spec_l10Up.mono : ∀ a0 k, LeO (spec_l10Up.f k a0) (spec_l10Up.f (k + 1) a0) := by
 intro a0 k
 have ih0 := spec_l10Up.mono_l k
 unfold spec_l10Up.f
 repeat' first
   | (with_reducible exact ih0 _ _ _)
   | (with_reducible exact LeO.refl _)
   | (with_reducible exact LeO.none _)
   | (with_reducible refine LeO.ite ?_ ?_)
   | (with_reducible refine LeO.bind ?_ (fun _ => ?_))
   | exact ih0 _ _ _
   | exact LeO.none _
   | refine LeO.ite ?_ ?_
   | refine LeO.bind ?_ (fun _ => ?_)
def spec_l10Up.T5 : Bool × List (List Nat × List Nat) := (true, [([], []), ([], []), ([], []), ([1, 2], [1, 2]), ([3], [3]), ([], []), ([], []), ([6], [6]), ([5, 7], [5, 7]), ([8], [8]), ([4, 9], [4, 9]), ([10], [10]), ([0, 11, 10], [0, 11]), ([12, 12, 0, 1, 2, 3, 4, 5, 6, 7, 8, 9, 10, 11, 12], [0, 12])])
def spec_l10Up.B5 : List Nat := [0, 0, 0, 6, 14, 0, 0, 64, 224, 480, 1022, 2046, 4095, 8191]
theorem spec_l10Up.tab5 : rtab .any (opsOf Tryd.f54 5) = spec_l10Up.T5 := by kernel_rfl
theorem spec_l10Up.bits5 : waitsOk spec_l10Up.T5.2 spec_l10Up.B5 = true := by kernel_rfl
set_option maxHeartbeats 8000000 in
set_option maxRecDepth 100000 in
theorem spec_l10Up.calls (k : Nat) (A0 : Option Addr) (c0 : Nat) (l0 : List ByteArray) (r : List ByteArray) (w : World) (hr0 : Kd.C Kd.string w A0 l0.length l0) (hc0 : l0.length ≤ c0) (h : spec_l10Up.f k l0 = some r) :
  Calls Tryd.prog 54 #[.slice A0 l0.length c0] w fun e w' => ∃ v0_ : Value, e = .returned (v0_) ∧ Kd.R Kd.string 9 w' w.heap.size (fun _ => True) v0_ r ∧ Below w.heap.size w w' := by
 have HR0 := Aside0.mk hr0
 have HC0 := Aside0.mk hc0
 clear hr0 hc0
 have HB := Aside0.mk (Below.refl w.heap.size w)
 have H : (spec_l10Up.l0 k l0 (([] : List ByteArray)) 0) = some r := h
 clear h
 obtain ⟨y148, hy148⟩ : ∃ y_ : List ByteArray, y_ = (([] : List ByteArray)) := ⟨_, rfl⟩
 replace H : (spec_l10Up.l0 k l0 y148 0) = some r := by first | (rw [hy148]; with_reducible exact H) | (have H2_ := (Option.bind_some _ _).symm.trans H; rw [hy148]; with_reducible exact H2_) | (have H2_ := (Option.bind_some _ _).symm.trans H; with_reducible exact H2_) | with_reducible exact H | (rw [hy148]; exact H) | exact H
 have Ny148 := Aside0.mk hy148
 clear hy148
 have H' := Aside0.mk H
 clear H
 go_enter Tryd.func54, Tryd.ntmps54
 go_wp2_with (first | ((with_reducible refine gate_dst (N := 5) rfl ?_); refine Kd.R_lit Kd.string _ 9 ?hg (N := 5) ?hd (xs := ([] : List ByteArray)) (inner := []) (ok := fun _ => True) (okp := fun _ => True) ?hr ?hp (fun _ hk => hk) trivial (Below.refl _ _) (Nat.le_refl _) (by simp) ?_; (case hd => rfl); (case hg => rfl); (case hr => first | (go_simp; done) | (go_simp; rfl)); (case hp => exact (Reps.none _ _)); intro v149 w2 ho3 hb hg_ hnew_; clear hg_ hnew_; (first | rw [← Ny148.out] at ho3 | (simp only [Int.reduceToNat] at ho3; rw [← Ny148.out] at ho3)); have HO150 := Aside0.mk (Kd.R_lower ho3 (below_size (bZ HB))); replace HB := bS HB hb; clear hb ho3))
 go_loopg [3, 4] k (fun kq v3 v4 w' => ∃ (x3_1 : List ByteArray) (x4_1 : Int), v4 = .int .i64 x4_1 ∧ Aside0 (spec_l10Up.l0 kq l0 x3_1 x4_1 = some r) ∧ Aside0 (kq ≤ k) ∧ Aside0 (Kd.R Kd.string 9 w' w.heap.size (fun _ => True) v3 x3_1) ∧ Aside0 (Below w.heap.size w w'))
 case atStart => exact ⟨(y148), (0), (by first | rfl | (simp; done) | (simp [*]; done)), H', ⟨Nat.le_refl _⟩, ⟨by (with_reducible repeat (first | apply Kd.R_alloc | apply Kd.R_drewN | apply Kd.R_drew)); exact HO150.out⟩, ⟨bZ HB⟩⟩
 case round =>
  clear H'
  try clear p2
  obtain ⟨x3_1, x4_1, rfl, HA, HK1, HO_3, HB⟩ := hrel
  cases gk with
  | zero => exact absurd HA.out (by simp [spec_l10Up.l0])
  | succ k1 =>
   have H := HA.out
   clear HA
   simp only [spec_l10Up.l0] at H
   by_cases c4 : (wrap64 (x4_1 + 1)) < (l0.length : Int)
   ·rw [if_pos c4] at H
    have c4b0 : decide ((wrap64 (x4_1 + 1)) < (l0.length : Int)) = true := decide_eq_true c4
    clear c4
    by_cases c5 : 0 ≤ x4_1
    ·rw [if_pos c5] at H
     have c5b0 : decide (0 ≤ x4_1) = true := decide_eq_true c5
     clear c5
     by_cases c6 : x4_1 < (l0.length : Int)
     ·rw [if_pos c6] at H
      have c6b0 : decide (x4_1 < (l0.length : Int)) = true := decide_eq_true c6
      clear c6
      obtain ⟨ji7, hji7⟩ : ∃ j_ : Int, (wrap64 (x4_1 + 1)) = j_ := ⟨_, rfl⟩
      replace H : (if 0 ≤ (ji7) then ((spec_DigestPair.f (rdOf ByteArray.empty l0 x4_1) (rdOf ByteArray.empty l0 (ji7))).bind fun t153 => (if x3_1.length < 8796093022208 then (spec_l10Up.l0 k1 l0 (x3_1 ++ [t153]) (wrap64 (x4_1 + 2))) else (none))) else (none)) = some r := by first | (rw [hji7] at H; exact H) | (simp only [hji7] at H ⊢; exact H)
      (try rw [hji7] at c4b0)
      have hji7w : (IntKind.i64.wrap (x4_1 + 1)) = ji7 := (i64_w _).trans hji7
      by_cases c8 : 0 ≤ (ji7)
      ·rw [if_pos c8] at H
       have c8b0 : decide (0 ≤ (ji7)) = true := decide_eq_true c8
       clear c8
       replace H := Option.bind_eq_some_iff.mp H
       obtain ⟨t153, A90, H⟩ := H
       replace H : (if x3_1.length < 8796093022208 then (spec_l10Up.l0 k1 l0 (x3_1 ++ [t153]) (wrap64 (x4_1 + 2))) else (none)) = some r := H
       have A9 := Aside0.mk A90
       clear A90
       by_cases c10 : x3_1.length < 8796093022208
       ·rw [if_pos c10] at H
        have LMc10 := Aside0.mk c10
        clear c10
        obtain ⟨y154, hy154⟩ : ∃ y_ : List ByteArray, y_ = (x3_1 ++ [t153]) := ⟨_, rfl⟩
        replace H : (spec_l10Up.l0 k1 l0 y154 (wrap64 (x4_1 + 2))) = some r := by first | (rw [hy154]; with_reducible exact H) | (have H2_ := (Option.bind_some _ _).symm.trans H; rw [hy154]; with_reducible exact H2_) | (have H2_ := (Option.bind_some _ _).symm.trans H; with_reducible exact H2_) | with_reducible exact H | (rw [hy154]; exact H) | exact H
        have Ny154 := Aside0.mk hy154
        clear hy154
        have H' := Aside0.mk H
        clear H
        try go_wp2
        replace HO_3 := Aside0.mk (Kd.R_drew HO_3.out)
        replace HB := Aside0.mk (below_drew1 HB.out)
        have p151 : 0 ≤ (x4_1 : Int) := of_decide_eq_true (by first | (with_reducible assumption) | assumption)
        have q151 : x4_1 < (l0.length : Int) := of_decide_eq_true (by first | (with_reducible assumption) | assumption)
        obtain ⟨ad151, e151, hx151_0⟩ := Kd.at_string HR0.out x4_1 p151 q151
        have hw151_0 := hx151_0
        cases e151
        replace hx151_0 := (HB.out.cell (World.block_lt_of_cell? w _ hx151_0)).trans hx151_0
        replace p151 := eq_true p151
        replace q151 := eq_true q151
        have p152 : 0 ≤ ((ji7) : Int) := of_decide_eq_true (by first | (with_reducible assumption) | assumption)
        have q152 : (ji7) < (l0.length : Int) := of_decide_eq_true (by first | (with_reducible assumption) | assumption)
        obtain ⟨ad152, e152, hx152_0⟩ := Kd.at_string HR0.out (ji7) p152 q152
        have hw152_0 := hx152_0
        obtain rfl : ad151 = ad152 := (by injection e152)
        replace hx152_0 := (HB.out.cell (World.block_lt_of_cell? w _ hx152_0)).trans hx152_0
        replace p152 := eq_true p152
        replace q152 := eq_true q152
        refine start_ (n := 14) (S := fun w' => w'.cell? (ad151.add (x4_1).toNat) = some (.string (rdOf ByteArray.empty l0 x4_1)) ∧ w'.cell? (ad151.add ((ji7)).toNat) = some (.string (rdOf ByteArray.empty l0 (ji7)))) (ds := []) #[false, false, false, false, false, false, false, false, false, false, false, false, false, false] (by kernel_rfl) rfl rfl ⟨((HB.out.cell (World.block_lt_of_cell? w _ hw151_0)).trans hw151_0), ((HB.out.cell (World.block_lt_of_cell? w _ hw152_0)).trans hw152_0)⟩ (fun hHeld => ?_); refine with_tabW spec_l10Up.tab5 spec_l10Up.bits5 (fun HT_ HW_ => ?_)
        generalize wr.drew = w11 at HO_3 HB hx151_0 hx152_0 hHeld ⊢
        refine pure_ (i := 0) (N := some 13) (v := ?_) (a' := ?_) #[true, false, false, false, false, false, false, false, false, false, false, false, false, false] rfl rfl (any_of HT_.out (by kernel_rfl)) (fun _ _ _ h => h) (Or.inl ⟨by rfl, ?_⟩) ?_ ?_
        rotate_left
        ·intro w'
         go_simp
         with_reducible rfl
        rotate_left
        ·simp only [Act.put, List.setIfInBounds_toArray, List.set_cons_zero, List.set_cons_succ, i64_w, i32_w]
         rfl
        refine pure_ (i := 1) (N := some 14) (v := ?_) (a' := ?_) #[true, true, false, false, false, false, false, false, false, false, false, false, false, false] rfl rfl (any_of HT_.out (by kernel_rfl)) (fun _ _ _ h => h) (Or.inl ⟨by rfl, ?_⟩) ?_ ?_
        rotate_left
        ·intro w'
         go_simp
         with_reducible rfl
        rotate_left
        ·simp only [Act.put, List.setIfInBounds_toArray, List.set_cons_zero, List.set_cons_succ, i64_w, i32_w]
         rfl
        refine pure_ (i := 2) (N := some 15) (v := ?_) (a' := ?_) #[true, true, true, false, false, false, false, false, false, false, false, false, false, false] rfl rfl (any_of HT_.out (by kernel_rfl)) (fun _ _ _ h => h) (Or.inl ⟨by rfl, ?_⟩) ?_ ?_
        rotate_left
        ·intro w'
         go_simp
         with_reducible rfl
        rotate_left
        ·simp only [Act.put, List.setIfInBounds_toArray, List.set_cons_zero, List.set_cons_succ, i64_w, i32_w]
         rfl
        refine pure_ (i := 3) (N := some 16) (v := ?_) (a' := ?_) #[true, true, true, true, false, false, false, false, false, false, false, false, false, false] rfl rfl (any_of HT_.out (by kernel_rfl)) (fun _ _ _ h => h) (Or.inl ⟨by rfl, ?_⟩) ?_ ?_
        rotate_left
        ·intro w'
         go_simp
         with_reducible rfl
        rotate_left
        ·simp only [Act.put, List.setIfInBounds_toArray, List.set_cons_zero, List.set_cons_succ, i64_w, i32_w]
         rfl
        refine pure_ (i := 5) (N := some 18) (v := ?_) (a' := ?_) #[true, true, true, true, false, true, false, false, false, false, false, false, false, false] rfl rfl (any_of HT_.out (by kernel_rfl)) (fun _ _ _ h => h) (Or.inl ⟨by rfl, ?_⟩) ?_ ?_
        rotate_left
        ·intro w'
         go_simp
         with_reducible rfl
        rotate_left
        ·simp only [Act.put, List.setIfInBounds_toArray, List.set_cons_zero, List.set_cons_succ, i64_w, i32_w]
         rfl
        refine pure_ (i := 6) (N := some 19) (v := ?_) (a' := ?_) #[true, true, true, true, false, true, true, false, false, false, false, false, false, false] rfl rfl (any_of HT_.out (by kernel_rfl)) (fun _ _ _ h => h) (Or.inl ⟨by rfl, ?_⟩) ?_ ?_
        rotate_left
        ·intro w'
         go_simp
         with_reducible rfl
        rotate_left
        ·simp only [Act.put, List.setIfInBounds_toArray, List.set_cons_zero, List.set_cons_succ, i64_w, i32_w]
         rfl
        refine pure_ (i := 7) (N := some 20) (v := ?_) (a' := ?_) #[true, true, true, true, false, true, true, true, false, false, false, false, false, false] rfl rfl (any_of HT_.out (by kernel_rfl)) (fun _ _ _ h => h) (Or.inl ⟨by rfl, ?_⟩) ?_ ?_
        rotate_left
        ·intro w'
         go_simp
         with_reducible rfl
        rotate_left
        ·simp only [Act.put, List.setIfInBounds_toArray, List.set_cons_zero, List.set_cons_succ, i64_w, i32_w]
         rfl
        refine pure_ (i := 8) (N := some 21) (v := ?_) (a' := ?_) #[true, true, true, true, false, true, true, true, true, false, false, false, false, false] rfl rfl (any_of HT_.out (by kernel_rfl)) (fun _ _ _ h => h) (Or.inl ⟨by rfl, ?_⟩) ?_ ?_
        rotate_left
        ·intro w'
         go_simp
         with_reducible rfl
        rotate_left
        ·simp only [Act.put, List.setIfInBounds_toArray, List.set_cons_zero, List.set_cons_succ, i64_w, i32_w]
         rfl
        refine take_ (i := 4) (N := some 17) (v := ?_) (a' := ?_) #[true, true, true, true, true, true, true, true, true, false, false, false, false, false] rfl rfl (take_ofW HT_.out HW_.out (by kernel_rfl)) (fun _ _ _ h => h) (Or.inl ⟨by rfl, ?_⟩) hHeld ?_ ?_
        rotate_left
        ·rintro w' ⟨s0, s1⟩
         go_simp
         with_reducible rfl
        rotate_left
        ·simp only [Act.put, List.setIfInBounds_toArray, List.set_cons_zero, List.set_cons_succ, i64_w, i32_w]
         rfl
        refine take_ (i := 9) (N := some 22) (v := ?_) (a' := ?_) #[true, true, true, true, true, true, true, true, true, true, false, false, false, false] rfl rfl (take_ofW HT_.out HW_.out (by kernel_rfl)) (fun _ _ _ h => h) (Or.inl ⟨by rfl, ?_⟩) hHeld ?_ ?_
        rotate_left
        ·rintro w' ⟨s0, s1⟩
         go_simp
         with_reducible rfl
        rotate_left
        ·simp only [Act.put, List.setIfInBounds_toArray, List.set_cons_zero, List.set_cons_succ, i64_w, i32_w]
         rfl
        refine one_ (i := 10) (N := some 23) #[true, true, true, true, true, true, true, true, true, true, true, false, false, false] rfl rfl (one_of HT_.out (by kernel_rfl)) (by decide) (fun K hK => ?_)
        refine goes_ Tryd.func50 (by kernel_rfl) rfl #[.string (rdOf ByteArray.empty l0 x4_1), .string (rdOf ByteArray.empty l0 (ji7))] (by rfl) rfl rfl (by (try simp only [List.map_toArray, List.map_cons, List.map_nil]); first | done | (simp only [hji7]; rfl) | rfl | (simp only [List.length_drop, List.length_take]; rfl)) ?_
        with_reducible refine (spec_DigestPair.calls (rdOf ByteArray.empty l0 x4_1) (rdOf ByteArray.empty l0 (ji7)) t153 _ A9.out).mono ?_
        rintro e w12 ⟨rfl, hb⟩
        refine ⟨_, rfl, ?_⟩
        replace HO_3 := Aside0.mk (Kd.R_below (by (with_reducible repeat (first | apply Kd.R_alloc | apply Kd.R_drewN | apply Kd.R_drew)); exact HO_3.out) hb)
        replace HB := bS HB hb
        (try clear hb)
        (try clear hb2)
        (try clear hk)
        (try clear hi)
        refine hK.out _ _ ⟨((HB.out.cell (World.block_lt_of_cell? w _ hw151_0)).trans hw151_0), ((HB.out.cell (World.block_lt_of_cell? w _ hw152_0)).trans hw152_0)⟩ (fun hHeld => ?_)
        clear hK K
        refine norm_ (a' := ?_) ?_ ?_
        rotate_left
        ·show Act.put _ (some 23) _ = _
         simp only [Act.put, List.setIfInBounds_toArray, List.set_cons_zero, List.set_cons_succ, i64_w, i32_w]
         rfl
        refine one_ (i := 11) (N := some 24) #[true, true, true, true, true, true, true, true, true, true, true, true, false, false] rfl rfl (one_of HT_.out (by kernel_rfl)) (by decide) (fun K hK => ?_)
        refine value_ (w1 := ?_) (v := ?_) (by rfl) rfl ?_ ?_
        rotate_left 2
        ·go_simp
         constructor
         ·rfl
         ·rfl
        refine hK.out _ _ ⟨(World.cell?_alloc_lt _ _ _ (World.block_lt_of_cell? _ _ (((HB.out.cell (World.block_lt_of_cell? w _ hw151_0)).trans hw151_0)))).trans (((HB.out.cell (World.block_lt_of_cell? w _ hw151_0)).trans hw151_0)), (World.cell?_alloc_lt _ _ _ (World.block_lt_of_cell? _ _ (((HB.out.cell (World.block_lt_of_cell? w _ hw152_0)).trans hw152_0)))).trans (((HB.out.cell (World.block_lt_of_cell? w _ hw152_0)).trans hw152_0))⟩ (fun hHeld => ?_)
        clear hK K
        refine norm_ (a' := ?_) ?_ ?_
        rotate_left
        ·show Act.put _ (some 24) _ = _
         simp only [Act.put, List.setIfInBounds_toArray, List.set_cons_zero, List.set_cons_succ, i64_w, i32_w]
         rfl
        refine one_ (i := 12) (N := some 25) #[true, true, true, true, true, true, true, true, true, true, true, true, true, false] rfl rfl (one_of HT_.out (by kernel_rfl)) (by decide) (fun K hK => ?_)
        refine Kd.R_append_step Kd.string (w0 := w) w.heap.size (by rfl) (.tmp 13) (.tmp 24) 22 9 (.string ⟨#[]⟩) 16 rfl Tryd.underlying22 info9 rfl (by decide) (by omega) u3 x3_1 t153 [.string t153] (fun _ => True) (fun _ => False) rfl rfl ?aP (fun _ hk => hk.elim) ?aF ?aO ?aB ?aS ?aL ?_
        (case aP => exact rfl)
        (case aB => exact (bZ HB))
        (case aF => exact (fun _ _ => trivial))
        (case aO => exact (by (with_reducible repeat (first | apply Kd.R_alloc | apply Kd.R_drewN | apply Kd.R_drew)); exact HO_3.out))
        (case aS => exact (below_size (bZ HB)))
        (case aL => have := LMc10.out; omega)
        intro v155 w13 ho hb hg hat
        rw [← Ny154.out] at ho
        replace HB := Aside0.mk (hb)
        have HO156 := Aside0.mk (ho)
        clear HO_3
        clear ho hb hg hat
        refine hK.out _ _ ⟨((HB.out.cell (World.block_lt_of_cell? w _ hw151_0)).trans hw151_0), ((HB.out.cell (World.block_lt_of_cell? w _ hw152_0)).trans hw152_0)⟩ (fun hHeld => ?_)
        clear hK K
        refine norm_ (a' := ?_) ?_ ?_
        rotate_left
        ·show Act.put _ (some 25) _ = _
         simp only [Act.put, List.setIfInBounds_toArray, List.set_cons_zero, List.set_cons_succ, i64_w, i32_w]
         rfl
        refine pure_ (i := 13) (N := some 3) (v := ?_) (a' := ?_) #[true, true, true, true, true, true, true, true, true, true, true, true, true, true] rfl rfl (any_of HT_.out (by kernel_rfl)) (fun _ _ _ h => h) (Or.inl ⟨by rfl, ?_⟩) ?_ ?_
        rotate_left
        ·intro w'
         go_simp
         with_reducible rfl
        rotate_left
        ·simp only [Act.put, List.setIfInBounds_toArray, List.set_cons_zero, List.set_cons_succ, i64_w, i32_w]
         rfl
        refine done_ (done_of HT_.out (by kernel_rfl)) ?_
        try go_wp2
        go_roundg k1
        case measure => have := HK1.out; omega
        case rel => exact ⟨(y154), (wrap64 (x4_1 + 2)), (by first | rfl | (simp; done) | (simp [*]; done)), H', ⟨by have := HK1.out; omega⟩, ⟨by (with_reducible repeat (first | apply Kd.R_alloc | apply Kd.R_drewN | apply Kd.R_drew)); exact HO156.out⟩, ⟨bZ HB⟩⟩
       ·rw [if_neg c10] at H
        exact absurd H (by simp)
      ·rw [if_neg c8] at H
       exact absurd H (by simp)
     ·rw [if_neg c6] at H
      exact absurd H (by simp)
    ·rw [if_neg c5] at H
     exact absurd H (by simp)
   ·rw [if_neg c4] at H
    have c4b0 : decide ((wrap64 (x4_1 + 1)) < (l0.length : Int)) = false := decide_eq_false c4
    clear c4
    obtain rfl := Option.some.inj H
    go_wp2
    go_ret
    exact ⟨_, by first | rfl | (simp [errW_none, errW_some] <;> rfl) | (simp [*, errW_none, errW_some] <;> rfl), by (with_reducible repeat (first | apply Kd.R_alloc | apply Kd.R_drewN | apply Kd.R_drew)); exact HO_3.out, bZ HB⟩
end Go.Proofs.YtmiiknkfhiecgaaDoor.Pf
end
section
namespace Go.Proofs.YtmiiknkfhiecgaaDoor.Pf
open Go.RowKit Go.Proofs.YtmiiknkfhiecgaaDoorW.PrintWords Go.Proofs.YtmiiknkfhiecgaaDoorW.PrintLast Go.Proofs.YtmiiknkfhiecgaaDoorW.PrintMore
attribute [local go_sem] max2_int min2_int max_two min_two max_three min_three max_four min_four   -- for this text's walks alone
set_option linter.unusedVariables false
set_option linter.unusedSimpArgs false

/-! ### spec_BranchOf: function 22 -/
mutual
def spec_BranchOf.j0 : Nat → List ByteArray → Int → List ByteArray → Bool → Option (List ByteArray)
 | 0, _, _, _, _ => none
 | k + 1, x0, x1, x5, x18 => if x18 = true then (some x5) else ((spec_l10Hashes.f k x0).bind fun t238 => (spec_BranchOf.l0 k x1 x5 t238))
def spec_BranchOf.l0 : Nat → Int → List ByteArray → List ByteArray → Option (List ByteArray)
 | 0, _, _, _ => none
 | k + 1, x1, x5, x6 => if (x6.length : Int) > 1 then (if 0 ≤ (Go.bits .xor .i64 x1 1) then (if (Go.bits .xor .i64 x1 1) < (x6.length : Int) then (if x5.length < 8796093022208 then ((spec_l10Up.f k x6).bind fun t245 => (spec_BranchOf.l0 k (wrap64 (Int.tdiv x1 2)) (x5 ++ [rdOf ByteArray.empty x6 (Go.bits .xor .i64 x1 1)]) t245)) else (none)) else (none)) else (none)) else (some x5)
end
def spec_BranchOf.f (k : Nat) (l0 : List ByteArray) (a1 : Int) : Option (List ByteArray) := (some (([] : List ByteArray) : List ByteArray)).bind fun y234 => (if (l0.length : Int) > 32 then (spec_BranchOf.j0 k l0 a1 y234 true) else ((spec_l01In.f a1 0 (wrap64 ((l0.length : Int) - 1))).bind fun t237 => (spec_BranchOf.j0 k l0 a1 y234 (!t237))))
theorem spec_BranchOf.mono_l : ∀ k, (∀ y0 y1 y2 y3, LeO (spec_BranchOf.j0 k y0 y1 y2 y3) (spec_BranchOf.j0 (k + 1) y0 y1 y2 y3)) ∧ (∀ y0 y1 y2, LeO (spec_BranchOf.l0 k y0 y1 y2) (spec_BranchOf.l0 (k + 1) y0 y1 y2))
 | 0 => ⟨fun _ _ _ _ r h => by simp [spec_BranchOf.j0] at h, fun _ _ _ r h => by simp [spec_BranchOf.l0] at h⟩
 | k + 1 => by
  obtain ⟨ih0, ih1⟩ := spec_BranchOf.mono_l k
  refine ⟨?_, ?_⟩
  ·intro y0 y1 y2 y3
   unfold spec_BranchOf.j0
   repeat' first
   | (with_reducible exact ih0 _ _ _ _)
   | (with_reducible exact ih1 _ _ _)
   | (with_reducible exact spec_l10Hashes.mono _ _)
   | (with_reducible exact spec_l10Up.mono _ _)
   | (with_reducible exact LeO.refl _)
   | (with_reducible exact LeO.none _)
   | (with_reducible refine LeO.ite ?_ ?_)
   | (with_reducible refine LeO.bind ?_ (fun _ => ?_))
   | exact ih0 _ _ _ _
   | exact ih1 _ _ _
   | exact spec_l10Hashes.mono _ _
   | exact spec_l10Up.mono _ _
   | exact LeO.none _
   | refine LeO.ite ?_ ?_
   | refine LeO.bind ?_ (fun _ => ?_)
  ·intro y0 y1 y2
   unfold spec_BranchOf.l0
   repeat' first
   | (with_reducible exact ih0 _ _ _ _)
   | (with_reducible exact ih1 _ _ _)
   | (with_reducible exact spec_l10Hashes.mono _ _)
   | (with_reducible exact spec_l10Up.mono _ _)
   | (with_reducible exact LeO.refl _)
   | (with_reducible exact LeO.none _)
   | (with_reducible refine LeO.ite ?_ ?_)
   | (with_reducible refine LeO.bind ?_ (fun _ => ?_))
   | exact ih0 _ _ _ _
   | exact ih1 _ _ _
   | exact spec_l10Hashes.mono _ _
   | exact spec_l10Up.mono _ _
   | exact LeO.none _
   | refine LeO.ite ?_ ?_
   | refine LeO.bind ?_ (fun _ => ?_)
theorem spec_BranchOf.mono : ∀ a0 a1 k, LeO (spec_BranchOf.f k a0 a1) (spec_BranchOf.f (k + 1) a0 a1) := by
 intro a0 a1 k
 obtain ⟨ih0, ih1⟩ := spec_BranchOf.mono_l k
 unfold spec_BranchOf.f
 repeat' first
   | (with_reducible exact ih0 _ _ _ _)
   | (with_reducible exact ih1 _ _ _)
   | (with_reducible exact spec_l10Hashes.mono _ _)
   | (with_reducible exact spec_l10Up.mono _ _)
   | (with_reducible exact LeO.refl _)
   | (with_reducible exact LeO.none _)
   | (with_reducible refine LeO.ite ?_ ?_)
   | (with_reducible refine LeO.bind ?_ (fun _ => ?_))
   | exact ih0 _ _ _ _
   | exact ih1 _ _ _
   | exact spec_l10Hashes.mono _ _
   | exact spec_l10Up.mono _ _
   | exact LeO.none _
   | refine LeO.ite ?_ ?_
   | refine LeO.bind ?_ (fun _ => ?_)
set_option maxHeartbeats 8000000 in
set_option maxRecDepth 100000 in
theorem spec_BranchOf.calls (k : Nat) (A0 : Option Addr) (c0 : Nat) (l0 : List ByteArray) (a1 : Int) (r : List ByteArray) (w : World) (hr0 : Kd.C Kd.string w A0 l0.length l0) (hc0 : l0.length ≤ c0) (h : spec_BranchOf.f k l0 a1 = some r) :
  Calls Tryd.prog 22 #[.slice A0 l0.length c0, .int .i64 a1] w fun e w' => ∃ v0_ : Value, e = .returned (v0_) ∧ Kd.R Kd.string 9 w' w.heap.size (fun _ => True) v0_ r ∧ Below w.heap.size w w' := by
 have HR0 := Aside0.mk hr0
 have HC0 := Aside0.mk hc0
 clear hr0 hc0
 have HB := Aside0.mk (Below.refl w.heap.size w)
 have H : ((some (([] : List ByteArray) : List ByteArray)).bind fun y234 => (if (l0.length : Int) > 32 then (spec_BranchOf.j0 k l0 a1 y234 true) else ((spec_l01In.f a1 0 (wrap64 ((l0.length : Int) - 1))).bind fun t237 => (spec_BranchOf.j0 k l0 a1 y234 (!t237))))) = some r := h
 clear h
 obtain ⟨y234, hy234⟩ : ∃ y_ : List ByteArray, y_ = (([] : List ByteArray)) := ⟨_, rfl⟩
 replace H : (if (l0.length : Int) > 32 then (spec_BranchOf.j0 k l0 a1 y234 true) else ((spec_l01In.f a1 0 (wrap64 ((l0.length : Int) - 1))).bind fun t237 => (spec_BranchOf.j0 k l0 a1 y234 (!t237)))) = some r := by first | (rw [hy234]; with_reducible exact H) | (have H2_ := (Option.bind_some _ _).symm.trans H; rw [hy234]; with_reducible exact H2_) | (have H2_ := (Option.bind_some _ _).symm.trans H; with_reducible exact H2_) | with_reducible exact H | (rw [hy234]; exact H) | exact H
 have Ny234 := Aside0.mk hy234
 clear hy234
 have HC3 := Aside0.mk H
 clear H
 go_enter Tryd.func22, Tryd.ntmps22
 go_upto_region 2 with (first | ((with_reducible refine gate_dst (N := 7) rfl ?_); (try (refine gate_guard (by rfl) ?_; dsimp only)); refine Kd.R_lit Kd.string _ 9 ?hg (N := 7) ?hd (xs := ([] : List ByteArray)) (inner := []) (ok := fun _ => True) (okp := fun _ => True) ?hr ?hp (fun _ hk => hk) trivial (Below.refl _ _) (Nat.le_refl _) (by simp) ?_; (case hd => rfl); (case hg => rfl); (case hr => first | (go_simp; done) | (go_simp; rfl)); (case hp => exact (Reps.none _ _)); intro v235 w4 ho5 hb hg_ hnew_; clear hg_ hnew_; (first | rw [← Ny234.out] at ho5 | (simp only [Int.reduceToNat] at ho5; rw [← Ny234.out] at ho5)); have HO236 := Aside0.mk (Kd.R_lower ho5 (below_size (bZ HB))); replace HB := bS HB hb; clear hb ho5))
 (try simp only [Act.put, List.setIfInBounds_toArray, List.set_cons_zero, List.set_cons_succ])
 go_cut [18] (fun v18 wc => ∃ (kq : Nat) (x18_2 : Bool), v18 = .bool x18_2 ∧ Aside0 (spec_BranchOf.j0 kq l0 a1 y234 x18_2 = some r) ∧ Aside0 (kq ≤ k) ∧ Aside0 (Kd.R Kd.string 9 wc w.heap.size (fun _ => True) v235 y234) ∧ Aside0 (Below w.heap.size w wc))
 case first =>
  have H := HC3.out
  clear HC3
  by_cases c6 : (l0.length : Int) > 32
  ·rw [if_pos c6] at H
   have c6b0 : decide (32 < (l0.length : Int)) = true := decide_eq_true c6
   have c6b1 : decide (32 < l0.length) = true := decide_eq_true (by omega)
   clear c6
   (first | rw [c6b0] | (simp only [i64_w, i32_w]; rw [c6b0]) | rw [c6b1] | skip)
   have H' := Aside0.mk H
   clear H
   go_wp2
   go_meet
   case rel => exact ⟨_, (true), (by first | rfl | (simp; done) | (simp [*]; done)), H', ⟨by first | omega | exact Nat.le_refl _⟩, ⟨by (with_reducible repeat (first | apply Kd.R_alloc | apply Kd.R_drewN | apply Kd.R_drew)); exact HO236.out⟩, ⟨bZ HB⟩⟩
  ·rw [if_neg c6] at H
   have c6b0 : decide (32 < (l0.length : Int)) = false := decide_eq_false c6
   have c6b1 : decide (32 < l0.length) = false := decide_eq_false (by omega)
   clear c6
   (first | rw [c6b0] | (simp only [i64_w, i32_w]; rw [c6b0]) | rw [c6b1] | skip)
   replace H := Option.bind_eq_some_iff.mp H
   obtain ⟨t237, A70, H⟩ := H
   replace H : (spec_BranchOf.j0 k l0 a1 y234 (!t237)) = some r := H
   have A7 := Aside0.mk A70
   clear A70
   have H' := Aside0.mk H
   clear H
   go_wp2_with (first | (go_at_call 49; (with_reducible refine (spec_l01In.calls a1 0 (wrap64 ((l0.length : Int) - 1)) t237 _ A7.out).mono ?_); rintro e w' ⟨rfl, ⟨nd, rfl⟩⟩))
   go_meet
   case rel => exact ⟨_, (!t237), (by first | rfl | (simp; done) | (simp [*]; done)), H', ⟨by first | omega | exact Nat.le_refl _⟩, ⟨by (with_reducible repeat (first | apply Kd.R_alloc | apply Kd.R_drewN | apply Kd.R_drew)); exact HO236.out⟩, ⟨bZ HB⟩⟩
 case rest =>
  clear HC3
  try clear c2
  try clear p2
  try clear c6
  try clear c6b0
  try clear c6b1
  try clear p6
  obtain ⟨kq, x18_2, rfl, HA, HJ2, HO_5, HB⟩ := hcut
  cases kq with
  | zero => exact absurd HA.out (by simp [spec_BranchOf.j0])
  | succ kj2 =>
   have H := HA.out
   clear HA
   simp only [spec_BranchOf.j0] at H
   by_cases c8 : x18_2 = true
   ·subst c8
    have H1 : (some y234) = some r := by rw [if_pos rfl] at H; exact H
    clear H
    have H := H1
    clear H1
    obtain rfl := Option.some.inj H
    go_wp2
    go_ret
    exact ⟨_, by first | rfl | (simp [errW_none, errW_some] <;> rfl) | (simp [*, errW_none, errW_some] <;> rfl), by (with_reducible repeat (first | apply Kd.R_alloc | apply Kd.R_drewN | apply Kd.R_drew)); exact HO_5.out, bZ HB⟩
   ·replace c8 := Bool.eq_false_iff.mpr c8
    subst c8
    have H1 : ((spec_l10Hashes.f kj2 l0).bind fun t238 => (spec_BranchOf.l0 kj2 a1 y234 t238)) = some r := by rw [if_neg (show ¬ (false = true) by decide)] at H; exact H
    clear H
    have H := H1
    clear H1
    replace H := Option.bind_eq_some_iff.mp H
    obtain ⟨t238, A90, H⟩ := H
    replace H : (spec_BranchOf.l0 kj2 a1 y234 t238) = some r := H
    have A9 := Aside0.mk A90
    clear A90
    have H' := Aside0.mk H
    clear H
    go_wp2_with (first | ((with_reducible refine gate_callee (f := 53) rfl ?_); refine goesL_ (some 21) rfl rfl Tryd.func53 (by kernel_rfl) rfl #[.slice A0 l0.length c0] rfl (by (try simp only [List.map_toArray, List.map_cons, List.map_nil]); first | done | rfl | (simp only [List.length_drop, List.length_take]; rfl)) ?_; (with_reducible refine (spec_l10Hashes.calls kj2 _ _ l0 t238 _ ?side1 ?side2 A9.out).mono ?_); (case side1 => repeat (first | exact (Kd.C_below HR0.out HB.out) | (with_reducible refine Kd.C_alloc ?_ _) | (with_reducible refine Kd.C_drewN ?_ _) | (with_reducible refine Kd.C_drew ?_))); (case side2 => exact HC0.out); rintro e w10 ⟨v239, rfl, ho0, hb⟩; refine ⟨_, rfl, ?_⟩; have HO240 := Aside0.mk (Kd.R_lower (Kd.R_new' ho0 (Kd.R_lt (by (with_reducible repeat (first | apply Kd.R_alloc | apply Kd.R_drewN | apply Kd.R_drew)); exact HO_5.out))) (below_size (bZ HB))); replace HO_5 := Aside0.mk (Kd.R_elder' (by (with_reducible repeat (first | apply Kd.R_alloc | apply Kd.R_drewN | apply Kd.R_drew)); exact HO_5.out) (Kd.R_base ho0) hb); replace HB := bS HB hb; (try clear hb); (try clear hb2); (try clear hk); (try clear hi); (try clear ho0)))
    go_loopg [1, 5, 6] kj2 (fun kq v1 v5 v6 w' => ∃ (x1_2 : Int) (x5_2 : List ByteArray) (x6_2 : List ByteArray), v1 = .int .i64 x1_2 ∧ Aside0 (spec_BranchOf.l0 kq x1_2 x5_2 x6_2 = some r) ∧ Aside0 (kq ≤ kj2) ∧ Aside0 (Kd.R Kd.string 9 w' w.heap.size (fun k_ => some k_ ≠ (v6 : Value).ownBlock) v5 x5_2) ∧ Aside0 (Kd.R Kd.string 9 w' w.heap.size (fun k_ => some k_ ≠ (v5 : Value).ownBlock) v6 x6_2) ∧ Aside0 (Below w.heap.size w w'))
    case atStart => exact ⟨(a1), (y234), (t238), (by first | rfl | (simp; done) | (simp [*]; done)), H', ⟨Nat.le_refl _⟩, ⟨by (with_reducible repeat (first | apply Kd.R_alloc | apply Kd.R_drewN | apply Kd.R_drew)); exact Kd.R_mono HO_5.out (fun _ hk => hk.2)⟩, ⟨by (with_reducible repeat (first | apply Kd.R_alloc | apply Kd.R_drewN | apply Kd.R_drew)); exact Kd.R_mono HO240.out (fun _ hk => hk.2)⟩, ⟨bZ HB⟩⟩
    case round =>
     clear H'
     try clear c2
     try clear p2
     try clear c5
     try clear c6
     try clear c6b0
     try clear c6b1
     try clear p6
     try clear c8
     try clear p2
     try clear p6
     obtain ⟨x1_2, x5_2, x6_2, rfl, HA, HK2, HO_5, HO_6, HB⟩ := hrel
     cases gk with
     | zero => exact absurd HA.out (by simp [spec_BranchOf.l0])
     | succ k2 =>
      have H := HA.out
      clear HA
      simp only [spec_BranchOf.l0] at H
      by_cases c11 : (x6_2.length : Int) > 1
      ·rw [if_pos c11] at H
       have c11b0 : decide (1 < (x6_2.length : Int)) = true := decide_eq_true c11
       have c11b1 : decide (1 < x6_2.length) = true := decide_eq_true (by omega)
       clear c11
       by_cases c12 : 0 ≤ (Go.bits .xor .i64 x1_2 1)
       ·rw [if_pos c12] at H
        have c12b0 : decide (0 ≤ (Go.bits .xor .i64 x1_2 1)) = true := decide_eq_true c12
        clear c12
        by_cases c13 : (Go.bits .xor .i64 x1_2 1) < (x6_2.length : Int)
        ·rw [if_pos c13] at H
         have c13b0 : decide ((Go.bits .xor .i64 x1_2 1) < (x6_2.length : Int)) = true := decide_eq_true c13
         clear c13
         by_cases c14 : x5_2.length < 8796093022208
         ·rw [if_pos c14] at H
          have LMc14 := Aside0.mk c14
          clear c14
          obtain ⟨y242, hy242⟩ : ∃ y_ : List ByteArray, y_ = (x5_2 ++ [rdOf ByteArray.empty x6_2 (Go.bits .xor .i64 x1_2 1)]) := ⟨_, rfl⟩
          replace H : ((spec_l10Up.f k2 x6_2).bind fun t245 => (spec_BranchOf.l0 k2 (wrap64 (Int.tdiv x1_2 2)) y242 t245)) = some r := by first | (rw [hy242]; with_reducible exact H) | (have H2_ := (Option.bind_some _ _).symm.trans H; rw [hy242]; with_reducible exact H2_) | (have H2_ := (Option.bind_some _ _).symm.trans H; with_reducible exact H2_) | with_reducible exact H | (rw [hy242]; exact H) | exact H
          have Ny242 := Aside0.mk hy242
          clear hy242
          replace H := Option.bind_eq_some_iff.mp H
          obtain ⟨t245, A150, H⟩ := H
          replace H : (spec_BranchOf.l0 k2 (wrap64 (Int.tdiv x1_2 2)) y242 t245) = some r := H
          have A15 := Aside0.mk A150
          clear A150
          have H' := Aside0.mk H
          clear H
          obtain ⟨Ao16, co16, eo16⟩ := Kd.R_slice HO_6.out
          subst eo16
          have p241 : 0 ≤ ((Go.bits .xor .i64 x1_2 1) : Int) := of_decide_eq_true (by first | (with_reducible assumption) | assumption)
          have q241 : (Go.bits .xor .i64 x1_2 1) < (x6_2.length : Int) := of_decide_eq_true (by first | (with_reducible assumption) | assumption)
          obtain ⟨ad241, e241, hx241_0⟩ := Kd.at_string (Kd.R_reads' HO_6.out).2.2 (Go.bits .xor .i64 x1_2 1) p241 q241
          cases e241
          replace p241 := eq_true p241
          replace q241 := eq_true q241
          go_wp2_with (first | ((with_reducible refine gate_builtin (b := .append) (xs := #[.tmp 25, .tmp 31]) rfl ?_); (try (refine gate_guard (by rfl) ?_; dsimp only)); at_builtin; refine Kd.R_append Kd.string (w0 := w) w.heap.size rfl (.tmp 25) (.tmp 31) 22 9 (.string ⟨#[]⟩) 16 rfl Tryd.underlying22 info9 rfl (by decide) (by omega) u5 x5_2 (rdOf ByteArray.empty x6_2 (Go.bits .xor .i64 x1_2 1)) [.string (rdOf ByteArray.empty x6_2 (Go.bits .xor .i64 x1_2 1))] (fun k_ => some k_ ≠ (.slice (some ad241) x6_2.length co16 : Value).ownBlock) (fun _ => False) rfl rfl ?aP (fun _ hk => hk.elim) ?aF ?aO ?aB ?aS ?aL ?_; (case aP => exact rfl); (case aB => exact (bZ HB)); (case aF => exact (fun k_ hk => Kd.fresh' (Kd.R_lt (by (with_reducible repeat (first | apply Kd.R_alloc | apply Kd.R_drewN | apply Kd.R_drew)); exact HO_6.out)) k_ hk)); (case aO => exact (by (with_reducible repeat (first | apply Kd.R_alloc | apply Kd.R_drewN | apply Kd.R_drew)); exact HO_5.out)); (case aS => exact (below_size (bZ HB))); (case aL => have := LMc14.out; omega); intro v243 w17 ho hb hg hat; rw [← Ny242.out] at ho; replace HO_6 := Aside0.mk (Kd.R_after (ok := (fun _ => True)) (by (with_reducible repeat (first | apply Kd.R_alloc | apply Kd.R_drewN | apply Kd.R_drew)); exact Kd.R_mono HO_6.out (fun _ hk => ⟨trivial, hk⟩)) hg hat); replace HB := Aside0.mk (hb); have HO244 := Aside0.mk (ho); clear HO_5; clear ho hb hg hat) | ((with_reducible refine gate_callee (f := 54) rfl ?_); refine goesL_ (some 34) rfl rfl Tryd.func54 (by kernel_rfl) rfl #[.slice (some ad241) x6_2.length co16] rfl (by (try simp only [List.map_toArray, List.map_cons, List.map_nil]); first | done | rfl | (simp only [List.length_drop, List.length_take]; rfl)) ?_; (with_reducible refine (spec_l10Up.calls k2 _ _ x6_2 t245 _ ?side1 ?side2 A15.out).mono ?_); (case side1 => repeat (first | exact (Kd.R_reads' HO_6.out).2.2 | (with_reducible refine Kd.C_alloc ?_ _) | (with_reducible refine Kd.C_drewN ?_ _) | (with_reducible refine Kd.C_drew ?_))); (case side2 => exact (Kd.R_reads' HO_6.out).2.1); rintro e w18 ⟨v246, rfl, ho0, hb⟩; refine ⟨_, rfl, ?_⟩; have HO247 := Aside0.mk (Kd.R_lower (Kd.R_new' (Kd.R_new' ho0 (Kd.R_lt (by (with_reducible repeat (first | apply Kd.R_alloc | apply Kd.R_drewN | apply Kd.R_drew)); exact HO_6.out))) (Kd.R_lt (by (with_reducible repeat (first | apply Kd.R_alloc | apply Kd.R_drewN | apply Kd.R_drew)); exact HO244.out))) (below_size (bZ HB))); replace HO_6 := Aside0.mk (Kd.R_elder' (by (with_reducible repeat (first | apply Kd.R_alloc | apply Kd.R_drewN | apply Kd.R_drew)); exact HO_6.out) (Kd.R_base ho0) hb); replace HO244 := Aside0.mk (Kd.R_elder' (by (with_reducible repeat (first | apply Kd.R_alloc | apply Kd.R_drewN | apply Kd.R_drew)); exact HO244.out) (Kd.R_base ho0) hb); replace HB := bS HB hb; (try clear hb); (try clear hb2); (try clear hk); (try clear hi); (try clear ho0)))
          go_roundg k2
          case measure => have := HJ2.out; have := HK2.out; omega
          case rel => exact ⟨(wrap64 (Int.tdiv x1_2 2)), (y242), (t245), (by first | rfl | (simp; done) | (simp [*]; done)), H', ⟨by have := HJ2.out; have := HK2.out; omega⟩, ⟨by (with_reducible repeat (first | apply Kd.R_alloc | apply Kd.R_drewN | apply Kd.R_drew)); exact Kd.R_mono HO244.out (fun _ hk => hk.2)⟩, ⟨by (with_reducible repeat (first | apply Kd.R_alloc | apply Kd.R_drewN | apply Kd.R_drew)); exact Kd.R_mono HO247.out (fun _ hk => hk.2)⟩, ⟨bZ HB⟩⟩
         ·rw [if_neg c14] at H
          exact absurd H (by simp)
        ·rw [if_neg c13] at H
         exact absurd H (by simp)
       ·rw [if_neg c12] at H
        exact absurd H (by simp)
      ·rw [if_neg c11] at H
       have c11b0 : decide (1 < (x6_2.length : Int)) = false := decide_eq_false c11
       have c11b1 : decide (1 < x6_2.length) = false := decide_eq_false (by omega)
       clear c11
       obtain rfl := Option.some.inj H
       obtain ⟨Ao19, co19, eo19⟩ := Kd.R_slice HO_6.out
       subst eo19
       go_wp2
       go_ret
       exact ⟨_, by first | rfl | (simp [errW_none, errW_some] <;> rfl) | (simp [*, errW_none, errW_some] <;> rfl), by (with_reducible repeat (first | apply Kd.R_alloc | apply Kd.R_drewN | apply Kd.R_drew)); exact Kd.R_mono HO_5.out (fun _ hk => trivial), bZ HB⟩

end Go.Proofs.YtmiiknkfhiecgaaDoor.Pf
end
section
namespace Go.Proofs.YtmiiknkfhiecgaaDoor.Pf
open Go.RowKit Go.Proofs.YtmiiknkfhiecgaaDoorW.PrintWords Go.Proofs.YtmiiknkfhiecgaaDoorW.PrintLast Go.Proofs.YtmiiknkfhiecgaaDoorW.PrintMore
attribute [local go_sem] max2_int min2_int max_two min_two max_three min_three max_four min_four   -- for this text's walks alone
set_option linter.unusedVariables false
set_option linter.unusedSimpArgs false
/-! ### spec_RootOf: function 16 -/
def spec_RootOf.l0 : Nat → List ByteArray → Option (ByteArray)
 | 0, _ => none
 | k + 1, x3 => if (x3.length : Int) > 1 then ((spec_l10Up.f k x3).bind fun t160 => (spec_RootOf.l0 k t160)) else (if 0 < (x3.length : Int) then (some (rdOf ByteArray.empty x3 0)) else (none))
def spec_RootOf.f (k : Nat) (l0 : List ByteArray) : Option (ByteArray) := if (l0.length : Int) > 32 then (some (⟨#[]⟩ : ByteArray)) else ((spec_l10Hashes.f k l0).bind fun t157 => (spec_RootOf.l0 k t157))
theorem spec_RootOf.mono_l : ∀ k, (∀ y0, LeO (spec_RootOf.l0 k y0) (spec_RootOf.l0 (k + 1) y0))
 | 0 => fun _ r h => by simp [spec_RootOf.l0] at h
 | k + 1 => by
  have ih0 := spec_RootOf.mono_l k
  ·intro y0
   unfold spec_RootOf.l0
   repeat' first
   | (with_reducible exact ih0 _)
   | (with_reducible exact spec_l10Hashes.mono _ _)
   | (with_reducible exact spec_l10Up.mono _ _)
   | (with_reducible exact LeO.refl _)
   | (with_reducible exact LeO.none _)
   | (with_reducible refine LeO.ite ?_ ?_)
   | (with_reducible refine LeO.bind ?_ (fun _ => ?_))
   | exact ih0 _
   | exact spec_l10Hashes.mono _ _
   | exact spec_l10Up.mono _ _
   | exact LeO.none _
   | refine LeO.ite ?_ ?_
   | refine LeO.bind ?_ (fun _ => ?_)
theorem spec_RootOf.mono : ∀ a0 k, LeO (spec_RootOf.f k a0) (spec_RootOf.f (k + 1) a0) := by
 intro a0 k
 have ih0 := spec_RootOf.mono_l k
 unfold spec_RootOf.f
 repeat' first
   | (with_reducible exact ih0 _)
   | (with_reducible exact spec_l10Hashes.mono _ _)
   | (with_reducible exact spec_l10Up.mono _ _)
   | (with_reducible exact LeO.refl _)
   | (with_reducible exact LeO.none _)
   | (with_reducible refine LeO.ite ?_ ?_)
   | (with_reducible refine LeO.bind ?_ (fun _ => ?_))
   | exact ih0 _
   | exact spec_l10Hashes.mono _ _
   | exact spec_l10Up.mono _ _
   | exact LeO.none _
   | refine LeO.ite ?_ ?_
   | refine LeO.bind ?_ (fun _ => ?_)
set_option maxHeartbeats 8000000 in
set_option maxRecDepth 100000 in
theorem spec_RootOf.calls (k : Nat) (A0 : Option Addr) (c0 : Nat) (l0 : List ByteArray) (r : ByteArray) (w : World) (hr0 : Kd.C Kd.string w A0 l0.length l0) (hc0 : l0.length ≤ c0) (h : spec_RootOf.f k l0 = some r) :
  Calls Tryd.prog 16 #[.slice A0 l0.length c0] w fun e w' => e = .returned (.string r) ∧ Below w.heap.size w w' := by
 have HR0 := Aside0.mk hr0
 have HC0 := Aside0.mk hc0
 clear hr0 hc0
 have HB := Aside0.mk (Below.refl w.heap.size w)
 have H : (if (l0.length : Int) > 32 then (some (⟨#[]⟩ : ByteArray)) else ((spec_l10Hashes.f k l0).bind fun t157 => (spec_RootOf.l0 k t157))) = some r := h
 clear h
 by_cases c2 : (l0.length : Int) > 32
 ·rw [if_pos c2] at H
  have c2b0 : decide (32 < (l0.length : Int)) = true := decide_eq_true c2
  have c2b1 : decide (32 < l0.length) = true := decide_eq_true (by omega)
  clear c2
  obtain rfl := Option.some.inj H
  go_enter Tryd.func16, Tryd.ntmps16
  go_wp2
  go_ret
  exact ⟨by first | rfl | (simp [errW_none, errW_some] <;> rfl) | (simp [*, errW_none, errW_some] <;> rfl), bZ HB⟩
 ·rw [if_neg c2] at H
  have c2b0 : decide (32 < (l0.length : Int)) = false := decide_eq_false c2
  have c2b1 : decide (32 < l0.length) = false := decide_eq_false (by omega)
  clear c2
  replace H := Option.bind_eq_some_iff.mp H
  obtain ⟨t157, A30, H⟩ := H
  replace H : (spec_RootOf.l0 k t157) = some r := H
  have A3 := Aside0.mk A30
  clear A30
  have H' := Aside0.mk H
  clear H
  go_enter Tryd.func16, Tryd.ntmps16
  go_wp2_with (first | ((with_reducible refine gate_callee (f := 53) rfl ?_); refine goesL_ (some 8) rfl rfl Tryd.func53 (by kernel_rfl) rfl #[.slice A0 l0.length c0] rfl (by (try simp only [List.map_toArray, List.map_cons, List.map_nil]); first | done | rfl | (simp only [List.length_drop, List.length_take]; rfl)) ?_; (with_reducible refine (spec_l10Hashes.calls k _ _ l0 t157 _ ?side1 ?side2 A3.out).mono ?_); (case side1 => repeat (first | exact HR0.out | (with_reducible refine Kd.C_alloc ?_ _) | (with_reducible refine Kd.C_drewN ?_ _) | (with_reducible refine Kd.C_drew ?_))); (case side2 => exact HC0.out); rintro e w4 ⟨v158, rfl, ho0, hb⟩; refine ⟨_, rfl, ?_⟩; have HO159 := Aside0.mk (Kd.R_lower ho0 (below_size (bZ HB))); replace HB := bS HB hb; (try clear hb); (try clear hb2); (try clear hk); (try clear hi); (try clear ho0)))
  go_loopg [3] k (fun kq v3 w' => ∃ (x3_1 : List ByteArray), Aside0 (spec_RootOf.l0 kq x3_1 = some r) ∧ Aside0 (kq ≤ k) ∧ Aside0 (Kd.R Kd.string 9 w' w.heap.size (fun _ => True) v3 x3_1) ∧ Aside0 (Below w.heap.size w w'))
  case atStart => exact ⟨(t157), H', ⟨Nat.le_refl _⟩, ⟨by (with_reducible repeat (first | apply Kd.R_alloc | apply Kd.R_drewN | apply Kd.R_drew)); exact HO159.out⟩, ⟨bZ HB⟩⟩
  case round =>
   clear H'
   try clear c1
   try clear c2
   try clear c2b0
   try clear c2b1
   try clear p2
   obtain ⟨x3_1, HA, HK1, HO_3, HB⟩ := hrel
   cases gk with
   | zero => exact absurd HA.out (by simp [spec_RootOf.l0])
   | succ k1 =>
    have H := HA.out
    clear HA
    simp only [spec_RootOf.l0] at H
    by_cases c5 : (x3_1.length : Int) > 1
    ·rw [if_pos c5] at H
     have c5b0 : decide (1 < (x3_1.length : Int)) = true := decide_eq_true c5
     have c5b1 : decide (1 < x3_1.length) = true := decide_eq_true (by omega)
     clear c5
     replace H := Option.bind_eq_some_iff.mp H
     obtain ⟨t160, A60, H⟩ := H
     replace H : (spec_RootOf.l0 k1 t160) = some r := H
     have A6 := Aside0.mk A60
     clear A60
     have H' := Aside0.mk H
     clear H
     obtain ⟨Ao7, co7, eo7⟩ := Kd.R_slice HO_3.out
     subst eo7
     go_wp2_with (first | ((with_reducible refine gate_callee (f := 54) rfl ?_); refine goesL_ (some 13) rfl rfl Tryd.func54 (by kernel_rfl) rfl #[.slice Ao7 x3_1.length co7] rfl (by (try simp only [List.map_toArray, List.map_cons, List.map_nil]); first | done | rfl | (simp only [List.length_drop, List.length_take]; rfl)) ?_; (with_reducible refine (spec_l10Up.calls k1 _ _ x3_1 t160 _ ?side1 ?side2 A6.out).mono ?_); (case side1 => repeat (first | exact (Kd.R_reads' HO_3.out).2.2 | (with_reducible refine Kd.C_alloc ?_ _) | (with_reducible refine Kd.C_drewN ?_ _) | (with_reducible refine Kd.C_drew ?_))); (case side2 => exact (Kd.R_reads' HO_3.out).2.1); rintro e w8 ⟨v161, rfl, ho0, hb⟩; refine ⟨_, rfl, ?_⟩; have HO162 := Aside0.mk (Kd.R_lower (Kd.R_new' ho0 (Kd.R_lt (by (with_reducible repeat (first | apply Kd.R_alloc | apply Kd.R_drewN | apply Kd.R_drew)); exact HO_3.out))) (below_size (bZ HB))); replace HO_3 := Aside0.mk (Kd.R_elder' (by (with_reducible repeat (first | apply Kd.R_alloc | apply Kd.R_drewN | apply Kd.R_drew)); exact HO_3.out) (Kd.R_base ho0) hb); replace HB := bS HB hb; (try clear hb); (try clear hb2); (try clear hk); (try clear hi); (try clear ho0)))
     go_roundg k1
     case measure => have := HK1.out; omega
     case rel => exact ⟨(t160), H', ⟨by have := HK1.out; omega⟩, ⟨by (with_reducible repeat (first | apply Kd.R_alloc | apply Kd.R_drewN | apply Kd.R_drew)); exact Kd.R_mono HO162.out (fun _ hk => trivial)⟩, ⟨bZ HB⟩⟩
    ·rw [if_neg c5] at H
     have c5b0 : decide (1 < (x3_1.length : Int)) = false := decide_eq_false c5
     have c5b1 : decide (1 < x3_1.length) = false := decide_eq_false (by omega)
     clear c5
     by_cases c9 : 0 < (x3_1.length : Int)
     ·rw [if_pos c9] at H
      have c9b0 : decide (0 < (x3_1.length : Int)) = true := decide_eq_true c9
      have c9b1 : decide (0 < x3_1.length) = true := decide_eq_true (by omega)
      clear c9
      obtain rfl := Option.some.inj H
      obtain ⟨Ao10, co10, eo10⟩ := Kd.R_slice HO_3.out
      subst eo10
      have p163 : 0 ≤ (0 : Int) := (by omega)
      have q163 : 0 < (x3_1.length : Int) := of_decide_eq_true (by first | (with_reducible assumption) | assumption)
      obtain ⟨ad163, e163, hx163_0⟩ := Kd.at_string (Kd.R_reads' HO_3.out).2.2 0 p163 q163
      cases e163
      have qi163 : (0 < x3_1.length) = True := eq_true (by omega)
      (try rw [show ((0 : Int)).toNat = 0 from rfl] at hx163_0)
      (try rw [Addr.add_zero'] at hx163_0)
      replace p163 := eq_true p163
      replace q163 := eq_true q163
      go_wp2
      go_ret
      exact ⟨by first | rfl | (simp [errW_none, errW_some] <;> rfl) | (simp [*, errW_none, errW_some] <;> rfl), bZ HB⟩
     ·rw [if_neg c9] at H
      exact absurd H (by simp)
end Go.Proofs.YtmiiknkfhiecgaaDoor.Pf
end
section
/- What is proved here: the digest of a text is 32 bytes, the same by the program and by the reference; so is the digest of a pair. No conditions but that the texts are no longer than 100000000 bytes. -/
set_option linter.unusedVariables false
set_option linter.unusedSimpArgs false
namespace Go.Proofs.YtmiiknkfhiecgaaDoor.Tree
open Go.RowKit Go.Proofs.YtmiiknkfhiecgaaDoor.Pf Go.Proofs.YtmiiknkfhiecgaaDoorW.PrintWords
def D (t : ByteArray) : ByteArray := Kp.digI t
theorem D_size (t : ByteArray) : (D t).size = 32 := by
  unfold D Kp.digI
  rw [ByteArray.size_extract, Kp.tx_size]
  decide
theorem impl_D {t : ByteArray} (h : t.size ≤ 100000000) : impl_Digest.f t = some (D t) := by
  unfold impl_Digest.f Kp.impl_Digest.f
  rw [if_pos (by omega)]
  rfl
theorem spec_D {t : ByteArray} (h : t.size ≤ 100000000) : spec_Digest.f t = some (D t) := by
  rw [← impl_D h]
  exact (Kp.digest_eq t).symm
theorem impl_pair {a b : ByteArray} (ha : a.size ≤ 40000000) (hb : b.size ≤ 40000000) : impl_DigestPair.f a b = some (D (a ++ b)) := by
  unfold impl_DigestPair.f
  rw [if_pos (by omega), impl_D (by rw [ByteArray.size_append]; omega)]
  rfl
theorem spec_pair {a b : ByteArray} (ha : a.size ≤ 40000000) (hb : b.size ≤ 40000000) : spec_DigestPair.f a b = some (D (a ++ b)) := by
  unfold spec_DigestPair.f
  rw [if_pos (by omega), spec_D (by rw [ByteArray.size_append]; omega)]
  rfl
attribute [irreducible] D
end Go.Proofs.YtmiiknkfhiecgaaDoor.Tree
end
section
namespace Go.Proofs.YtmiiknkfhiecgaaDoor.Pf
open Go.RowKit Go.Proofs.YtmiiknkfhiecgaaDoorW.PrintWords Go.Proofs.YtmiiknkfhiecgaaDoorW.PrintLast Go.Proofs.YtmiiknkfhiecgaaDoorW.PrintMore
attribute [local go_sem] max2_int min2_int max_two min_two max_three min_three max_four min_four   -- for this text's walks alone
set_option linter.unusedVariables false
set_option linter.unusedSimpArgs false
/-! ### laws_eqStringS: function 15 -/
def laws_eqStringS.l0 : Nat → List ByteArray → List ByteArray → Int → Option (Bool)
 | 0, _, _, _ => none
 | k + 1, x0, x1, x5 => if x5 < (x0.length : Int) then (if 0 ≤ x5 then (if x5 < (x1.length : Int) then (if (rdOf ByteArray.empty x0 x5).toList = (rdOf ByteArray.empty x1 x5).toList then (laws_eqStringS.l0 k x0 x1 (wrap64 (x5 + 1))) else (some false)) else (none)) else (none)) else (some true)
def laws_eqStringS.f (k : Nat) (l0 : List ByteArray) (l1 : List ByteArray) : Option (Bool) := if (l0.length : Int) = (l1.length : Int) then (laws_eqStringS.l0 k l0 l1 0) else (some false)
theorem laws_eqStringS.mono_l : ∀ k, (∀ y0 y1 y2, LeO (laws_eqStringS.l0 k y0 y1 y2) (laws_eqStringS.l0 (k + 1) y0 y1 y2))
 | 0 => fun _ _ _ r h => by simp [laws_eqStringS.l0] at h
 | k + 1 => by
  have ih0 := laws_eqStringS.mono_l k
  ·intro y0 y1 y2
   unfold laws_eqStringS.l0
   repeat' first
   | (with_reducible exact ih0 _ _ _)
   | (with_reducible exact LeO.refl _)
   | (with_reducible exact LeO.none _)
   | (with_reducible refine LeO.ite ?_ ?_)
   | (with_reducible refine LeO.bind ?_ (fun _ => ?_))
   | exact ih0 _ _ _
   | exact LeO.none _
   | refine LeO.ite ?_ ?_
   | refine LeO.bind ?_ (fun _ => ?_)
theorem laws_eqStringS.mono : ∀ a0 a1 k, LeO (laws_eqStringS.f k a0 a1) (laws_eqStringS.f (k + 1) a0 a1) := by
 intro a0 a1 k
 have ih0 := laws_eqStringS.mono_l k
 unfold laws_eqStringS.f
 repeat' first
   | (with_reducible exact ih0 _ _ _)
   | (with_reducible exact LeO.refl _)
   | (with_reducible exact LeO.none _)
   | (with_reducible refine LeO.ite ?_ ?_)
   | (with_reducible refine LeO.bind ?_ (fun _ => ?_))
   | exact ih0 _ _ _
   | exact LeO.none _
   | refine LeO.ite ?_ ?_
   | refine LeO.bind ?_ (fun _ => ?_)
set_option maxHeartbeats 8000000 in
set_option maxRecDepth 100000 in
theorem laws_eqStringS.calls (k : Nat) (A0 : Option Addr) (c0 : Nat) (l0 : List ByteArray) (A1 : Option Addr) (c1 : Nat) (l1 : List ByteArray) (r : Bool) (w : World) (hr0 : Kd.C Kd.string w A0 l0.length l0) (hc0 : l0.length ≤ c0) (hr1 : Kd.C Kd.string w A1 l1.length l1) (hc1 : l1.length ≤ c1) (h : laws_eqStringS.f k l0 l1 = some r) :
  Calls Tryd.prog 15 #[.slice A0 l0.length c0, .slice A1 l1.length c1] w fun e w' => e = .returned (.bool r) ∧ Drawn0 w w' := by
 have HR0 := Aside0.mk hr0
 have HC0 := Aside0.mk hc0
 clear hr0 hc0
 have HR1 := Aside0.mk hr1
 have HC1 := Aside0.mk hc1
 clear hr1 hc1
 have H : (if (l0.length : Int) = (l1.length : Int) then (laws_eqStringS.l0 k l0 l1 0) else (some false)) = some r := h
 clear h
 by_cases c3 : (l0.length : Int) = (l1.length : Int)
 ·rw [if_pos c3] at H
  have c3b0 : ((l0.length : Int) == (l1.length : Int)) = true := beq_iff_eq.mpr c3
  have c3b1 : ((l0.length : Int) != (l1.length : Int)) = false := bne_eq_false_iff_eq.mpr c3
  have c3b2 : (l0.length == l1.length) = true := by first | simpa using c3 | (simp at c3 ⊢; omega)
  clear c3
  have H' := Aside0.mk H
  clear H
  go_enter Tryd.func15, Tryd.ntmps15
  go_wp2
  repeat (go_quiet (fail); try go_wp2)
  go_loopg [5] k (fun kq v5 w' => ∃ (x5_1 : Int), v5 = .int .i64 x5_1 ∧ Aside0 (laws_eqStringS.l0 kq l0 l1 x5_1 = some r) ∧ Aside0 (kq ≤ k) ∧ Drawn0 w w')
  case atStart => exact ⟨(0), (by first | rfl | (simp; done) | (simp [*]; done)), H', ⟨Nat.le_refl _⟩, by repeat (first | exact Drawn0.refl _ | apply Drawn0.step)⟩
  case round =>
   clear H'
   try clear c1
   try clear p2
   try clear c3
   try clear c3b0
   try clear c3b1
   try clear c3b2
   obtain ⟨x5_1, rfl, HA, HK1, ⟨m1, rfl⟩⟩ := hrel
   cases gk with
   | zero => exact absurd HA.out (by simp [laws_eqStringS.l0])
   | succ k1 =>
    have H := HA.out
    clear HA
    simp only [laws_eqStringS.l0] at H
    by_cases c4 : x5_1 < (l0.length : Int)
    ·rw [if_pos c4] at H
     have c4b0 : decide (x5_1 < (l0.length : Int)) = true := decide_eq_true c4
     clear c4
     by_cases c5 : 0 ≤ x5_1
     ·rw [if_pos c5] at H
      have c5b0 : decide (0 ≤ x5_1) = true := decide_eq_true c5
      clear c5
      by_cases c6 : x5_1 < (l1.length : Int)
      ·rw [if_pos c6] at H
       have c6b0 : decide (x5_1 < (l1.length : Int)) = true := decide_eq_true c6
       clear c6
       by_cases c7 : (rdOf ByteArray.empty l0 x5_1).toList = (rdOf ByteArray.empty l1 x5_1).toList
       ·rw [if_pos c7] at H
        have c7b0 : ((rdOf ByteArray.empty l0 x5_1).toList == (rdOf ByteArray.empty l1 x5_1).toList) = true := beq_iff_eq.mpr c7
        have c7b1 : ((rdOf ByteArray.empty l0 x5_1).toList != (rdOf ByteArray.empty l1 x5_1).toList) = false := bne_eq_false_iff_eq.mpr c7
        clear c7
        have H' := Aside0.mk H
        clear H
        have p119 : 0 ≤ (x5_1 : Int) := of_decide_eq_true (by first | (with_reducible assumption) | assumption)
        have q119 : x5_1 < (l0.length : Int) := of_decide_eq_true (by first | (with_reducible assumption) | assumption)
        obtain ⟨ad119, e119, hx119_0⟩ := Kd.at_string HR0.out x5_1 p119 q119
        cases e119
        replace p119 := eq_true p119
        replace q119 := eq_true q119
        have p120 : 0 ≤ (x5_1 : Int) := of_decide_eq_true (by first | (with_reducible assumption) | assumption)
        have q120 : x5_1 < (l1.length : Int) := of_decide_eq_true (by first | (with_reducible assumption) | assumption)
        obtain ⟨ad120, e120, hx120_0⟩ := Kd.at_string HR1.out x5_1 p120 q120
        cases e120
        replace p120 := eq_true p120
        replace q120 := eq_true q120
        go_wp2
        repeat (go_quiet (fail); try go_wp2)
        go_roundg k1
        case measure => have := HK1.out; omega
        case rel => exact ⟨(wrap64 (x5_1 + 1)), (by first | rfl | (simp; done) | (simp [*]; done)), H', ⟨by have := HK1.out; omega⟩, by repeat (first | exact Drawn0.refl _ | apply Drawn0.step)⟩
       ·rw [if_neg c7] at H
        have c7b0 : ((rdOf ByteArray.empty l0 x5_1).toList == (rdOf ByteArray.empty l1 x5_1).toList) = false := beq_eq_false_iff_ne.mpr c7
        have c7b1 : ((rdOf ByteArray.empty l0 x5_1).toList != (rdOf ByteArray.empty l1 x5_1).toList) = true := bne_iff_ne.mpr c7
        obtain rfl := Option.some.inj H
        have p119 : 0 ≤ (x5_1 : Int) := of_decide_eq_true (by first | (with_reducible assumption) | assumption)
        have q119 : x5_1 < (l0.length : Int) := of_decide_eq_true (by first | (with_reducible assumption) | assumption)
        obtain ⟨ad119, e119, hx119_0⟩ := Kd.at_string HR0.out x5_1 p119 q119
        cases e119
        replace p119 := eq_true p119
        replace q119 := eq_true q119
        have p120 : 0 ≤ (x5_1 : Int) := of_decide_eq_true (by first | (with_reducible assumption) | assumption)
        have q120 : x5_1 < (l1.length : Int) := of_decide_eq_true (by first | (with_reducible assumption) | assumption)
        obtain ⟨ad120, e120, hx120_0⟩ := Kd.at_string HR1.out x5_1 p120 q120
        cases e120
        replace p120 := eq_true p120
        replace q120 := eq_true q120
        go_wp2
        repeat (go_quiet (fail); try go_wp2)
        go_ret
        exact ⟨by first | rfl | (simp; done) | (simp [*]; done), by repeat (first | exact Drawn0.refl _ | apply Drawn0.step)⟩
      ·rw [if_neg c6] at H
       exact absurd H (by simp)
     ·rw [if_neg c5] at H
      exact absurd H (by simp)
    ·rw [if_neg c4] at H
     have c4b0 : decide (x5_1 < (l0.length : Int)) = false := decide_eq_false c4
     clear c4
     obtain rfl := Option.some.inj H
     go_wp2
     repeat (go_quiet (fail); try go_wp2)
     go_ret
     exact ⟨by first | rfl | (simp; done) | (simp [*]; done), by repeat (first | exact Drawn0.refl _ | apply Drawn0.step)⟩
 ·rw [if_neg c3] at H
  have c3b0 : ((l0.length : Int) == (l1.length : Int)) = false := beq_eq_false_iff_ne.mpr c3
  have c3b1 : ((l0.length : Int) != (l1.length : Int)) = true := bne_iff_ne.mpr c3
  have c3b2 : (l0.length == l1.length) = false := by first | simpa using c3 | (simp at c3 ⊢; omega)
  obtain rfl := Option.some.inj H
  go_enter Tryd.func15, Tryd.ntmps15
  go_wp2
  repeat (go_quiet (fail); try go_wp2)
  go_ret
  exact ⟨by first | rfl | (simp; done) | (simp [*]; done), by repeat (first | exact Drawn0.refl _ | apply Drawn0.step)⟩
/-! ### laws_toStringS: function 13 -/
def laws_toStringS.l0 : Nat → List ByteArray → List ByteArray → Int → Option (List ByteArray)
 | 0, _, _, _ => none
 | k + 1, x0, x3, x4 => if x4 < (x0.length : Int) then (if 0 ≤ x4 then (if x4 < (x3.length : Int) then (laws_toStringS.l0 k x0 (x3.set (x4 : Int).toNat (rdOf ByteArray.empty x0 x4)) (wrap64 (x4 + 1))) else (none)) else (none)) else (some x3)
def laws_toStringS.f (k : Nat) (l0 : List ByteArray) : Option (List ByteArray) := if 0 ≤ (l0.length : Int) then (if ((l0.length : Int) : Int).toNat ≤ 17592186044416 then (laws_toStringS.l0 k l0 (List.replicate ((l0.length : Int) : Int).toNat (⟨#[]⟩ : ByteArray)) 0) else (none)) else (none)
theorem laws_toStringS.mono_l : ∀ k, (∀ y0 y1 y2, LeO (laws_toStringS.l0 k y0 y1 y2) (laws_toStringS.l0 (k + 1) y0 y1 y2))
 | 0 => fun _ _ _ r h => by simp [laws_toStringS.l0] at h
 | k + 1 => by
  have ih0 := laws_toStringS.mono_l k
  ·intro y0 y1 y2
   unfold laws_toStringS.l0
   repeat' first
   | (with_reducible exact ih0 _ _ _)
   | (with_reducible exact LeO.refl _)
   | (with_reducible exact LeO.none _)
   | (with_reducible refine LeO.ite ?_ ?_)
   | (with_reducible refine LeO.bind ?_ (fun _ => ?_))
   | exact ih0 _ _ _
   | exact LeO.none _
   | refine LeO.ite ?_ ?_
   | refine LeO.bind ?_ (fun _ => ?_)
theorem laws_toStringS.mono : ∀ a0 k, LeO (laws_toStringS.f k a0) (laws_toStringS.f (k + 1) a0) := by
 intro a0 k
 have ih0 := laws_toStringS.mono_l k
 unfold laws_toStringS.f
 repeat' first
   | (with_reducible exact ih0 _ _ _)
   | (with_reducible exact LeO.refl _)
   | (with_reducible exact LeO.none _)
   | (with_reducible refine LeO.ite ?_ ?_)
   | (with_reducible refine LeO.bind ?_ (fun _ => ?_))
   | exact ih0 _ _ _
   | exact LeO.none _
   | refine LeO.ite ?_ ?_
   | refine LeO.bind ?_ (fun _ => ?_)
set_option maxHeartbeats 8000000 in
set_option maxRecDepth 100000 in
theorem laws_toStringS.calls (k : Nat) (A0 : Option Addr) (c0 : Nat) (l0 : List ByteArray) (r : List ByteArray) (w : World) (hr0 : Kd.C Kd.string w A0 l0.length l0) (hc0 : l0.length ≤ c0) (h : laws_toStringS.f k l0 = some r) :
  Calls Tryd.prog 13 #[.slice A0 l0.length c0] w fun e w' => ∃ v0_ : Value, e = .returned (v0_) ∧ Kd.R Kd.string 9 w' w.heap.size (fun _ => True) v0_ r ∧ Below w.heap.size w w' := by
 have HR0 := Aside0.mk hr0
 have HC0 := Aside0.mk hc0
 clear hr0 hc0
 have HB := Aside0.mk (Below.refl w.heap.size w)
 have H : (if 0 ≤ (l0.length : Int) then (if ((l0.length : Int) : Int).toNat ≤ 17592186044416 then (laws_toStringS.l0 k l0 (List.replicate ((l0.length : Int) : Int).toNat (⟨#[]⟩ : ByteArray)) 0) else (none)) else (none)) = some r := h
 clear h
 by_cases c2 : 0 ≤ (l0.length : Int)
 ·rw [if_pos c2] at H
  have c2b0 := eq_true c2
  have c2b1 : decide (0 ≤ (l0.length : Int)) = true := decide_eq_true c2
  clear c2
  by_cases c3 : ((l0.length : Int) : Int).toNat ≤ 17592186044416
  ·rw [if_pos c3] at H
   have c3b0 := eq_true c3
   have c3b1 : decide (((l0.length : Int) : Int).toNat ≤ 17592186044416) = true := decide_eq_true c3
   clear c3
   obtain ⟨y109, hy109⟩ : ∃ y_ : List ByteArray, y_ = (List.replicate ((l0.length : Int) : Int).toNat (⟨#[]⟩ : ByteArray)) := ⟨_, rfl⟩
   replace H : (laws_toStringS.l0 k l0 y109 0) = some r := by first | (rw [hy109]; with_reducible exact H) | (have H2_ := (Option.bind_some _ _).symm.trans H; rw [hy109]; with_reducible exact H2_) | (have H2_ := (Option.bind_some _ _).symm.trans H; with_reducible exact H2_) | with_reducible exact H | (rw [hy109]; exact H) | exact H
   have Ny109 := Aside0.mk hy109
   clear hy109
   have H' := Aside0.mk H
   clear H
   go_enter Tryd.func13, Tryd.ntmps13
   go_wp2_with (first | ((with_reducible refine gate_dst (N := 7) rfl ?_); refine Kd.R_make Kd.string _ 9 rfl (N := 7) rfl 22 _ _ rfl (l0.length : Int) rfl rfl Tryd.underlying22 (.string ⟨#[]⟩) 16 info9 rfl (by decide) (by omega) (⟨#[]⟩ : ByteArray) (ok := fun _ => True) (okp := fun _ => True) rfl (fun _ hk => hk) trivial (of_decide_eq_true (by first | (with_reducible assumption) | assumption)) (Nat.le_trans (Nat.mul_le_mul_right _ (of_decide_eq_true (by first | (with_reducible assumption) | assumption) : (l0.length : Int).toNat ≤ 17592186044416)) (by omega)) (Below.refl _ _) (Nat.le_refl _) ?_; intro v110 w4 ho5 hb hg_ hnew_; clear hg_ hnew_; (first | rw [← Ny109.out] at ho5 | (simp only [Int.reduceToNat] at ho5; rw [← Ny109.out] at ho5)); have HO111 := Aside0.mk (Kd.R_lower ho5 (below_size (bZ HB))); replace HB := bS HB hb; clear hb ho5))
   go_loopg [4] k (fun kq v4 w' => ∃ (x3_1 : List ByteArray) (x4_1 : Int), v4 = .int .i64 x4_1 ∧ Aside0 (laws_toStringS.l0 kq l0 x3_1 x4_1 = some r) ∧ Aside0 (kq ≤ k) ∧ Aside0 (Kd.R Kd.string 9 w' w.heap.size (fun _ => True) v110 x3_1) ∧ Aside0 (Below w.heap.size w w'))
   case atStart => exact ⟨(y109), (0), (by first | rfl | (simp; done) | (simp [*]; done)), H', ⟨Nat.le_refl _⟩, ⟨by (with_reducible repeat (first | apply Kd.R_alloc | apply Kd.R_drewN | apply Kd.R_drew)); exact HO111.out⟩, ⟨bZ HB⟩⟩
   case round =>
    clear H'
    try clear c1
    try clear c2
    try clear c2b0
    try clear c2b1
    try clear p2
    try clear c3
    try clear c3b0
    try clear c3b1
    obtain ⟨x3_1, x4_1, rfl, HA, HK1, HO_3, HB⟩ := hrel
    cases gk with
    | zero => exact absurd HA.out (by simp [laws_toStringS.l0])
    | succ k1 =>
     have H := HA.out
     clear HA
     simp only [laws_toStringS.l0] at H
     by_cases c6 : x4_1 < (l0.length : Int)
     ·rw [if_pos c6] at H
      have c6b0 : decide (x4_1 < (l0.length : Int)) = true := decide_eq_true c6
      clear c6
      by_cases c7 : 0 ≤ x4_1
      ·rw [if_pos c7] at H
       have c7b0 : decide (0 ≤ x4_1) = true := decide_eq_true c7
       clear c7
       by_cases c8 : x4_1 < (x3_1.length : Int)
       ·rw [if_pos c8] at H
        have c8b0 : decide (x4_1 < (x3_1.length : Int)) = true := decide_eq_true c8
        clear c8
        obtain ⟨y113, hy113⟩ : ∃ y_ : List ByteArray, y_ = (x3_1.set (x4_1 : Int).toNat (rdOf ByteArray.empty l0 x4_1)) := ⟨_, rfl⟩
        replace H : (laws_toStringS.l0 k1 l0 y113 (wrap64 (x4_1 + 1))) = some r := by first | (rw [hy113]; with_reducible exact H) | (have H2_ := (Option.bind_some _ _).symm.trans H; rw [hy113]; with_reducible exact H2_) | (have H2_ := (Option.bind_some _ _).symm.trans H; with_reducible exact H2_) | with_reducible exact H | (rw [hy113]; exact H) | exact H
        have Ny113 := Aside0.mk hy113
        clear hy113
        have H' := Aside0.mk H
        clear H
        have p112 : 0 ≤ (x4_1 : Int) := of_decide_eq_true (by first | (with_reducible assumption) | assumption)
        have q112 : x4_1 < (l0.length : Int) := of_decide_eq_true (by first | (with_reducible assumption) | assumption)
        obtain ⟨ad112, e112, hx112_0⟩ := Kd.at_string HR0.out x4_1 p112 q112
        cases e112
        replace hx112_0 := (HB.out.cell (World.block_lt_of_cell? w _ hx112_0)).trans hx112_0
        replace p112 := eq_true p112
        replace q112 := eq_true q112
        have p9 : 0 ≤ (x4_1 : Int) := of_decide_eq_true (by first | (with_reducible assumption) | assumption)
        have q9 : (x4_1 : Int) < ((x3_1.length : Int) : Int) := of_decide_eq_true (by first | (with_reducible assumption) | assumption)
        obtain ⟨go9, co9, eo9, gb9, gl9, cl9, HG9⟩ := Kd.R_form HO_3.out (by omega)
        (first | cases eo9 | (injection eo9 with ea_ en_ ec_; (first | subst ea_ | (injection ea_ with ea_; subst ea_)); subst ec_; clear en_))
        have GB9 := Aside0.mk gb9
        have GG9 := Aside0.mk HG9
        clear gb9 gl9 HG9
        obtain ⟨hx9_0, hf9_0⟩ := Kd.R_celln (⟨#[]⟩ : ByteArray) HO_3.out (x4_1 : Int) p9 q9
        replace p9 := eq_true p9
        replace q9 := eq_true q9
        have HP10 := Kd.R_putg HO_3.out (x4_1 : Int) (rdOf ByteArray.empty l0 x4_1)
        go_wp2_with (first | ((with_reducible refine gate_store (t := 9) (p := 20) rfl ?_); refine store_event (t := 9) (p := 20) (v := ?vo_w11) (w1 := (wr.setCell ⟨go9, (x4_1 : Int).toNat, none⟩ (.string (rdOf ByteArray.empty l0 x4_1)))) ?hg ?ho ?hn ?hr ?_; (case ho => rfl); (case hg => rfl); (case hn => rfl); (case hr => first | (go_simp; done) | (go_simp; rfl)); intro w11 hw; have hg : wr.grownBy w11 (some go9) := (by rw [hw]; exact HP10.2); have hp_ : Kd.R Kd.string 9 w11 w.heap.size (fun _ => True) (.slice (some ⟨go9, 0, none⟩) x3_1.length co9) y113 := (by rw [hw, Ny113.out]; exact HP10.1); clear HP10; replace HO_3 := Aside0.mk (hp_); replace HB := Aside0.mk ((by rw [hw]; exact below_set (HB.out) GB9.out : Below w.heap.size w w11)); clear hg hw hp_))
        go_roundg k1
        case measure => have := HK1.out; omega
        case rel => exact ⟨(y113), (wrap64 (x4_1 + 1)), (by first | rfl | (simp; done) | (simp [*]; done)), H', ⟨by have := HK1.out; omega⟩, ⟨by (with_reducible repeat (first | apply Kd.R_alloc | apply Kd.R_drewN | apply Kd.R_drew)); exact HO_3.out⟩, ⟨bZ HB⟩⟩
       ·rw [if_neg c8] at H
        exact absurd H (by simp)
      ·rw [if_neg c7] at H
       exact absurd H (by simp)
     ·rw [if_neg c6] at H
      have c6b0 : decide (x4_1 < (l0.length : Int)) = false := decide_eq_false c6
      clear c6
      obtain rfl := Option.some.inj H
      go_wp2
      go_ret
      exact ⟨_, by first | rfl | (simp [errW_none, errW_some] <;> rfl) | (simp [*, errW_none, errW_some] <;> rfl), by (with_reducible repeat (first | apply Kd.R_alloc | apply Kd.R_drewN | apply Kd.R_drew)); exact HO_3.out, bZ HB⟩
  ·rw [if_neg c3] at H
   exact absurd H (by simp)
 ·rw [if_neg c2] at H
  exact absurd H (by simp)
/-! ### laws_szStringS: function 11 -/
def laws_szStringS.l0 : Nat → List ByteArray → Int → Int → Option (Int)
 | 0, _, _, _ => none
 | k + 1, x0, x1, x5 => if x5 < (x0.length : Int) then (if 0 ≤ x5 then (if (wrap64 (x1 - ((rdOf ByteArray.empty x0 x5).size : Int))) < 0 then (some (-1)) else (laws_szStringS.l0 k x0 (wrap64 (x1 - ((rdOf ByteArray.empty x0 x5).size : Int))) (wrap64 (x5 + 1)))) else (none)) else (some x1)
def laws_szStringS.f (k : Nat) (l0 : List ByteArray) (a1 : Int) : Option (Int) := if (wrap64 (a1 - (l0.length : Int))) < 0 then (some (-1)) else (laws_szStringS.l0 k l0 (wrap64 (a1 - (l0.length : Int))) 0)
theorem laws_szStringS.mono_l : ∀ k, (∀ y0 y1 y2, LeO (laws_szStringS.l0 k y0 y1 y2) (laws_szStringS.l0 (k + 1) y0 y1 y2))
 | 0 => fun _ _ _ r h => by simp [laws_szStringS.l0] at h
 | k + 1 => by
  have ih0 := laws_szStringS.mono_l k
  ·intro y0 y1 y2
   unfold laws_szStringS.l0
   repeat' first
   | (with_reducible exact ih0 _ _ _)
   | (with_reducible exact LeO.refl _)
   | (with_reducible exact LeO.none _)
   | (with_reducible refine LeO.ite ?_ ?_)
   | (with_reducible refine LeO.bind ?_ (fun _ => ?_))
   | exact ih0 _ _ _
   | exact LeO.none _
   | refine LeO.ite ?_ ?_
   | refine LeO.bind ?_ (fun _ => ?_)
theorem laws_szStringS.mono : ∀ a0 a1 k, LeO (laws_szStringS.f k a0 a1) (laws_szStringS.f (k + 1) a0 a1) := by
 intro a0 a1 k
 have ih0 := laws_szStringS.mono_l k
 unfold laws_szStringS.f
 repeat' first
   | (with_reducible exact ih0 _ _ _)
   | (with_reducible exact LeO.refl _)
   | (with_reducible exact LeO.none _)
   | (with_reducible refine LeO.ite ?_ ?_)
   | (with_reducible refine LeO.bind ?_ (fun _ => ?_))
   | exact ih0 _ _ _
   | exact LeO.none _
   | refine LeO.ite ?_ ?_
   | refine LeO.bind ?_ (fun _ => ?_)
set_option maxHeartbeats 8000000 in
set_option maxRecDepth 100000 in
theorem laws_szStringS.calls (k : Nat) (A0 : Option Addr) (c0 : Nat) (l0 : List ByteArray) (a1 : Int) (r : Int) (w : World) (hr0 : Kd.C Kd.string w A0 l0.length l0) (hc0 : l0.length ≤ c0) (h : laws_szStringS.f k l0 a1 = some r) :
  Calls Tryd.prog 11 #[.slice A0 l0.length c0, .int .i64 a1] w fun e w' => e = .returned (.int .i64 r) ∧ Drawn0 w w' := by
 have HR0 := Aside0.mk hr0
 have HC0 := Aside0.mk hc0
 clear hr0 hc0
 have H : (if (wrap64 (a1 - (l0.length : Int))) < 0 then (some (-1)) else (laws_szStringS.l0 k l0 (wrap64 (a1 - (l0.length : Int))) 0)) = some r := h
 clear h
 by_cases c3 : (wrap64 (a1 - (l0.length : Int))) < 0
 ·rw [if_pos c3] at H
  have c3b0 : decide ((wrap64 (a1 - (l0.length : Int))) < 0) = true := decide_eq_true c3
  clear c3
  obtain rfl := Option.some.inj H
  go_enter Tryd.func11, Tryd.ntmps11
  go_wp2
  go_ret
  exact ⟨by first | rfl | (simp; done) | (simp [*]; done), by repeat (first | exact Drawn0.refl _ | apply Drawn0.step)⟩
 ·rw [if_neg c3] at H
  have c3b0 : decide ((wrap64 (a1 - (l0.length : Int))) < 0) = false := decide_eq_false c3
  clear c3
  have H' := Aside0.mk H
  clear H
  go_enter Tryd.func11, Tryd.ntmps11
  go_wp2
  go_loopg [1, 5] k (fun kq v1 v5 w' => ∃ (x1_1 : Int) (x5_1 : Int), v1 = .int .i64 x1_1 ∧ v5 = .int .i64 x5_1 ∧ Aside0 (laws_szStringS.l0 kq l0 x1_1 x5_1 = some r) ∧ Aside0 (kq ≤ k) ∧ Drawn0 w w')
  case atStart => exact ⟨(wrap64 (a1 - (l0.length : Int))), (0), (by first | rfl | (simp; done) | (simp [*]; done)), (by first | rfl | (simp; done) | (simp [*]; done)), H', ⟨Nat.le_refl _⟩, by repeat (first | exact Drawn0.refl _ | apply Drawn0.step)⟩
  case round =>
   clear H'
   try clear c1
   try clear p2
   try clear c3
   try clear c3b0
   obtain ⟨x1_1, x5_1, rfl, rfl, HA, HK1, ⟨m1, rfl⟩⟩ := hrel
   cases gk with
   | zero => exact absurd HA.out (by simp [laws_szStringS.l0])
   | succ k1 =>
    have H := HA.out
    clear HA
    simp only [laws_szStringS.l0] at H
    by_cases c4 : x5_1 < (l0.length : Int)
    ·rw [if_pos c4] at H
     have c4b0 : decide (x5_1 < (l0.length : Int)) = true := decide_eq_true c4
     clear c4
     by_cases c5 : 0 ≤ x5_1
     ·rw [if_pos c5] at H
      have c5b0 : decide (0 ≤ x5_1) = true := decide_eq_true c5
      clear c5
      by_cases c6 : (wrap64 (x1_1 - ((rdOf ByteArray.empty l0 x5_1).size : Int))) < 0
      ·rw [if_pos c6] at H
       have c6b0 : decide ((wrap64 (x1_1 - ((rdOf ByteArray.empty l0 x5_1).size : Int))) < 0) = true := decide_eq_true c6
       clear c6
       obtain rfl := Option.some.inj H
       have p101 : 0 ≤ (x5_1 : Int) := of_decide_eq_true (by first | (with_reducible assumption) | assumption)
       have q101 : x5_1 < (l0.length : Int) := of_decide_eq_true (by first | (with_reducible assumption) | assumption)
       obtain ⟨ad101, e101, hx101_0⟩ := Kd.at_string HR0.out x5_1 p101 q101
       cases e101
       replace p101 := eq_true p101
       replace q101 := eq_true q101
       go_wp2
       go_ret
       exact ⟨by first | rfl | (simp; done) | (simp [*]; done), by repeat (first | exact Drawn0.refl _ | apply Drawn0.step)⟩
      ·rw [if_neg c6] at H
       have c6b0 : decide ((wrap64 (x1_1 - ((rdOf ByteArray.empty l0 x5_1).size : Int))) < 0) = false := decide_eq_false c6
       clear c6
       have H' := Aside0.mk H
       clear H
       have p101 : 0 ≤ (x5_1 : Int) := of_decide_eq_true (by first | (with_reducible assumption) | assumption)
       have q101 : x5_1 < (l0.length : Int) := of_decide_eq_true (by first | (with_reducible assumption) | assumption)
       obtain ⟨ad101, e101, hx101_0⟩ := Kd.at_string HR0.out x5_1 p101 q101
       cases e101
       replace p101 := eq_true p101
       replace q101 := eq_true q101
       go_wp2
       go_roundg k1
       case measure => have := HK1.out; omega
       case rel => exact ⟨(wrap64 (x1_1 - ((rdOf ByteArray.empty l0 x5_1).size : Int))), (wrap64 (x5_1 + 1)), (by first | rfl | (simp; done) | (simp [*]; done)), (by first | rfl | (simp; done) | (simp [*]; done)), H', ⟨by have := HK1.out; omega⟩, by repeat (first | exact Drawn0.refl _ | apply Drawn0.step)⟩
     ·rw [if_neg c5] at H
      exact absurd H (by simp)
    ·rw [if_neg c4] at H
     have c4b0 : decide (x5_1 < (l0.length : Int)) = false := decide_eq_false c4
     clear c4
     obtain rfl := Option.some.inj H
     go_wp2
     go_ret
     exact ⟨by first | rfl | (simp; done) | (simp [*]; done), by repeat (first | exact Drawn0.refl _ | apply Drawn0.step)⟩
end Go.Proofs.YtmiiknkfhiecgaaDoor.Pf
end
section
/- What is proved here: what the laws' own helpers over lists of texts answer (equal lists are equal, a copy is the list, the size taken bounds all). No conditions but that a list is no longer than a Go slice can be. -/
set_option linter.unusedVariables false
set_option linter.unusedSimpArgs false
namespace Go.Proofs.YtmiiknkfhiecgaaDoor.Strs
open Go.RowKit Go.Proofs.YtmiiknkfhiecgaaDoor.Pf Go.Proofs.YtmiiknkfhiecgaaDoorW.PrintWords

theorem wrap_in {i : Int} (h0 : -9223372036854775808 ≤ i) (h : i ≤ 9223372036854775807) : wrap64 i = i := by
  unfold wrap64; omega
theorem rdOf_get {xs : List ByteArray} {i : Nat} (h : i < xs.length) : rdOf ByteArray.empty xs (i : Int) = xs[i] := by
  unfold rdOf
  rw [Int.toNat_natCast, List.getD_eq_getElem?_getD, List.getElem?_eq_getElem h]
  rfl

theorem eqStringS_l0 (xs : List ByteArray) (hn : xs.length ≤ 9223372036854775807) (d : Nat) : ∀ (i : Int) (k : Nat), 0 ≤ i → (xs.length : Int) - i = d → d < k → laws_eqStringS.l0 k xs xs i = some true := by
  induction d with
  | zero =>
    intro i k h0 hd hk
    obtain ⟨k, rfl⟩ : ∃ m, k = m + 1 := ⟨k - 1, by omega⟩
    simp only [laws_eqStringS.l0]
    rw [if_neg (by omega)]
  | succ d ih =>
    intro i k h0 hd hk
    obtain ⟨k, rfl⟩ : ∃ m, k = m + 1 := ⟨k - 1, by omega⟩
    simp only [laws_eqStringS.l0]
    rw [if_pos (by omega), if_pos h0, if_pos (by omega), wrap_in (by omega) (by omega), if_pos trivial]
    exact ih (i + 1) k (by omega) (by omega) (by omega)
theorem eqStringS_same (xs : List ByteArray) (hn : xs.length ≤ 9223372036854775807) (k : Nat) (hk : xs.length < k) : laws_eqStringS.f k xs xs = some true := by
  unfold laws_eqStringS.f
  rw [if_pos rfl]
  exact eqStringS_l0 xs hn xs.length 0 k (by omega) (by omega) hk

theorem toStringS_l0 (xs : List ByteArray) (hn : xs.length ≤ 9223372036854775807) (d : Nat) : ∀ (i k : Nat), i + d = xs.length → d < k →
    laws_toStringS.l0 k xs (xs.take i ++ List.replicate d (⟨#[]⟩ : ByteArray)) (i : Int) = some xs := by
  induction d with
  | zero =>
    intro i k hi hk
    obtain ⟨k, rfl⟩ : ∃ m, k = m + 1 := ⟨k - 1, by omega⟩
    simp only [laws_toStringS.l0]
    rw [if_neg (by omega)]
    rw [List.take_of_length_le (by omega)]
    simp
  | succ d ih =>
    intro i k hi hk
    obtain ⟨k, rfl⟩ : ∃ m, k = m + 1 := ⟨k - 1, by omega⟩
    simp only [laws_toStringS.l0]
    rw [if_pos (by omega), if_pos (by omega), if_pos (by simp; omega), Int.toNat_natCast, wrap_in (by omega) (by omega)]
    have h1 : i < xs.length := by omega
    have hs : (xs.take i ++ List.replicate (d + 1) (⟨#[]⟩ : ByteArray)).set i (rdOf ByteArray.empty xs (i : Int)) = xs.take (i + 1) ++ List.replicate d (⟨#[]⟩ : ByteArray) := by
      rw [List.set_append_right _ _ (by simp; omega), rdOf_get h1]
      rw [List.take_succ_eq_append_getElem h1, List.length_take, Nat.min_eq_left (by omega), Nat.sub_self, List.replicate_succ, List.set_cons_zero]
      rw [List.append_assoc, List.singleton_append]
    rw [hs, show (i : Int) + 1 = ((i + 1 : Nat) : Int) by omega]
    exact ih (i + 1) k (by omega) (by omega)
theorem toStringS_f (xs : List ByteArray) (hn : xs.length ≤ 17592186044416) (k : Nat) (hk : xs.length < k) : laws_toStringS.f k xs = some xs := by
  unfold laws_toStringS.f
  rw [if_pos (by omega), Int.toNat_natCast, if_pos hn]
  have h := toStringS_l0 xs (by omega) xs.length 0 k (by omega) hk
  simpa using h

def total (xs : List ByteArray) : Nat := (xs.map ByteArray.size).sum
theorem total_cons (x : ByteArray) (xs : List ByteArray) : total (x :: xs) = x.size + total xs := by simp [total]
theorem total_mem {x : ByteArray} {xs : List ByteArray} (h : x ∈ xs) : x.size ≤ total xs := by
  induction xs with
  | nil => simp at h
  | cons y ys ih =>
    rw [total_cons]
    rcases List.mem_cons.1 h with rfl | h
    · omega
    · have := ih h; omega
theorem szStringS_l0 (xs : List ByteArray) (hn : xs.length ≤ 9223372036854775807) (hs : ∀ y ∈ xs, y.size ≤ 9223372036854775807) (d : Nat) : ∀ (i k : Nat) (left : Int), i + d = xs.length → d < k → 0 ≤ left → left ≤ 1048576 →
    ∃ r, laws_szStringS.l0 k xs left (i : Int) = some r ∧ (r < 0 ∨ (r = left - total (xs.drop i))) := by
  induction d with
  | zero =>
    intro i k left hi hk h0 h1
    obtain ⟨k, rfl⟩ : ∃ m, k = m + 1 := ⟨k - 1, by omega⟩
    simp only [laws_szStringS.l0]
    rw [if_neg (by omega)]
    refine ⟨_, rfl, Or.inr ?_⟩
    rw [List.drop_of_length_le (by omega)]
    simp [total]
  | succ d ih =>
    intro i k left hi hk h0 h1
    obtain ⟨k, rfl⟩ : ∃ m, k = m + 1 := ⟨k - 1, by omega⟩
    have h2 : i < xs.length := by omega
    have h3 := hs xs[i] (List.getElem_mem h2)
    simp only [laws_szStringS.l0]
    rw [if_pos (by omega), if_pos (by omega), rdOf_get h2, wrap_in (by omega) (by omega), wrap_in (by omega) (by omega)]
    by_cases c : left - (xs[i].size : Int) < 0
    · rw [if_pos c]
      exact ⟨_, rfl, Or.inl (by decide)⟩
    · rw [if_neg c, show (i : Int) + 1 = ((i + 1 : Nat) : Int) by omega]
      obtain ⟨r, hr, hr2⟩ := ih (i + 1) k (left - xs[i].size) (by omega) (by omega) (by omega) (by omega)
      refine ⟨r, hr, ?_⟩
      rcases hr2 with h | h
      · exact Or.inl h
      · right
        rw [List.drop_eq_getElem_cons h2, total_cons]
        omega
theorem szStringS_f (xs : List ByteArray) (hn : xs.length ≤ 9223372036854775807) (hs : ∀ y ∈ xs, y.size ≤ 9223372036854775807) (k : Nat) (hk : 1048577 < k) :
    ∃ r, laws_szStringS.f k xs 1048576 = some r ∧ (r < 0 ∨ ((xs.length : Int) + total xs ≤ 1048576)) := by
  unfold laws_szStringS.f
  rw [wrap_in (by omega) (by omega)]
  by_cases c : (1048576 : Int) - (xs.length : Int) < 0
  · rw [if_pos c]
    exact ⟨_, rfl, Or.inl (by decide)⟩
  · rw [if_neg c]
    obtain ⟨r, hr, hr2⟩ := szStringS_l0 xs hn hs xs.length 0 k (1048576 - xs.length) (by omega) (by omega) (by omega) (by omega)
    refine ⟨r, hr, ?_⟩
    rw [List.drop_zero] at hr2
    rcases hr2 with h | h
    · exact Or.inl h
    · by_cases c2 : r < 0
      · exact Or.inl c2
      · right; omega
end Go.Proofs.YtmiiknkfhiecgaaDoor.Strs
end
section
/- What is proved here: what FoldBranch answers, as the program and as the reference write it. No conditions but that the texts are no longer than 2^20 bytes. -/
set_option linter.unusedVariables false
set_option linter.unusedSimpArgs false
namespace Go.Proofs.YtmiiknkfhiecgaaDoor.Tree
open Go.RowKit Go.Proofs.YtmiiknkfhiecgaaDoor.Pf Go.Proofs.YtmiiknkfhiecgaaDoorW.PrintWords Go.Proofs.YtmiiknkfhiecgaaDoor.Strs
def jb (n i : Nat) : Bool := n / 2 ^ i % 2 == 1
theorem bit_dec : ∀ n : Nat, n < 32 → ∀ i : Nat, i < 5 → 0 ≤ IntKind.u64.wrap (i : Int) ∧ (Go.bits .and .i64 (shr .i64 (n : Int) (IntKind.u64.wrap (i : Int))) 1 = 1 ↔ jb n i = true) ∧ (Int.tmod (shr .i64 (n : Int) (IntKind.u64.wrap (i : Int))) 2 = 1 ↔ jb n i = true) := by decide +kernel
theorem shl_dec : ∀ n : Nat, n < 6 → 0 ≤ IntKind.u64.wrap (n : Int) ∧ shl .i64 1 (IntKind.u64.wrap (n : Int)) = ((2 ^ n : Nat) : Int) ∧ wrap64 (((2 ^ n : Nat) : Int) - 1) = ((2 ^ n : Nat) : Int) - 1 := by decide +kernel
/-- The node above x, by way of the texts beside. -/
def up (n : Nat) : ByteArray → List ByteArray → Nat → ByteArray
  | x, [], _ => x
  | x, b :: bs, k => up n (if jb n k then D (b ++ x) else D (x ++ b)) bs (k + 1)
theorem up_size (n : Nat) (bs : List ByteArray) : ∀ (x : ByteArray) (k : Nat), x.size = 32 → (up n x bs k).size = 32 := by
  induction bs with
  | nil => intro x k h; exact h
  | cons b bs ih => intro x k h; exact ih _ _ (by split <;> exact D_size _)
def foldB (leaf : ByteArray) (i : Int) (bs : List ByteArray) : ByteArray := if bs.length ≤ 5 ∧ 0 ≤ i ∧ i < ((2 ^ bs.length : Nat) : Int) then up i.toNat (D leaf) bs 0 else ByteArray.empty
theorem impl_l0 (n : Nat) (hn : n < 32) (l : List ByteArray) (hl : l.length ≤ 5) (hs : ∀ y ∈ l, y.size ≤ 1048576) (d : Nat) : ∀ (i k : Nat) (x : ByteArray), i + d = l.length → d < k → x.size = 32 →
    impl_FoldBranch.l0 k (n : Int) x l (l.length : Int) (i : Int) = some (up n x (l.drop i) i) := by
  induction d with
  | zero =>
    intro i k x hi hk hx
    obtain ⟨k, rfl⟩ : ∃ m, k = m + 1 := ⟨k - 1, by omega⟩
    simp only [impl_FoldBranch.l0]
    rw [if_neg (by omega), List.drop_of_length_le (by omega)]
    rfl
  | succ d ih =>
    intro i k x hi hk hx
    obtain ⟨k, rfl⟩ : ∃ m, k = m + 1 := ⟨k - 1, by omega⟩
    have h2 : i < l.length := by omega
    have h3 := hs l[i] (List.getElem_mem h2)
    obtain ⟨b0, b1, _⟩ := bit_dec n hn i (by omega)
    simp only [impl_FoldBranch.l0]
    rw [if_pos (by omega), if_pos (by omega), if_pos (by omega), if_pos b0, rdOf_get h2, wrap_in (by omega) (by omega), List.drop_eq_getElem_cons h2, show (i : Int) + 1 = ((i + 1 : Nat) : Int) by omega]
    by_cases c : jb n i = true
    · rw [if_pos (b1.2 c), impl_pair (by omega) (by omega), Option.bind_some, ih (i + 1) k _ (by omega) (by omega) (D_size _)]
      simp only [up, c, if_true]
    · rw [if_neg (fun e => c (b1.1 e)), impl_pair (by omega) (by omega), Option.bind_some, ih (i + 1) k _ (by omega) (by omega) (D_size _)]
      simp only [up]
      rw [if_neg c]
theorem spec_l0 (n : Nat) (hn : n < 32) (l : List ByteArray) (hl : l.length ≤ 5) (hs : ∀ y ∈ l, y.size ≤ 1048576) (d : Nat) : ∀ (i k : Nat) (x : ByteArray), i + d = l.length → d < k → x.size = 32 →
    spec_FoldBranch.l0 k (n : Int) l x (i : Int) = some (up n x (l.drop i) i) := by
  induction d with
  | zero =>
    intro i k x hi hk hx
    obtain ⟨k, rfl⟩ : ∃ m, k = m + 1 := ⟨k - 1, by omega⟩
    simp only [spec_FoldBranch.l0]
    rw [if_neg (by omega), List.drop_of_length_le (by omega)]
    rfl
  | succ d ih =>
    intro i k x hi hk hx
    obtain ⟨k, rfl⟩ : ∃ m, k = m + 1 := ⟨k - 1, by omega⟩
    have h2 : i < l.length := by omega
    have h3 := hs l[i] (List.getElem_mem h2)
    obtain ⟨b0, _, b1⟩ := bit_dec n hn i (by omega)
    simp only [spec_FoldBranch.l0]
    rw [if_pos (by omega), if_pos b0, if_pos (show (0 : Int) ≤ (i : Int) by omega), rdOf_get h2, wrap_in (by omega) (by omega), List.drop_eq_getElem_cons h2, show (i : Int) + 1 = ((i + 1 : Nat) : Int) by omega]
    by_cases c : jb n i = true
    · rw [if_pos (b1.2 c), spec_pair (by omega) (by omega), Option.bind_some, ih (i + 1) k _ (by omega) (by omega) (D_size _)]
      simp only [up, c, if_true]
    · rw [if_neg (fun e => c (b1.1 e)), if_pos (show (0 : Int) ≤ (i : Int) by omega), spec_pair (by omega) (by omega), Option.bind_some, ih (i + 1) k _ (by omega) (by omega) (D_size _)]
      simp only [up]
      rw [if_neg c]
theorem pow_small {n : Nat} (h : n ≤ 5) : 1 ≤ 2 ^ n ∧ 2 ^ n ≤ 32 := by
  have : ∀ m : Nat, m < 6 → 1 ≤ 2 ^ m ∧ 2 ^ m ≤ 32 := by decide
  exact this n (by omega)
theorem impl_fold (k : Nat) (hk : 8 < k) (leaf : ByteArray) (i : Int) (l : List ByteArray) (h0 : leaf.size ≤ 10000000) (hs : ∀ y ∈ l, y.size ≤ 1048576) : impl_FoldBranch.f k leaf i l = some (foldB leaf i l) := by
  obtain ⟨k, rfl⟩ : ∃ m, k = m + 1 := ⟨k - 1, by omega⟩
  have fj : impl_FoldBranch.j0 (k + 1) leaf i l true = some ByteArray.empty := by simp only [impl_FoldBranch.j0, if_true]; rfl
  unfold impl_FoldBranch.f foldB
  by_cases c1 : l.length ≤ 5
  case neg => rw [if_pos (by omega), fj, if_neg (by omega)]
  rw [if_neg (by omega)]
  by_cases c2 : i < 0
  · rw [if_pos c2, fj, if_neg (by omega)]
  obtain ⟨b0, b1, _⟩ := shl_dec l.length (by omega)
  rw [if_neg c2, if_pos b0, b1]
  have hp := pow_small c1
  generalize 2 ^ l.length = P at hp
  by_cases c3 : i < (P : Int)
  case neg => rw [decide_eq_true (by omega), fj, if_neg (by omega)]
  rw [decide_eq_false (by omega), if_pos ⟨c1, by omega, c3⟩]
  simp only [impl_FoldBranch.j0]
  rw [if_neg (by decide), impl_D (by omega), Option.bind_some]
  obtain ⟨n, rfl⟩ : ∃ n : Nat, i = (n : Int) := ⟨i.toNat, by omega⟩
  exact impl_l0 n (by omega) l c1 hs l.length 0 k (D leaf) (by omega) (by omega) (D_size _)
theorem l01In_f (a b c : Int) : spec_l01In.f a b c = some (decide (b ≤ a ∧ a ≤ c)) := by
  unfold spec_l01In.f
  by_cases h : a ≥ b
  · rw [if_pos h]; congr 1; apply decide_eq_decide.2; omega
  · rw [if_neg h, decide_eq_false (by omega)]
theorem spec_fold (k : Nat) (hk : 8 < k) (leaf : ByteArray) (i : Int) (l : List ByteArray) (h0 : leaf.size ≤ 10000000) (hs : ∀ y ∈ l, y.size ≤ 1048576) : spec_FoldBranch.f k leaf i l = some (foldB leaf i l) := by
  obtain ⟨k, rfl⟩ : ∃ m, k = m + 1 := ⟨k - 1, by omega⟩
  have fj : spec_FoldBranch.j0 (k + 1) leaf i l true = some ByteArray.empty := by simp only [spec_FoldBranch.j0, if_true]; rfl
  unfold spec_FoldBranch.f foldB
  by_cases c1 : l.length ≤ 5
  case neg => rw [if_pos (by omega), fj, if_neg (by omega)]
  obtain ⟨b0, b1, b2⟩ := shl_dec l.length (by omega)
  rw [if_neg (by omega), if_pos b0, b1, b2, l01In_f, Option.bind_some]
  have hp := pow_small c1
  generalize 2 ^ l.length = P at hp
  by_cases c3 : 0 ≤ i ∧ i < (P : Int)
  case neg => rw [decide_eq_false (by omega), Bool.not_false, fj, if_neg (by omega)]
  rw [decide_eq_true (by omega), Bool.not_true, if_pos ⟨c1, by omega, by omega⟩]
  simp only [spec_FoldBranch.j0]
  rw [if_neg (by decide), spec_D (by omega), Option.bind_some]
  obtain ⟨n, rfl⟩ : ∃ n : Nat, i = (n : Int) := ⟨i.toNat, by omega⟩
  exact spec_l0 n (by omega) l c1 hs l.length 0 k (D leaf) (by omega) (by omega) (D_size _)
end Go.Proofs.YtmiiknkfhiecgaaDoor.Tree
end
section
/- What is proved here: the levels of a tree of digests, its root and its branches, as the program and as the reference write them. No conditions but that there are 32 leaves at most, none longer than 2^20 bytes. -/
set_option linter.unusedVariables false
set_option linter.unusedSimpArgs false
namespace Go.Proofs.YtmiiknkfhiecgaaDoor.Tree
open Go.RowKit Go.Proofs.YtmiiknkfhiecgaaDoor.Pf Go.Proofs.YtmiiknkfhiecgaaDoorW.PrintWords Go.Proofs.YtmiiknkfhiecgaaDoor.Strs
abbrev BA := ByteArray
/-- The digests of the pairs. -/
def up1 : List BA → List BA
  | a :: b :: r => D (a ++ b) :: up1 r
  | _ => []
theorem up1_length : ∀ (n : Nat) (x : List BA), x.length = 2 * n → (up1 x).length = n
  | 0, [], _ => rfl
  | n + 1, a :: b :: r, h => by
    have := up1_length n r (by simp only [List.length_cons] at h; omega)
    simp [up1, this]
theorem up1_get : ∀ (n : Nat) (x : List BA), x.length = 2 * n → ∀ i (h : i < n) (h1 : i < (up1 x).length) (h2 : 2 * i < x.length) (h3 : 2 * i + 1 < x.length), (up1 x)[i] = D (x[2 * i] ++ x[2 * i + 1])
  | 0, _, _, i, h, _, _, _ => by omega
  | n + 1, a :: b :: r, hl, i, h, h1, h2, h3 => by
    match i with
    | 0 => rfl
    | i + 1 =>
      have hl' : r.length = 2 * n := by simp only [List.length_cons] at hl; omega
      have e := up1_get n r hl' i (by omega) (by rw [up1_length n r hl']; omega) (by omega) (by omega)
      simp only [up1, List.getElem_cons_succ]
      rw [e]
      simp only [show 2 * (i + 1) = 2 * i + 1 + 1 by omega, List.getElem_cons_succ]
theorem up1_size : ∀ (n : Nat) (x : List BA), x.length = 2 * n → ∀ y ∈ up1 x, y.size = 32
  | 0, [], _, y, hy => by simp [up1] at hy
  | n + 1, a :: b :: r, h, y, hy => by
    simp only [up1, List.mem_cons] at hy
    rcases hy with rfl | hy
    · exact D_size _
    · exact up1_size n r (by simp only [List.length_cons] at h; omega) y hy
def levels : Nat → List BA → List (List BA)
  | 0, x => [x]
  | j + 1, x => x :: levels j (up1 x)
def tops : Nat → List BA → List BA
  | 0, x => x
  | j + 1, x => tops j (up1 x)
def lows : Nat → List BA → List (List BA)
  | 0, _ => []
  | j + 1, x => x :: lows j (up1 x)
theorem levels_split (j : Nat) : ∀ x, levels j x = lows j x ++ [tops j x] := by
  induction j with
  | zero => intro x; rfl
  | succ j ih => intro x; simp only [levels, lows, tops, ih, List.cons_append]
theorem lows_length (j : Nat) : ∀ x, (lows j x).length = j := by
  induction j with
  | zero => intro x; rfl
  | succ j ih => intro x; simp only [lows, List.length_cons, ih]
theorem tops_length (j : Nat) : ∀ x : List BA, x.length = 2 ^ j → (tops j x).length = 1 := by
  induction j with
  | zero => intro x h; exact h
  | succ j ih => intro x h; exact ih _ (up1_length (2 ^ j) x (by rw [h, Nat.pow_succ]; omega))
theorem tops_size (j : Nat) : ∀ x : List BA, x.length = 2 ^ j → (∀ y ∈ x, y.size = 32) → ∀ y ∈ tops j x, y.size = 32 := by
  induction j with
  | zero => intro x h hs; exact hs
  | succ j ih => intro x h hs; have hl : x.length = 2 * 2 ^ j := by (rw [h, Nat.pow_succ]; omega)
                 exact ih _ (up1_length (2 ^ j) x hl) (up1_size (2 ^ j) x hl)
theorem l3_up (k : Nat) (x6 : List (List BA)) (x3 : List BA) (n : Nat) (hn : x3.length = 2 * n) (hn2 : n ≤ 1000) (hs : ∀ y ∈ x3, y.size = 32) (h6 : x6.length ≤ 1000) (d : Nat) : ∀ i, i + d = n →
    impl_levelsOfTree.l3 (k + d + 1) x6 x3 ((up1 x3).take i) ((2 * i : Nat) : Int) = impl_levelsOfTree.l2 k (x6 ++ [up1 x3]) (up1 x3) := by
  have hl := up1_length n x3 hn
  induction d with
  | zero =>
    intro i hi
    simp only [impl_levelsOfTree.l3, Nat.add_zero]
    rw [if_neg (by omega), if_pos (by omega), List.take_of_length_le (by omega)]
  | succ d ih =>
    intro i hi
    have h1 : 2 * i < x3.length := by omega
    have h2 : 2 * i + 1 < x3.length := by omega
    rw [show k + (d + 1) + 1 = (k + d + 1) + 1 by omega]
    simp only [impl_levelsOfTree.l3]
    have e1 : wrap64 (((2 * i : Nat) : Int) + 1) = ((2 * i + 1 : Nat) : Int) := by rw [wrap_in (by omega) (by omega)]; omega
    have e2 : wrap64 (((2 * i : Nat) : Int) + 2) = ((2 * (i + 1) : Nat) : Int) := by rw [wrap_in (by omega) (by omega)]; omega
    rw [if_pos (by omega), if_pos (by omega), e1, if_pos (by omega), if_pos (by omega), rdOf_get h1, rdOf_get h2, impl_pair (by rw [hs _ (List.getElem_mem h1)]; omega) (by rw [hs _ (List.getElem_mem h2)]; omega), Option.bind_some,
      if_pos (by rw [List.length_take]; omega), e2]
    have hg := up1_get n x3 hn i (by omega) (by omega) h1 h2
    rw [← hg, ← List.take_succ_eq_append_getElem (by omega)]
    exact ih (i + 1) (by omega)
theorem l2_levels (j : Nat) : ∀ (pre : List (List BA)) (x : List BA), j ≤ 5 → x.length = 2 ^ j → pre.length + j ≤ 100 → (∀ y ∈ x, y.size = 32) → ∀ k, 40 * (j + 1) ≤ k → impl_levelsOfTree.l2 k (pre ++ [x]) x = some (pre ++ levels j x) := by
  induction j with
  | zero =>
    intro pre x hj hx hp hs k hk
    obtain ⟨k, rfl⟩ : ∃ m, k = m + 1 := ⟨k - 1, by omega⟩
    simp only [impl_levelsOfTree.l2]
    rw [if_neg (by rw [hx]; decide)]
    rfl
  | succ j ih =>
    intro pre x hj hx hp hs k hk
    have hpj := pow_small (show j ≤ 5 by omega)
    have hx2 : x.length = 2 * 2 ^ j := by rw [hx, Nat.pow_succ]; omega
    obtain ⟨k, rfl⟩ : ∃ m, k = (m + 2 ^ j + 1) + 1 := ⟨k - 2 ^ j - 2, by omega⟩
    simp only [impl_levelsOfTree.l2]
    rw [if_pos (by omega)]
    have h3 := l3_up k (pre ++ [x]) x (2 ^ j) hx2 (by omega) hs (by simp; omega) (2 ^ j) 0 (by omega)
    rw [List.take_zero] at h3
    have h3' : impl_levelsOfTree.l3 (k + 2 ^ j + 1) (pre ++ [x]) x [] 0 = impl_levelsOfTree.l2 k (pre ++ [x] ++ [up1 x]) (up1 x) := h3
    rw [h3', ih (pre ++ [x]) (up1 x) (by omega) (up1_length _ _ hx2) (by simp; omega) (up1_size _ _ hx2) k (by omega)]
    simp [levels]
/-- The least power of two that is no less than n (and 1 for 0), for n ≤ 32; its exponent. -/
def lg (n : Nat) : Nat := if n ≤ 1 then 0 else if n ≤ 2 then 1 else if n ≤ 4 then 2 else if n ≤ 8 then 3 else if n ≤ 16 then 4 else 5
theorem np_facts : ∀ m : Nat, m < 33 → m ≤ 2 ^ lg m ∧ lg m ≤ 5 ∧ (m ≠ 0 → ((Go.bits .and .i64 (m : Int) (wrap64 ((m : Int) - 1))) = 0 ↔ 2 ^ lg m = m)) ∧ (2 ^ lg m ≠ m → lg (m + 1) = lg m) := by decide +kernel
def hashes (l : List BA) : List BA := l.map D ++ List.replicate (2 ^ lg l.length - l.length) (D ByteArray.empty)
theorem hashes_length {l : List BA} (h : l.length ≤ 32) : (hashes l).length = 2 ^ lg l.length := by
  have := (np_facts l.length (by omega)).1
  simp [hashes]; omega
theorem hashes_size (l : List BA) : ∀ y ∈ hashes l, y.size = 32 := by
  intro y hy
  unfold hashes at hy
  rcases List.mem_append.1 hy with hy | hy
  · obtain ⟨z, _, rfl⟩ := List.mem_map.1 hy
    exact D_size _
  · rw [(List.mem_replicate.1 hy).2]
    exact D_size _
theorem l1_pad (k : Nat) (d : Nat) : ∀ (x : List BA), x.length ≤ 32 → x.length + d = 2 ^ lg x.length → impl_levelsOfTree.l1 (k + d + 1) x = impl_levelsOfTree.l2 k [x ++ List.replicate d (D ByteArray.empty)] (x ++ List.replicate d (D ByteArray.empty)) := by
  induction d with
  | zero =>
    intro x hx hd
    obtain ⟨_, _, h1, _⟩ := np_facts x.length (by omega)
    have h0 : x.length ≠ 0 := by intro e; rw [e] at hd; exact absurd hd (by decide)
    simp only [impl_levelsOfTree.l1, Nat.add_zero]
    rw [if_neg (by omega), if_pos ((h1 h0).2 (by omega))]
    simp
  | succ d ih =>
    intro x hx hd
    obtain ⟨_, h5, h1, h2⟩ := np_facts x.length (by omega)
    have hp := pow_small h5
    have e2 := h2 (by omega)
    have hr : x ++ List.replicate (d + 1) (D ByteArray.empty) = (x ++ [D ByteArray.empty]) ++ List.replicate d (D ByteArray.empty) := by
      rw [List.replicate_succ, List.append_assoc, List.singleton_append]
    have hl : (x ++ [D ByteArray.empty]).length = x.length + 1 := by simp
    have hi := ih (x ++ [D ByteArray.empty]) (by omega) (by rw [hl, e2]; omega)
    rw [show k + (d + 1) + 1 = (k + d + 1) + 1 by omega, impl_levelsOfTree.l1]
    have hD : impl_Digest.f (⟨#[]⟩ : ByteArray) = some (D ByteArray.empty) := impl_D (t := ByteArray.empty) (by decide)
    have hx8 : x.length < 8796093022208 := by omega
    rw [hr, ← hi]
    have hc : ∀ a b : Option (List (List BA)), (if (x.length : Int) = 0 then a else if (Go.bits .and .i64 (x.length : Int) (wrap64 ((x.length : Int) - 1))) = 0 then b else a) = a := by
      intro a b
      by_cases c : (x.length : Int) = 0
      · rw [if_pos c]
      · rw [if_neg c, if_neg (fun e => by have := (h1 (by omega)).1 e; omega)]
    rw [hD, Option.bind_some, if_pos hx8, hc]
theorem l0_map (k : Nat) (l : List BA) (hl : l.length ≤ 32) (hs : ∀ y ∈ l, y.size ≤ 1048576) (d : Nat) : ∀ i, i + d = l.length → impl_levelsOfTree.l0 (k + d + 1) ((l.take i).map D) l (l.length : Int) (i : Int) = impl_levelsOfTree.l1 k (l.map D) := by
  induction d with
  | zero =>
    intro i hi
    simp only [impl_levelsOfTree.l0, Nat.add_zero]
    rw [if_neg (by omega), List.take_of_length_le (by omega)]
  | succ d ih =>
    intro i hi
    have h1 : i < l.length := by omega
    have h2 := hs _ (List.getElem_mem h1)
    rw [show k + (d + 1) + 1 = (k + d + 1) + 1 by omega, impl_levelsOfTree.l0]
    rw [if_pos (by omega), if_pos (by omega), if_pos (by omega), rdOf_get h1, impl_D (by omega), Option.bind_some, if_pos (by simp; omega), wrap_in (by omega) (by omega), show (i : Int) + 1 = ((i + 1 : Nat) : Int) by omega, ← ih (i + 1) (by omega),
      List.take_succ_eq_append_getElem h1, List.map_append, List.map_singleton]
theorem levels_f (k : Nat) (hk : 400 ≤ k) (l : List BA) (hl : l.length ≤ 32) (hs : ∀ y ∈ l, y.size ≤ 1048576) : impl_levelsOfTree.f k l = some (levels (lg l.length) (hashes l)) := by
  obtain ⟨h1, h2, _, _⟩ := np_facts l.length (by omega)
  have hp := pow_small h2
  obtain ⟨m, rfl⟩ : ∃ m, k = ((m + (2 ^ lg l.length - l.length) + 1) + l.length) + 1 := ⟨k - 2 - l.length - (2 ^ lg l.length - l.length), by omega⟩
  unfold impl_levelsOfTree.f
  have h3 := l0_map (m + (2 ^ lg l.length - l.length) + 1) l hl hs l.length 0 (by omega)
  have h3' : impl_levelsOfTree.l0 ((m + (2 ^ lg l.length - l.length) + 1) + l.length + 1) [] l (l.length : Int) 0 = impl_levelsOfTree.l1 (m + (2 ^ lg l.length - l.length) + 1) (l.map D) := h3
  have hm : (l.map D).length = l.length := List.length_map D
  rw [h3', l1_pad m (2 ^ lg l.length - l.length) (l.map D) (by omega) (by rw [hm]; omega)]
  exact l2_levels (lg l.length) [] (hashes l) h2 (hashes_length hl) (by simp; omega) (hashes_size l) m (by omega)
def root (l : List BA) : BA := if l.length ≤ 32 then rdOf ByteArray.empty (tops (lg l.length) (hashes l)) 0 else ByteArray.empty
theorem rd_last (a : List (List BA)) (b : List BA) : rd_L2 (a ++ [b]) ((a.length : Nat) : Int) = b := by
  unfold rd_L2
  simp
theorem impl_root (k : Nat) (hk : 400 ≤ k) (l : List BA) (hs : ∀ y ∈ l, y.size ≤ 1048576) : impl_RootOf.f k l = some (root l) := by
  unfold impl_RootOf.f root
  by_cases c : l.length ≤ 32
  case neg => rw [if_pos (by omega), if_neg c]; rfl
  rw [if_neg (by omega), if_pos c, levels_f k hk l c hs, Option.bind_some, levels_split]
  obtain ⟨h1, h2, _, _⟩ := np_facts l.length (by omega)
  have e1 : (lows (lg l.length) (hashes l) ++ [tops (lg l.length) (hashes l)]).length = lg l.length + 1 := by rw [List.length_append, lows_length]; rfl
  have e2 : wrap64 ((((lows (lg l.length) (hashes l) ++ [tops (lg l.length) (hashes l)]).length : Nat) : Int) - 1) = (((lows (lg l.length) (hashes l)).length : Nat) : Int) := by
    rw [e1, lows_length, wrap_in (by omega) (by omega)]; omega
  rw [e2, rd_last, if_pos (by omega), if_pos (by rw [e1, lows_length]; omega), if_pos (by rw [tops_length _ _ (hashes_length c)]; decide)]
theorem root_size {l : List BA} (h : l.length ≤ 32) : (root l).size = 32 := by
  unfold root
  rw [if_pos h]
  have h1 := tops_length _ _ (hashes_length h)
  have h2 : (0 : Nat) < (tops (lg l.length) (hashes l)).length := by omega
  have e : rdOf ByteArray.empty (tops (lg l.length) (hashes l)) 0 = _ := rdOf_get (i := 0) h2
  rw [e]
  exact tops_size _ _ (hashes_length h) (hashes_size l) _ (List.getElem_mem h2)
-- the reference
theorem spec_up (x0 : List BA) (n : Nat) (hn : x0.length = 2 * n) (hn2 : n ≤ 1000) (hs : ∀ y ∈ x0, y.size = 32) (d : Nat) : ∀ i k, i + d = n → d < k → spec_l10Up.l0 k x0 ((up1 x0).take i) ((2 * i : Nat) : Int) = some (up1 x0) := by
  have hl := up1_length n x0 hn
  induction d with
  | zero =>
    intro i k hi hk
    obtain ⟨k, rfl⟩ : ∃ m, k = m + 1 := ⟨k - 1, by omega⟩
    simp only [spec_l10Up.l0]
    rw [wrap_in (by omega) (by omega), if_neg (by omega), List.take_of_length_le (by omega)]
  | succ d ih =>
    intro i k hi hk
    obtain ⟨k, rfl⟩ : ∃ m, k = m + 1 := ⟨k - 1, by omega⟩
    have h1 : 2 * i < x0.length := by omega
    have h2 : 2 * i + 1 < x0.length := by omega
    simp only [spec_l10Up.l0]
    have e1 : wrap64 (((2 * i : Nat) : Int) + 1) = ((2 * i + 1 : Nat) : Int) := by rw [wrap_in (by omega) (by omega)]; omega
    have e2 : wrap64 (((2 * i : Nat) : Int) + 2) = ((2 * (i + 1) : Nat) : Int) := by rw [wrap_in (by omega) (by omega)]; omega
    rw [e1, if_pos (by omega), if_pos (by omega), if_pos (by omega), if_pos (by omega), rdOf_get h1, rdOf_get h2, spec_pair (by rw [hs _ (List.getElem_mem h1)]; omega) (by rw [hs _ (List.getElem_mem h2)]; omega), Option.bind_some,
      if_pos (by rw [List.length_take]; omega), e2]
    have hg := up1_get n x0 hn i (by omega) (by omega) h1 h2
    rw [← hg, ← List.take_succ_eq_append_getElem (by omega)]
    exact ih (i + 1) k (by omega) (by omega)
theorem spec_up_f (k : Nat) (x0 : List BA) (n : Nat) (hn : x0.length = 2 * n) (hn2 : n ≤ 1000) (hs : ∀ y ∈ x0, y.size = 32) (hk : n < k) : spec_l10Up.f k x0 = some (up1 x0) := by
  have h := spec_up x0 n hn hn2 hs n 0 k (by omega) hk
  unfold spec_l10Up.f
  exact h
theorem lev_dec : ∀ n : Nat, n < 33 → spec_LevelsOf.f 10 (n : Int) = some ((lg n : Nat) : Int) ∧ 0 ≤ IntKind.u64.wrap ((lg n : Nat) : Int) ∧ shl .i64 1 (IntKind.u64.wrap ((lg n : Nat) : Int)) = ((2 ^ lg n : Nat) : Int) := by decide +kernel
theorem spec_lev (k : Nat) (hk : 10 ≤ k) (n : Nat) (hn : n ≤ 32) : spec_LevelsOf.f k (n : Int) = some ((lg n : Nat) : Int) :=
  at_rounds (g := fun k => spec_LevelsOf.f k (n : Int)) (fun k => spec_LevelsOf.mono (n : Int) k) hk (lev_dec n (by omega)).1
theorem spec_l1 (l : List BA) (hl : l.length ≤ 32) (d : Nat) : ∀ (x : List BA) (k : Nat), x.length + d = 2 ^ lg l.length → 40 + d ≤ k → spec_l10Hashes.l1 k l x (D ByteArray.empty) = some (x ++ List.replicate d (D ByteArray.empty)) := by
  obtain ⟨_, b0, b1⟩ := lev_dec l.length (by omega)
  have hp := pow_small (np_facts l.length (by omega)).2.1
  induction d with
  | zero =>
    intro x k hx hk
    obtain ⟨k, rfl⟩ : ∃ m, k = m + 1 := ⟨k - 1, by omega⟩
    simp only [spec_l10Hashes.l1]
    rw [spec_lev k (by omega) _ hl, Option.bind_some, if_pos b0, b1, if_neg (by omega)]
    simp
  | succ d ih =>
    intro x k hx hk
    obtain ⟨k, rfl⟩ : ∃ m, k = m + 1 := ⟨k - 1, by omega⟩
    simp only [spec_l10Hashes.l1]
    rw [spec_lev k (by omega) _ hl, Option.bind_some, if_pos b0, b1, if_pos (by omega), if_pos (by omega), ih (x ++ [D ByteArray.empty]) k (by simp; omega) (by omega), List.replicate_succ, List.append_assoc, List.singleton_append]
theorem spec_l0h (l : List BA) (hl : l.length ≤ 32) (hs : ∀ y ∈ l, y.size ≤ 1048576) (d : Nat) : ∀ i k, i + d = l.length → 100 + d ≤ k → spec_l10Hashes.l0 k l ((l.take i).map D) (i : Int) = some (hashes l) := by
  induction d with
  | zero =>
    intro i k hi hk
    obtain ⟨k, rfl⟩ : ∃ m, k = m + 1 := ⟨k - 1, by omega⟩
    have h1 := np_facts l.length (by omega)
    have hp := pow_small h1.2.1
    have hD : spec_Digest.f (⟨#[]⟩ : ByteArray) = some (D ByteArray.empty) := spec_D (t := ByteArray.empty) (by decide)
    simp only [spec_l10Hashes.l0]
    rw [if_neg (by omega), List.take_of_length_le (by omega), hD, Option.bind_some, spec_l1 l hl (2 ^ lg l.length - l.length) _ k (by rw [List.length_map]; omega) (by omega)]
    rfl
  | succ d ih =>
    intro i k hi hk
    obtain ⟨k, rfl⟩ : ∃ m, k = m + 1 := ⟨k - 1, by omega⟩
    have h1 : i < l.length := by omega
    have h2 := hs _ (List.getElem_mem h1)
    simp only [spec_l10Hashes.l0]
    rw [if_pos (by omega), if_pos (by omega), rdOf_get h1, spec_D (by omega), Option.bind_some, if_pos (by simp; omega), wrap_in (by omega) (by omega), show (i : Int) + 1 = ((i + 1 : Nat) : Int) by omega, ← ih (i + 1) k (by omega) (by omega),
      List.take_succ_eq_append_getElem h1, List.map_append, List.map_singleton]
theorem spec_hashes (k : Nat) (hk : 200 ≤ k) (l : List BA) (hl : l.length ≤ 32) (hs : ∀ y ∈ l, y.size ≤ 1048576) : spec_l10Hashes.f k l = some (hashes l) := by
  have h := spec_l0h l hl hs l.length 0 k (by omega) (by omega)
  unfold spec_l10Hashes.f
  exact h
theorem spec_root_l0 (j : Nat) : ∀ (x : List BA) (k : Nat), j ≤ 5 → x.length = 2 ^ j → (∀ y ∈ x, y.size = 32) → 100 + j ≤ k → spec_RootOf.l0 k x = some (rdOf ByteArray.empty (tops j x) 0) := by
  induction j with
  | zero =>
    intro x k hj hx hs hk
    obtain ⟨k, rfl⟩ : ∃ m, k = m + 1 := ⟨k - 1, by omega⟩
    simp only [spec_RootOf.l0]
    rw [if_neg (by rw [hx]; decide), if_pos (by rw [hx]; decide)]
    rfl
  | succ j ih =>
    intro x k hj hx hs hk
    obtain ⟨k, rfl⟩ : ∃ m, k = m + 1 := ⟨k - 1, by omega⟩
    have hpj := pow_small (show j ≤ 5 by omega)
    have hx2 : x.length = 2 * 2 ^ j := by rw [hx, Nat.pow_succ]; omega
    simp only [spec_RootOf.l0]
    rw [if_pos (by omega), spec_up_f k x (2 ^ j) hx2 (by omega) hs (by omega), Option.bind_some, ih (up1 x) k (by omega) (up1_length _ _ hx2) (up1_size _ _ hx2) (by omega)]
    rfl
theorem spec_root (k : Nat) (hk : 400 ≤ k) (l : List BA) (hs : ∀ y ∈ l, y.size ≤ 1048576) : spec_RootOf.f k l = some (root l) := by
  unfold spec_RootOf.f root
  by_cases c : l.length ≤ 32
  case neg => rw [if_pos (by omega), if_neg c]; rfl
  rw [if_neg (by omega), if_pos c, spec_hashes k (by omega) l c hs, Option.bind_some]
  exact spec_root_l0 _ _ k (np_facts l.length (by omega)).2.1 (hashes_length c) (hashes_size l) (by have := (np_facts l.length (by omega)).2.1; omega)
end Go.Proofs.YtmiiknkfhiecgaaDoor.Tree
end
section
/- What is proved here: what BranchOf answers, by the program and by the reference. No conditions but that the leaves are no longer than 2^20 bytes. -/
set_option linter.unusedVariables false
set_option linter.unusedSimpArgs false
namespace Go.Proofs.YtmiiknkfhiecgaaDoor.Tree
open Go.RowKit Go.Proofs.YtmiiknkfhiecgaaDoor.Pf Go.Proofs.YtmiiknkfhiecgaaDoorW.PrintWords Go.Proofs.YtmiiknkfhiecgaaDoor.Strs
/-- The place beside i. -/
def bes (i : Nat) : Nat := if i % 2 = 0 then i + 1 else i - 1
theorem xor_dec : ∀ i : Nat, i < 32 → Go.bits .xor .i64 (i : Int) 1 = ((bes i : Nat) : Int) ∧ wrap64 (Int.tdiv (i : Int) 2) = ((i / 2 : Nat) : Int) := by decide +kernel
theorem bes_lt {i n : Nat} (h : i < 2 * n) : bes i < 2 * n := by unfold bes; split <;> omega
def sides : Nat → Nat → List BA → List BA
  | 0, _, _ => []
  | j + 1, i, x => rdOf ByteArray.empty x (bes i : Int) :: sides j (i / 2) (up1 x)
theorem sides_length (j : Nat) : ∀ i x, (sides j i x).length = j := by
  induction j with
  | zero => intro i x; rfl
  | succ j ih => intro i x; simp only [sides, List.length_cons, ih]
theorem sides_size (j : Nat) : ∀ (i : Nat) (x : List BA), x.length = 2 ^ j → i < 2 ^ j → (∀ y ∈ x, y.size = 32) → ∀ y ∈ sides j i x, y.size = 32 := by
  induction j with
  | zero => intro i x _ _ _ y hy; simp [sides] at hy
  | succ j ih =>
    intro i x hx hi hs y hy
    have hx2 : x.length = 2 * 2 ^ j := by rw [hx, Nat.pow_succ]; omega
    have hi2 : i < 2 * 2 ^ j := by rw [Nat.pow_succ] at hi; omega
    simp only [sides, List.mem_cons] at hy
    rcases hy with rfl | hy
    · rw [rdOf_get (by rw [hx2]; exact bes_lt hi2)]
      exact hs _ (List.getElem_mem _)
    · exact ih (i / 2) (up1 x) (up1_length _ _ hx2) (by omega) (up1_size _ _ hx2) y hy
theorem spec_branch_l0 (j : Nat) : ∀ (i : Nat) (acc x : List BA) (k : Nat), j ≤ 5 → x.length = 2 ^ j → i < 2 ^ j → (∀ y ∈ x, y.size = 32) → acc.length + j ≤ 1000 → 100 + j ≤ k → spec_BranchOf.l0 k (i : Int) acc x = some (acc ++ sides j i x) := by
  induction j with
  | zero =>
    intro i acc x k hj hx hi hs ha hk
    obtain ⟨k, rfl⟩ : ∃ m, k = m + 1 := ⟨k - 1, by omega⟩
    simp only [spec_BranchOf.l0]
    rw [if_neg (by rw [hx]; decide), sides, List.append_nil]
  | succ j ih =>
    intro i acc x k hj hx hi hs ha hk
    obtain ⟨k, rfl⟩ : ∃ m, k = m + 1 := ⟨k - 1, by omega⟩
    have hpj := pow_small (show j ≤ 5 by omega)
    have hp := pow_small hj
    have hx2 : x.length = 2 * 2 ^ j := by rw [hx, Nat.pow_succ]; omega
    have hi2 : i < 2 * 2 ^ j := by rw [Nat.pow_succ] at hi; omega
    obtain ⟨e1, e2⟩ := xor_dec i (by omega)
    have hb := bes_lt hi2
    simp only [spec_BranchOf.l0]
    rw [if_pos (by omega), e1, e2, if_pos (by omega), if_pos (by omega), if_pos (by omega), spec_up_f k x (2 ^ j) hx2 (by omega) hs (by omega), Option.bind_some,
      ih (i / 2) (acc ++ [rdOf ByteArray.empty x (bes i : Int)]) (up1 x) k (by omega) (up1_length _ _ hx2) (by omega) (up1_size _ _ hx2) (by simp; omega) (by omega), List.append_assoc, List.singleton_append]
    rfl
theorem rd_mid (pre : List (List BA)) (x : List BA) (r : List (List BA)) : rd_L2 (pre ++ x :: r) ((pre.length : Nat) : Int) = x := by
  unfold rd_L2
  simp
theorem impl_branch_l0 (j : Nat) : ∀ (i : Nat) (acc : List BA) (pre : List (List BA)) (x : List BA) (k : Nat), j ≤ 5 → x.length = 2 ^ j → i < 2 ^ j → (∀ y ∈ x, y.size = 32) → acc.length + j ≤ 1000 → pre.length + j ≤ 1000 → j < k →
    impl_BranchOf.l0 k (i : Int) acc (pre ++ lows j x) ((pre.length + j : Nat) : Int) (pre.length : Int) = some (acc ++ sides j i x) := by
  induction j with
  | zero =>
    intro i acc pre x k hj hx hi hs ha hp hk
    obtain ⟨k, rfl⟩ : ∃ m, k = m + 1 := ⟨k - 1, by omega⟩
    simp only [impl_BranchOf.l0]
    rw [if_neg (by omega), sides, List.append_nil]
  | succ j ih =>
    intro i acc pre x k hj hx hi hs ha hp hk
    obtain ⟨k, rfl⟩ : ∃ m, k = m + 1 := ⟨k - 1, by omega⟩
    have hpj := pow_small (show j ≤ 5 by omega)
    have hp2 := pow_small hj
    have hx2 : x.length = 2 * 2 ^ j := by rw [hx, Nat.pow_succ]; omega
    have hi2 : i < 2 * 2 ^ j := by rw [Nat.pow_succ] at hi; omega
    obtain ⟨e1, e2⟩ := xor_dec i (by omega)
    have hb := bes_lt hi2
    have hl : (pre ++ lows (j + 1) x).length = pre.length + (j + 1) := by rw [List.length_append, lows_length]
    simp only [impl_BranchOf.l0]
    rw [if_pos (by omega), if_pos (by omega), if_pos (by rw [hl]; omega), e1, e2, if_pos (by omega), lows, rd_mid, if_pos (by omega), if_pos (by omega), wrap_in (by omega) (by omega)]
    have h := ih (i / 2) (acc ++ [rdOf ByteArray.empty x (bes i : Int)]) (pre ++ [x]) (up1 x) k (by omega) (up1_length _ _ hx2) (by omega) (up1_size _ _ hx2) (by simp; omega) (by simp; omega) (by omega)
    simp only [List.length_append, List.length_cons, List.length_nil, List.append_assoc, List.singleton_append] at h
    rw [show pre.length + (j + 1) = pre.length + (0 + 1) + j by omega, show ((pre.length : Nat) : Int) + 1 = ((pre.length + (0 + 1) : Nat) : Int) by omega, h]
    rfl
def branch (l : List BA) (i : Int) : List BA := if l.length ≤ 32 ∧ 0 ≤ i ∧ i < (l.length : Int) then sides (lg l.length) i.toNat (hashes l) else []
theorem lg_lt {n i : Nat} (h : n ≤ 32) (hi : i < n) : i < 2 ^ lg n := Nat.lt_of_lt_of_le hi (np_facts n (by omega)).1
theorem branch_length {l : List BA} {i : Int} (h : l.length ≤ 32 ∧ 0 ≤ i ∧ i < (l.length : Int)) : (branch l i).length = lg l.length := by
  unfold branch
  rw [if_pos h, sides_length]
theorem branch_le (l : List BA) (i : Int) : (branch l i).length ≤ 5 := by
  by_cases h : l.length ≤ 32 ∧ 0 ≤ i ∧ i < (l.length : Int)
  · rw [branch_length h]; exact (np_facts l.length (by omega)).2.1
  · unfold branch; rw [if_neg h]; decide
theorem branch_size (l : List BA) (i : Int) : ∀ y ∈ branch l i, y.size = 32 := by
  unfold branch
  split
  next h => exact sides_size _ _ _ (hashes_length h.1) (lg_lt h.1 (by omega)) (hashes_size l)
  next => intro y hy; simp at hy
theorem spec_branch (k : Nat) (hk : 400 ≤ k) (l : List BA) (i : Int) (hn : l.length ≤ 1048576) (hs : ∀ y ∈ l, y.size ≤ 1048576) : spec_BranchOf.f k l i = some (branch l i) := by
  obtain ⟨k, rfl⟩ : ∃ m, k = m + 1 := ⟨k - 1, by omega⟩
  have fj : spec_BranchOf.j0 (k + 1) l i [] true = some [] := by simp only [spec_BranchOf.j0, if_true]
  unfold spec_BranchOf.f branch
  rw [Option.bind_some]
  by_cases c : l.length ≤ 32
  case neg => rw [if_pos (by omega), fj, if_neg (by omega)]
  rw [if_neg (by omega), wrap_in (by omega) (by omega), l01In_f, Option.bind_some]
  by_cases c2 : 0 ≤ i ∧ i ≤ (l.length : Int) - 1
  case neg => rw [decide_eq_false c2, Bool.not_false, fj, if_neg (by omega)]
  rw [decide_eq_true c2, Bool.not_true, if_pos ⟨c, by omega, by omega⟩]
  simp only [spec_BranchOf.j0]
  rw [if_neg (by decide), spec_hashes k (by omega) l c hs, Option.bind_some]
  obtain ⟨n, rfl⟩ : ∃ n : Nat, i = (n : Int) := ⟨i.toNat, by omega⟩
  have h5 := (np_facts l.length (by omega)).2.1
  have h := spec_branch_l0 (lg l.length) n [] (hashes l) k h5 (hashes_length c) (lg_lt c (by omega)) (hashes_size l) (by simp; omega) (by omega)
  simpa using h
theorem impl_branch (k : Nat) (hk : 500 ≤ k) (l : List BA) (i : Int) (hs : ∀ y ∈ l, y.size ≤ 1048576) : impl_BranchOf.f k l i = some (branch l i) := by
  obtain ⟨k, rfl⟩ : ∃ m, k = m + 1 := ⟨k - 1, by omega⟩
  have fj : impl_BranchOf.j0 (k + 1) l i true = some [] := by simp only [impl_BranchOf.j0, if_true]
  unfold impl_BranchOf.f branch
  by_cases c : l.length ≤ 32
  case neg => rw [if_pos (by omega), fj, if_neg (by omega)]
  rw [if_neg (by omega)]
  by_cases c0 : i < 0
  · rw [if_pos c0, fj, if_neg (by omega)]
  rw [if_neg c0]
  by_cases c2 : i ≥ (l.length : Int)
  · rw [decide_eq_true c2, fj, if_neg (by omega)]
  rw [decide_eq_false c2, if_pos ⟨c, by omega, by omega⟩]
  simp only [impl_BranchOf.j0]
  obtain ⟨n, rfl⟩ : ∃ n : Nat, i = (n : Int) := ⟨i.toNat, by omega⟩
  have h5 := (np_facts l.length (by omega)).2.1
  have e1 : (lows (lg l.length) (hashes l) ++ [tops (lg l.length) (hashes l)]).length = lg l.length + 1 := by rw [List.length_append, lows_length]; rfl
  have e2 : wrap64 ((((lows (lg l.length) (hashes l) ++ [tops (lg l.length) (hashes l)]).length : Nat) : Int) - 1) = ((lg l.length : Nat) : Int) := by rw [e1, wrap_in (by omega) (by omega)]; omega
  have e3 : (lows (lg l.length) (hashes l) ++ [tops (lg l.length) (hashes l)]).take (lg l.length) = lows (lg l.length) (hashes l) := by
    have h := List.take_left (l₁ := lows (lg l.length) (hashes l)) (l₂ := [tops (lg l.length) (hashes l)])
    rwa [lows_length] at h
  rw [if_neg (by decide), levels_f k (by omega) l c hs, Option.bind_some, levels_split, e2, if_pos (by omega), if_pos (by rw [e1]; omega), Option.bind_some, Int.toNat_natCast, e3, lows_length]
  have h := impl_branch_l0 (lg l.length) n [] [] (hashes l) k h5 (hashes_length c) (lg_lt c (by omega)) (hashes_size l) (by simp; omega) (by simp; omega) (by omega)
  simpa using h
end Go.Proofs.YtmiiknkfhiecgaaDoor.Tree
end
section
/- What is proved here: a leaf and what stands beside it make the root. No conditions but that there are 32 leaves at most, none longer than 2^20 bytes. -/
set_option linter.unusedVariables false
set_option linter.unusedSimpArgs false
namespace Go.Proofs.YtmiiknkfhiecgaaDoor.Tree
open Go.RowKit Go.Proofs.YtmiiknkfhiecgaaDoor.Pf Go.Proofs.YtmiiknkfhiecgaaDoorW.PrintWords Go.Proofs.YtmiiknkfhiecgaaDoor.Strs
theorem up_sides (n : Nat) (j : Nat) : ∀ (x : List BA) (i k : Nat), x.length = 2 ^ j → i < 2 ^ j → i = n / 2 ^ k → up n (rdOf ByteArray.empty x (i : Int)) (sides j i x) k = rdOf ByteArray.empty (tops j x) 0 := by
  induction j with
  | zero =>
    intro x i k hx hi hn
    have h0 : i = 0 := by simpa using hi
    subst h0
    rfl
  | succ j ih =>
    intro x i k hx hi hn
    have hx2 : x.length = 2 * 2 ^ j := by rw [hx, Nat.pow_succ]; omega
    have hi2 : i < 2 * 2 ^ j := by rw [Nat.pow_succ] at hi; omega
    have hb : jb n k = (i % 2 == 1) := by unfold jb; rw [← hn]
    have h2 : i / 2 < 2 ^ j := by omega
    have hn2 : i / 2 = n / 2 ^ (k + 1) := by rw [hn, Nat.pow_succ, Nat.div_div_eq_div_mul]
    have hl : (up1 x).length = 2 ^ j := up1_length _ _ hx2
    have hg := up1_get _ x hx2 (i / 2) h2 (by omega) (by omega) (by omega)
    have e : (if jb n k then D (rdOf ByteArray.empty x (bes i : Int) ++ rdOf ByteArray.empty x (i : Int)) else D (rdOf ByteArray.empty x (i : Int) ++ rdOf ByteArray.empty x (bes i : Int))) = rdOf ByteArray.empty (up1 x) ((i / 2 : Nat) : Int) := by
      rw [rdOf_get (i := i / 2) (by omega), hg, hb, rdOf_get (i := i) (by omega), rdOf_get (i := bes i) (by rw [hx2]; exact bes_lt hi2)]
      by_cases c : i % 2 = 0
      · have c1 : bes i = 2 * (i / 2) + 1 := by unfold bes; rw [if_pos c]; omega
        have c2 : i = 2 * (i / 2) := by omega
        rw [if_neg (by simp [c])]
        simp only [c1]
        congr 2
        simp only [← c2]
      · have c1 : bes i = 2 * (i / 2) := by unfold bes; rw [if_neg c]; omega
        have c2 : i = 2 * (i / 2) + 1 := by omega
        rw [if_pos (by simp; omega)]
        simp only [c1]
        congr 2
        simp only [← c2]
    simp only [up, sides, tops]
    rw [e]
    exact ih (up1 x) (i / 2) (k + 1) hl h2 hn2
theorem hashes_get {l : List BA} {i : Nat} (h : l.length ≤ 32) (hi : i < l.length) : rdOf ByteArray.empty (hashes l) (i : Int) = D l[i] := by
  rw [rdOf_get (by rw [hashes_length h]; exact lg_lt h hi)]
  unfold hashes
  simp only [List.getElem_append, List.length_map, hi, dite_true, List.getElem_map]
theorem fold_root {l : List BA} {i : Nat} (h : l.length ≤ 32) (hi : i < l.length) : foldB l[i] (i : Int) (branch l (i : Int)) = root l := by
  have hc : l.length ≤ 32 ∧ 0 ≤ (i : Int) ∧ (i : Int) < (l.length : Int) := ⟨h, by omega, by omega⟩
  have h5 := (np_facts l.length (by omega)).2.1
  unfold foldB root
  rw [branch_length hc, if_pos h, if_pos ⟨h5, by omega, by have := lg_lt h hi; omega⟩, ← hashes_get h hi, Int.toNat_natCast]
  unfold branch
  rw [if_pos hc, Int.toNat_natCast]
  exact up_sides i _ _ i 0 (hashes_length h) (lg_lt h hi) (by simp)
end Go.Proofs.YtmiiknkfhiecgaaDoor.Tree
end
section
namespace Go.Proofs.YtmiiknkfhiecgaaDoor.Pf
open Go.RowKit Go.Proofs.YtmiiknkfhiecgaaDoorW.PrintWords Go.Proofs.YtmiiknkfhiecgaaDoorW.PrintLast Go.Proofs.YtmiiknkfhiecgaaDoorW.PrintMore
attribute [local go_sem] max2_int min2_int max_two min_two max_three min_three max_four min_four   -- for this text's walks alone
set_option linter.unusedVariables false
set_option linter.unusedSimpArgs false
/-! ### spec_l01Once: function 86 -/
def spec_l01Once.f (s0_0 : List Int) (s0_1 : Int) (s0_2 : Int) (a1 : Int) : Option (Bool × Int × Int) := (spec_l01Below.f s0_0 s0_1 s0_2 a1).bind fun bt439 => (some ((bt439.1 == 0), bt439.2.1, bt439.2.2))
set_option maxHeartbeats 8000000 in
set_option maxRecDepth 100000 in
theorem spec_l01Once.calls (g : Nat) (s0_0 : List Int) (s0_1 : Int) (s0_2 : Int) (a1 : Int) (r1 : Bool) (r2 : Int) (r3 : Int) (w0 w : World) (hI : IsS93 w0 w g s0_0 s0_1 s0_2) (hB : Below w0.heap.size w0 w) (h : spec_l01Once.f s0_0 s0_1 s0_2 a1 = some (r1, r2, r3)) :
  Calls Tryd.prog 86 #[.pointer (some ⟨g, 0, none⟩), .int .i64 a1] w fun e w' => e = .returned (.bool r1) ∧ IsS93 w0 w' g s0_0 r2 r3 ∧ Below w0.heap.size w0 w' ∧ KeepBut w w' g none := by
 have HI0 := Aside0.mk hI
 have HK := Aside0.mk (KeepBut.refl w g none)
 have HL := Aside0.mk hB.size
 clear hI
 have HW0 := Aside0.mk hB.size
 have HB := Aside0.mk hB
 clear hB
 have H : ((spec_l01Below.f s0_0 s0_1 s0_2 a1).bind fun bt439 => (some ((bt439.1 == 0), bt439.2.1, bt439.2.2))) = some (r1, r2, r3) := h
 clear h
 replace H := Option.bind_eq_some_iff.mp H
 obtain ⟨⟨t439, t440, t441⟩, A30, H⟩ := H
 replace H : (some ((t439 == 0), t440, t441)) = some (r1, r2, r3) := H
 have A3 := Aside0.mk A30
 clear A30
 simp only [Option.some.injEq, Prod.mk.injEq] at H
 obtain ⟨rfl, rfl, rfl⟩ := H
 go_enter Tryd.func86, Tryd.ntmps86
 go_wp2_with (first | ((with_reducible refine gate_callee (f := 60) rfl ?_); refine goesL_ (some 7) rfl rfl Tryd.func60 (by kernel_rfl) rfl #[.pointer (some ⟨g, 0, none⟩), .int .i64 a1] rfl (by (try simp only [List.map_toArray, List.map_cons, List.map_nil]); first | done | rfl | (simp only [List.length_drop, List.length_take]; rfl)) ?_; (with_reducible refine (spec_l01Below.calls g s0_0 s0_1 s0_2 a1 t439 t440 t441 w0 _ ?side1 ?side2 A3.out).mono ?_); (case side1 => repeat (first | (with_reducible first | exact HI0.out | apply IsS93.alloc | apply IsS93.drewN | apply IsS93.drew | apply IsS93.set_1 | apply IsS93.set_2) | exact HI0.out)); (case side2 => repeat (first | (with_reducible first | exact HB.out | apply below_alloc | apply pw_below_drewN | apply below_drew1 | refine below_set ?_ (IsS93.ge HI0.out)) | exact HB.out)); rintro e w4 ⟨rfl, hi, hb, hk⟩; refine ⟨_, rfl, ?_⟩; replace HK := Aside0.mk (KeepBut.trans (by repeat (first | (with_reducible first | exact HK.out | apply KeepBut.set_ | apply keep_drewN | apply keep_drew | apply keep_alloc) | exact HK.out)) hk (.inl rfl)); replace HB := Aside0.mk (hb); replace HI0 := Aside0.mk (hi); (try clear hb); (try clear hb2); (try clear hk); (try clear hi)))
 go_ret
 exact ⟨by first | rfl | (simp [errW_none, errW_some] <;> rfl) | (simp [*, errW_none, errW_some] <;> rfl), by repeat (first | (with_reducible first | exact HI0.out | apply IsS93.alloc | apply IsS93.drewN | apply IsS93.drew | apply IsS93.set_1 | apply IsS93.set_2) | exact HI0.out), by repeat (first | (with_reducible first | exact HB.out | apply below_alloc | apply pw_below_drewN | apply below_drew1 | refine below_set ?_ (IsS93.ge HI0.out)) | exact HB.out), by repeat (first | (with_reducible first | exact HK.out | apply KeepBut.set_ | apply keep_drewN | apply keep_drew | apply keep_alloc) | exact HK.out)⟩
/-! ### spec_l10Leaves: function 67 -/
def spec_l10Leaves.l0 : Nat → List ByteArray → Int → List Int → Int → Int → Option (List ByteArray × Int × Int)
 | 0, _, _, _, _, _ => none
 | k + 1, x3, x4, x1000, x1001, x1002 => (spec_l01Below.f x1000 x1001 x1002 9).bind fun bt445 => (if x4 < bt445.1 then ((spec_l01Below.f x1000 bt445.2.1 bt445.2.2 5).bind fun bt448 => ((spec_l01Text.f k x1000 bt448.2.1 bt448.2.2 bt448.1).bind fun bt451 => (if x3.length < 8796093022208 then (spec_l10Leaves.l0 k (x3 ++ [bt451.1]) (wrap64 (x4 + 1)) x1000 bt451.2.1 bt451.2.2) else (none)))) else ((spec_l01Once.f x1000 bt445.2.1 bt445.2.2 12).bind fun bt457 => (if bt457.1 = true then ((spec_l01Below.f x1000 bt457.2.1 bt457.2.2 2).bind fun bt460 => (if 0 ≤ (wrap64 (32 + bt460.1)) then (if (wrap64 (32 + bt460.1) : Int).toNat ≤ 17592186044416 then (some ((List.replicate (wrap64 (32 + bt460.1) : Int).toNat (⟨#[]⟩ : ByteArray)), bt460.2.1, bt460.2.2)) else (none)) else (none))) else (some (x3, bt457.2.1, bt457.2.2)))))
def spec_l10Leaves.f (k : Nat) (s0_0 : List Int) (s0_1 : Int) (s0_2 : Int) : Option (List ByteArray × Int × Int) := spec_l10Leaves.l0 k (([] : List ByteArray)) 0 s0_0 s0_1 s0_2
theorem spec_l10Leaves.mono_l : ∀ k, (∀ y0 y1 y2 y3 y4, LeO (spec_l10Leaves.l0 k y0 y1 y2 y3 y4) (spec_l10Leaves.l0 (k + 1) y0 y1 y2 y3 y4))
 | 0 => fun _ _ _ _ _ r h => by simp [spec_l10Leaves.l0] at h
 | k + 1 => by
  have ih0 := spec_l10Leaves.mono_l k
  ·intro y0 y1 y2 y3 y4
   unfold spec_l10Leaves.l0
   repeat' first
   | (with_reducible exact ih0 _ _ _ _ _)
   | (with_reducible exact spec_l01Text.mono _ _ _ _ _)
   | (with_reducible exact LeO.refl _)
   | (with_reducible exact LeO.none _)
   | (with_reducible refine LeO.ite ?_ ?_)
   | (with_reducible refine LeO.bind ?_ (fun _ => ?_))
   | exact ih0 _ _ _ _ _
   | exact spec_l01Text.mono _ _ _ _ _
   | exact LeO.none _
   | refine LeO.ite ?_ ?_
   | refine LeO.bind ?_ (fun _ => ?_)
theorem spec_l10Leaves.mono : ∀ a0 a1 a2 k, LeO (spec_l10Leaves.f k a0 a1 a2) (spec_l10Leaves.f (k + 1) a0 a1 a2) := by
 intro a0 a1 a2 k
 have ih0 := spec_l10Leaves.mono_l k
 unfold spec_l10Leaves.f
 repeat' first
   | (with_reducible exact ih0 _ _ _ _ _)
   | (with_reducible exact spec_l01Text.mono _ _ _ _ _)
   | (with_reducible exact LeO.refl _)
   | (with_reducible exact LeO.none _)
   | (with_reducible refine LeO.ite ?_ ?_)
   | (with_reducible refine LeO.bind ?_ (fun _ => ?_))
   | exact ih0 _ _ _ _ _
   | exact spec_l01Text.mono _ _ _ _ _
   | exact LeO.none _
   | refine LeO.ite ?_ ?_
   | refine LeO.bind ?_ (fun _ => ?_)
set_option maxHeartbeats 8000000 in
set_option maxRecDepth 100000 in
theorem spec_l10Leaves.calls (k : Nat) (g : Nat) (s0_0 : List Int) (s0_1 : Int) (s0_2 : Int) (r1 : List ByteArray) (r2 : Int) (r3 : Int) (w0 w : World) (hI : IsS93 w0 w g s0_0 s0_1 s0_2) (hB : Below w0.heap.size w0 w) (h : spec_l10Leaves.f k s0_0 s0_1 s0_2 = some (r1, r2, r3)) :
  Calls Tryd.prog 67 #[.pointer (some ⟨g, 0, none⟩)] w fun e w' => ∃ v0_ : Value, e = .returned (v0_) ∧ Kd.R Kd.string 9 w' w.heap.size (fun _ => True) v0_ r1 ∧ IsS93 w0 w' g s0_0 r2 r3 ∧ Below w0.heap.size w0 w' ∧ KeepBut w w' g none := by
 have HI0 := Aside0.mk hI
 have HK := Aside0.mk (KeepBut.refl w g none)
 have HL := Aside0.mk hB.size
 clear hI
 have HW0 := Aside0.mk hB.size
 have HB := Aside0.mk hB
 clear hB
 have H : (spec_l10Leaves.l0 k (([] : List ByteArray)) 0 s0_0 s0_1 s0_2) = some (r1, r2, r3) := h
 clear h
 obtain ⟨y442, hy442⟩ : ∃ y_ : List ByteArray, y_ = (([] : List ByteArray)) := ⟨_, rfl⟩
 replace H : (spec_l10Leaves.l0 k y442 0 s0_0 s0_1 s0_2) = some (r1, r2, r3) := by first | (rw [hy442]; with_reducible exact H) | (have H2_ := (Option.bind_some _ _).symm.trans H; rw [hy442]; with_reducible exact H2_) | (have H2_ := (Option.bind_some _ _).symm.trans H; with_reducible exact H2_) | with_reducible exact H | (rw [hy442]; exact H) | exact H
 have Ny442 := Aside0.mk hy442
 clear hy442
 have H' := Aside0.mk H
 clear H
 go_enter Tryd.func67, Tryd.ntmps67
 go_wp2_with (first | ((with_reducible refine gate_dst (N := 5) rfl ?_); refine Kd.R_lit Kd.string _ 9 ?hg (N := 5) ?hd (xs := ([] : List ByteArray)) (inner := []) (ok := fun _ => True) (okp := fun _ => True) ?hr ?hp (fun _ hk => hk) trivial (Below.refl _ _) (Nat.le_refl _) (by simp) ?_; (case hd => rfl); (case hg => rfl); (case hr => first | (go_simp; done) | (go_simp; rfl)); (case hp => exact (Reps.none _ _)); intro v443 w2 ho3 hb hg_ hnew_; clear hg_ hnew_; (first | rw [← Ny442.out] at ho3 | (simp only [Int.reduceToNat] at ho3; rw [← Ny442.out] at ho3)); have HO444 := Aside0.mk (Kd.R_lower ho3 (keep_size (w := w) (g := g) (row := none) (by repeat (first | (with_reducible first | exact HK.out | apply KeepBut.set_ | apply keep_drewN | apply keep_drew | apply keep_alloc) | exact HK.out)))); replace HK := Aside0.mk (KeepBut.trans (by repeat (first | (with_reducible first | exact HK.out | apply KeepBut.set_ | apply keep_drewN | apply keep_drew | apply keep_alloc) | exact HK.out)) (KeepBut.of_below hb g none) (.inl rfl)); replace HB := Aside0.mk (below_step (by repeat (first | (with_reducible first | exact HB.out | apply below_alloc | apply pw_below_drewN | apply below_drew1 | refine below_set ?_ (IsS93.ge HI0.out)) | exact HB.out)) hb); replace HI0 := Aside0.mk (IsS93.below (by repeat (first | (with_reducible first | exact HI0.out | apply IsS93.alloc | apply IsS93.drewN | apply IsS93.drew | apply IsS93.set_1 | apply IsS93.set_2) | exact HI0.out)) hb); clear hb ho3))
 go_loopg [3, 4] k (fun kq v3 v4 w' => ∃ (x3_1 : List ByteArray) (x4_1 : Int) (x1001_1 : Int) (x1002_1 : Int), v4 = .int .i64 x4_1 ∧ Aside0 (spec_l10Leaves.l0 kq x3_1 x4_1 s0_0 x1001_1 x1002_1 = some (r1, r2, r3)) ∧ Aside0 (kq ≤ k) ∧ Aside0 (Kd.R Kd.string 9 w' w.heap.size (fun _ => True) v3 x3_1) ∧ Aside0 (IsS93 w0 w' g s0_0 x1001_1 x1002_1) ∧ Aside0 (KeepBut w w' g none) ∧ Aside0 (Below w0.heap.size w0 w'))
 case atStart => exact ⟨(y442), (0), (s0_1), (s0_2), (by first | rfl | (simp; done) | (simp [*]; done)), H', ⟨Nat.le_refl _⟩, ⟨by (with_reducible repeat (first | apply Kd.R_alloc | apply Kd.R_drewN | apply Kd.R_drew)); exact HO444.out⟩, ⟨by repeat (first | (with_reducible first | exact HI0.out | apply IsS93.alloc | apply IsS93.drewN | apply IsS93.drew | apply IsS93.set_1 | apply IsS93.set_2) | exact HI0.out)⟩, ⟨by repeat (first | (with_reducible first | exact HK.out | apply KeepBut.set_ | apply keep_drewN | apply keep_drew | apply keep_alloc) | exact HK.out)⟩, ⟨by repeat (first | (with_reducible first | exact HB.out | apply below_alloc | apply pw_below_drewN | apply below_drew1 | refine below_set ?_ (IsS93.ge HI0.out)) | exact HB.out)⟩⟩
 case round =>
  clear H'
  try clear p2
  obtain ⟨x3_1, x4_1, x1001_1, x1002_1, rfl, HA, HK1, HO_3, HI0, HK, HB⟩ := hrel
  cases gk with
  | zero => exact absurd HA.out (by simp [spec_l10Leaves.l0])
  | succ k1 =>
   have H := HA.out
   clear HA
   simp only [spec_l10Leaves.l0] at H
   replace H := Option.bind_eq_some_iff.mp H
   obtain ⟨⟨t445, t446, t447⟩, A40, H⟩ := H
   replace H : (if x4_1 < t445 then ((spec_l01Below.f s0_0 t446 t447 5).bind fun bt448 => ((spec_l01Text.f k1 s0_0 bt448.2.1 bt448.2.2 bt448.1).bind fun bt451 => (if x3_1.length < 8796093022208 then (spec_l10Leaves.l0 k1 (x3_1 ++ [bt451.1]) (wrap64 (x4_1 + 1)) s0_0 bt451.2.1 bt451.2.2) else (none)))) else ((spec_l01Once.f s0_0 t446 t447 12).bind fun bt457 => (if bt457.1 = true then ((spec_l01Below.f s0_0 bt457.2.1 bt457.2.2 2).bind fun bt460 => (if 0 ≤ (wrap64 (32 + bt460.1)) then (if (wrap64 (32 + bt460.1) : Int).toNat ≤ 17592186044416 then (some ((List.replicate (wrap64 (32 + bt460.1) : Int).toNat (⟨#[]⟩ : ByteArray)), bt460.2.1, bt460.2.2)) else (none)) else (none))) else (some (x3_1, bt457.2.1, bt457.2.2))))) = some (r1, r2, r3) := H
   have A4 := Aside0.mk A40
   clear A40
   by_cases c5 : x4_1 < t445
   ·rw [if_pos c5] at H
    have c5b0 : decide (x4_1 < t445) = true := decide_eq_true c5
    clear c5
    replace H := Option.bind_eq_some_iff.mp H
    obtain ⟨⟨t448, t449, t450⟩, A60, H⟩ := H
    replace H : ((spec_l01Text.f k1 s0_0 t449 t450 t448).bind fun bt451 => (if x3_1.length < 8796093022208 then (spec_l10Leaves.l0 k1 (x3_1 ++ [bt451.1]) (wrap64 (x4_1 + 1)) s0_0 bt451.2.1 bt451.2.2) else (none))) = some (r1, r2, r3) := H
    have A6 := Aside0.mk A60
    clear A60
    replace H := Option.bind_eq_some_iff.mp H
    obtain ⟨⟨t451, t452, t453⟩, A70, H⟩ := H
    replace H : (if x3_1.length < 8796093022208 then (spec_l10Leaves.l0 k1 (x3_1 ++ [t451]) (wrap64 (x4_1 + 1)) s0_0 t452 t453) else (none)) = some (r1, r2, r3) := H
    have A7 := Aside0.mk A70
    clear A70
    by_cases c8 : x3_1.length < 8796093022208
    ·rw [if_pos c8] at H
     have LMc8 := Aside0.mk c8
     clear c8
     obtain ⟨y454, hy454⟩ : ∃ y_ : List ByteArray, y_ = (x3_1 ++ [t451]) := ⟨_, rfl⟩
     replace H : (spec_l10Leaves.l0 k1 y454 (wrap64 (x4_1 + 1)) s0_0 t452 t453) = some (r1, r2, r3) := by first | (rw [hy454]; with_reducible exact H) | (have H2_ := (Option.bind_some _ _).symm.trans H; rw [hy454]; with_reducible exact H2_) | (have H2_ := (Option.bind_some _ _).symm.trans H; with_reducible exact H2_) | with_reducible exact H | (rw [hy454]; exact H) | exact H
     have Ny454 := Aside0.mk hy454
     clear hy454
     have H' := Aside0.mk H
     clear H
     go_wp2_with (first | ((with_reducible refine gate_callee (f := 60) rfl ?_); refine goesL_ (some 8) rfl rfl Tryd.func60 (by kernel_rfl) rfl #[.pointer (some ⟨g, 0, none⟩), .int .i64 9] rfl (by (try simp only [List.map_toArray, List.map_cons, List.map_nil]); first | done | rfl | (simp only [List.length_drop, List.length_take]; rfl)) ?_; (with_reducible refine (spec_l01Below.calls g s0_0 x1001_1 x1002_1 9 t445 t446 t447 w0 _ ?side1 ?side2 A4.out).mono ?_); (case side1 => repeat (first | (with_reducible first | exact HI0.out | apply IsS93.alloc | apply IsS93.drewN | apply IsS93.drew | apply IsS93.set_1 | apply IsS93.set_2) | exact HI0.out)); (case side2 => repeat (first | (with_reducible first | exact HB.out | apply below_alloc | apply pw_below_drewN | apply below_drew1 | refine below_set ?_ (IsS93.ge HI0.out)) | exact HB.out)); rintro e w9 ⟨rfl, hi, hb, hk⟩; refine ⟨_, rfl, ?_⟩; replace HO_3 := Aside0.mk (Kd.R_mono (Kd.R_keep (IsS93.apart (show IsS93 w0 _ g s0_0 x1001_1 x1002_1 from by repeat (first | (with_reducible first | exact HI0.out | apply IsS93.alloc | apply IsS93.drewN | apply IsS93.drew | apply IsS93.set_1 | apply IsS93.set_2) | exact HI0.out)) (by (with_reducible repeat (first | apply Kd.R_alloc | apply Kd.R_drewN | apply Kd.R_drew)); exact HO_3.out) (by decide)) hk (fun _ h => h.2)) (fun _ h => h.1)); replace HK := Aside0.mk (KeepBut.trans (by repeat (first | (with_reducible first | exact HK.out | apply KeepBut.set_ | apply keep_drewN | apply keep_drew | apply keep_alloc) | exact HK.out)) hk (.inl rfl)); replace HB := Aside0.mk (hb); replace HI0 := Aside0.mk (hi); (try clear hb); (try clear hb2); (try clear hk); (try clear hi)) | ((with_reducible refine gate_callee (f := 60) rfl ?_); refine goesL_ (some 15) rfl rfl Tryd.func60 (by kernel_rfl) rfl #[.pointer (some ⟨g, 0, none⟩), .int .i64 5] rfl (by (try simp only [List.map_toArray, List.map_cons, List.map_nil]); first | done | rfl | (simp only [List.length_drop, List.length_take]; rfl)) ?_; (with_reducible refine (spec_l01Below.calls g s0_0 t446 t447 5 t448 t449 t450 w0 _ ?side1 ?side2 A6.out).mono ?_); (case side1 => repeat (first | (with_reducible first | exact HI0.out | apply IsS93.alloc | apply IsS93.drewN | apply IsS93.drew | apply IsS93.set_1 | apply IsS93.set_2) | exact HI0.out)); (case side2 => repeat (first | (with_reducible first | exact HB.out | apply below_alloc | apply pw_below_drewN | apply below_drew1 | refine below_set ?_ (IsS93.ge HI0.out)) | exact HB.out)); rintro e w10 ⟨rfl, hi, hb, hk⟩; refine ⟨_, rfl, ?_⟩; replace HO_3 := Aside0.mk (Kd.R_mono (Kd.R_keep (IsS93.apart (show IsS93 w0 _ g s0_0 t446 t447 from by repeat (first | (with_reducible first | exact HI0.out | apply IsS93.alloc | apply IsS93.drewN | apply IsS93.drew | apply IsS93.set_1 | apply IsS93.set_2) | exact HI0.out)) (by (with_reducible repeat (first | apply Kd.R_alloc | apply Kd.R_drewN | apply Kd.R_drew)); exact HO_3.out) (by decide)) hk (fun _ h => h.2)) (fun _ h => h.1)); replace HK := Aside0.mk (KeepBut.trans (by repeat (first | (with_reducible first | exact HK.out | apply KeepBut.set_ | apply keep_drewN | apply keep_drew | apply keep_alloc) | exact HK.out)) hk (.inl rfl)); replace HB := Aside0.mk (hb); replace HI0 := Aside0.mk (hi); (try clear hb); (try clear hb2); (try clear hk); (try clear hi)) | ((with_reducible refine gate_callee (f := 61) rfl ?_); refine goesL_ (some 16) rfl rfl Tryd.func61 (by kernel_rfl) rfl #[.pointer (some ⟨g, 0, none⟩), .int .i64 t448] rfl (by (try simp only [List.map_toArray, List.map_cons, List.map_nil]); first | done | rfl | (simp only [List.length_drop, List.length_take]; rfl)) ?_; (with_reducible refine (spec_l01Text.calls k1 g s0_0 t449 t450 t448 t451 t452 t453 w0 _ ?side1 ?side2 A7.out).mono ?_); (case side1 => repeat (first | (with_reducible first | exact HI0.out | apply IsS93.alloc | apply IsS93.drewN | apply IsS93.drew | apply IsS93.set_1 | apply IsS93.set_2) | exact HI0.out)); (case side2 => repeat (first | (with_reducible first | exact HB.out | apply below_alloc | apply pw_below_drewN | apply below_drew1 | refine below_set ?_ (IsS93.ge HI0.out)) | exact HB.out)); rintro e w11 ⟨rfl, hi, hb, hk⟩; refine ⟨_, rfl, ?_⟩; replace HO_3 := Aside0.mk (Kd.R_mono (Kd.R_keep (IsS93.apart (show IsS93 w0 _ g s0_0 t449 t450 from by repeat (first | (with_reducible first | exact HI0.out | apply IsS93.alloc | apply IsS93.drewN | apply IsS93.drew | apply IsS93.set_1 | apply IsS93.set_2) | exact HI0.out)) (by (with_reducible repeat (first | apply Kd.R_alloc | apply Kd.R_drewN | apply Kd.R_drew)); exact HO_3.out) (by decide)) hk (fun _ h => h.2)) (fun _ h => h.1)); replace HK := Aside0.mk (KeepBut.trans (by repeat (first | (with_reducible first | exact HK.out | apply KeepBut.set_ | apply keep_drewN | apply keep_drew | apply keep_alloc) | exact HK.out)) hk (.inl rfl)); replace HB := Aside0.mk (hb); replace HI0 := Aside0.mk (hi); (try clear hb); (try clear hb2); (try clear hk); (try clear hi)) | ((with_reducible refine gate_builtin (b := .append) (xs := #[.tmp 12, .tmp 17]) rfl ?_); at_builtin; refine Kd.R_append Kd.string w.heap.size rfl (.tmp 12) (.tmp 17) 22 9 (.string ⟨#[]⟩) 16 rfl Tryd.underlying22 info9 rfl (by decide) (by omega) u3 x3_1 t451 [.string t451] (fun _ => True) (fun _ => False) rfl rfl ?aP (fun _ hk => hk.elim) ?aF ?aO (Below.refl _ _) ?aS ?aL ?_; (case aP => exact rfl); (case aF => exact (fun _ _ => trivial)); (case aO => exact (by (with_reducible repeat (first | apply Kd.R_alloc | apply Kd.R_drewN | apply Kd.R_drew)); exact HO_3.out)); (case aS => exact (keep_size (w := w) (g := g) (row := none) (by repeat (first | (with_reducible first | exact HK.out | apply KeepBut.set_ | apply keep_drewN | apply keep_drew | apply keep_alloc) | exact HK.out)))); (case aL => have := LMc8.out; omega); intro v455 w12 ho hb hg hat; rw [← Ny454.out] at ho; replace HB := Aside0.mk (below_weaken (by repeat (first | (with_reducible first | exact HB.out | apply below_alloc | apply pw_below_drewN | apply below_drew1 | refine below_set ?_ (IsS93.ge HI0.out)) | exact HB.out)) HL.out hb); replace HI0 := Aside0.mk (IsS93.grown (by repeat (first | (with_reducible first | exact HI0.out | apply IsS93.alloc | apply IsS93.drewN | apply IsS93.drew | apply IsS93.set_1 | apply IsS93.set_2) | exact HI0.out)) hg (IsS93.own_ne HI0.out HO_3.out (by decide))); replace HK := Aside0.mk (KeepBut.trans (by repeat (first | (with_reducible first | exact HK.out | apply KeepBut.set_ | apply keep_drewN | apply keep_drew | apply keep_alloc) | exact HK.out)) (KeepBut.of_grown hg g) (Kd.R_base2 HO_3.out)); have HO456 := Aside0.mk (ho); clear HO_3; clear ho hb hg hat))
     go_roundg k1
     case measure => have := HK1.out; omega
     case rel => exact ⟨(y454), (wrap64 (x4_1 + 1)), (t452), (t453), (by first | rfl | (simp; done) | (simp [*]; done)), H', ⟨by have := HK1.out; omega⟩, ⟨by (with_reducible repeat (first | apply Kd.R_alloc | apply Kd.R_drewN | apply Kd.R_drew)); exact HO456.out⟩, ⟨by repeat (first | (with_reducible first | exact HI0.out | apply IsS93.alloc | apply IsS93.drewN | apply IsS93.drew | apply IsS93.set_1 | apply IsS93.set_2) | exact HI0.out)⟩, ⟨by repeat (first | (with_reducible first | exact HK.out | apply KeepBut.set_ | apply keep_drewN | apply keep_drew | apply keep_alloc) | exact HK.out)⟩, ⟨by repeat (first | (with_reducible first | exact HB.out | apply below_alloc | apply pw_below_drewN | apply below_drew1 | refine below_set ?_ (IsS93.ge HI0.out)) | exact HB.out)⟩⟩
    ·rw [if_neg c8] at H
     exact absurd H (by simp)
   ·rw [if_neg c5] at H
    have c5b0 : decide (x4_1 < t445) = false := decide_eq_false c5
    clear c5
    replace H := Option.bind_eq_some_iff.mp H
    obtain ⟨⟨t457, t458, t459⟩, A130, H⟩ := H
    replace H : (if t457 = true then ((spec_l01Below.f s0_0 t458 t459 2).bind fun bt460 => (if 0 ≤ (wrap64 (32 + bt460.1)) then (if (wrap64 (32 + bt460.1) : Int).toNat ≤ 17592186044416 then (some ((List.replicate (wrap64 (32 + bt460.1) : Int).toNat (⟨#[]⟩ : ByteArray)), bt460.2.1, bt460.2.2)) else (none)) else (none))) else (some (x3_1, t458, t459))) = some (r1, r2, r3) := H
    have A13 := Aside0.mk A130
    clear A130
    by_cases c14 : t457 = true
    ·subst c14
     have H1 : ((spec_l01Below.f s0_0 t458 t459 2).bind fun bt460 => (if 0 ≤ (wrap64 (32 + bt460.1)) then (if (wrap64 (32 + bt460.1) : Int).toNat ≤ 17592186044416 then (some ((List.replicate (wrap64 (32 + bt460.1) : Int).toNat (⟨#[]⟩ : ByteArray)), bt460.2.1, bt460.2.2)) else (none)) else (none))) = some (r1, r2, r3) := by rw [if_pos rfl] at H; exact H
     clear H
     have H := H1
     clear H1
     replace H := Option.bind_eq_some_iff.mp H
     obtain ⟨⟨t460, t461, t462⟩, A150, H⟩ := H
     replace H : (if 0 ≤ (wrap64 (32 + t460)) then (if (wrap64 (32 + t460) : Int).toNat ≤ 17592186044416 then (some ((List.replicate (wrap64 (32 + t460) : Int).toNat (⟨#[]⟩ : ByteArray)), t461, t462)) else (none)) else (none)) = some (r1, r2, r3) := H
     have A15 := Aside0.mk A150
     clear A150
     obtain ⟨ji16, hji16⟩ : ∃ j_ : Int, (wrap64 (32 + t460)) = j_ := ⟨_, rfl⟩
     replace H : (if 0 ≤ (ji16) then (if (ji16 : Int).toNat ≤ 17592186044416 then (some ((List.replicate (ji16 : Int).toNat (⟨#[]⟩ : ByteArray)), t461, t462)) else (none)) else (none)) = some (r1, r2, r3) := by first | (rw [hji16] at H; exact H) | (simp only [hji16] at H ⊢; exact H)
     (try rw [hji16] at A4)
     (try rw [hji16] at A13)
     (try rw [hji16] at A15)
     have hji16w : (IntKind.i64.wrap (32 + t460)) = ji16 := (i64_w _).trans hji16
     by_cases c17 : 0 ≤ (ji16)
     ·rw [if_pos c17] at H
      have c17b0 := eq_true c17
      have c17b1 : decide (0 ≤ (ji16)) = true := decide_eq_true c17
      clear c17
      by_cases c18 : (ji16 : Int).toNat ≤ 17592186044416
      ·rw [if_pos c18] at H
       have c18b0 := eq_true c18
       have c18b1 : decide ((ji16 : Int).toNat ≤ 17592186044416) = true := decide_eq_true c18
       clear c18
       obtain ⟨y463, hy463⟩ : ∃ y_ : List ByteArray, y_ = (List.replicate (ji16 : Int).toNat (⟨#[]⟩ : ByteArray)) := ⟨_, rfl⟩
       replace H : (some (y463, t461, t462)) = some (r1, r2, r3) := by first | (rw [hy463]; with_reducible exact H) | (have H2_ := (Option.bind_some _ _).symm.trans H; rw [hy463]; with_reducible exact H2_) | (have H2_ := (Option.bind_some _ _).symm.trans H; with_reducible exact H2_) | with_reducible exact H | (rw [hy463]; exact H) | exact H
       have Ny463 := Aside0.mk hy463
       clear hy463
       simp only [Option.some.injEq, Prod.mk.injEq] at H
       obtain ⟨rfl, rfl, rfl⟩ := H
       go_wp2_with (first | ((with_reducible refine gate_callee (f := 60) rfl ?_); refine goesL_ (some 8) rfl rfl Tryd.func60 (by kernel_rfl) rfl #[.pointer (some ⟨g, 0, none⟩), .int .i64 9] rfl (by (try simp only [List.map_toArray, List.map_cons, List.map_nil]); first | done | rfl | (simp only [List.length_drop, List.length_take]; rfl)) ?_; (with_reducible refine (spec_l01Below.calls g s0_0 x1001_1 x1002_1 9 t445 t446 t447 w0 _ ?side1 ?side2 A4.out).mono ?_); (case side1 => repeat (first | (with_reducible first | exact HI0.out | apply IsS93.alloc | apply IsS93.drewN | apply IsS93.drew | apply IsS93.set_1 | apply IsS93.set_2) | exact HI0.out)); (case side2 => repeat (first | (with_reducible first | exact HB.out | apply below_alloc | apply pw_below_drewN | apply below_drew1 | refine below_set ?_ (IsS93.ge HI0.out)) | exact HB.out)); rintro e w19 ⟨rfl, hi, hb, hk⟩; refine ⟨_, rfl, ?_⟩; replace HO_3 := Aside0.mk (Kd.R_mono (Kd.R_keep (IsS93.apart (show IsS93 w0 _ g s0_0 x1001_1 x1002_1 from by repeat (first | (with_reducible first | exact HI0.out | apply IsS93.alloc | apply IsS93.drewN | apply IsS93.drew | apply IsS93.set_1 | apply IsS93.set_2) | exact HI0.out)) (by (with_reducible repeat (first | apply Kd.R_alloc | apply Kd.R_drewN | apply Kd.R_drew)); exact HO_3.out) (by decide)) hk (fun _ h => h.2)) (fun _ h => h.1)); replace HK := Aside0.mk (KeepBut.trans (by repeat (first | (with_reducible first | exact HK.out | apply KeepBut.set_ | apply keep_drewN | apply keep_drew | apply keep_alloc) | exact HK.out)) hk (.inl rfl)); replace HB := Aside0.mk (hb); replace HI0 := Aside0.mk (hi); (try clear hb); (try clear hb2); (try clear hk); (try clear hi)) | ((with_reducible refine gate_callee (f := 86) rfl ?_); refine goesL_ (some 20) rfl rfl Tryd.func86 (by kernel_rfl) rfl #[.pointer (some ⟨g, 0, none⟩), .int .i64 12] rfl (by (try simp only [List.map_toArray, List.map_cons, List.map_nil]); first | done | rfl | (simp only [List.length_drop, List.length_take]; rfl)) ?_; (with_reducible refine (spec_l01Once.calls g s0_0 t446 t447 12 true t458 t459 w0 _ ?side1 ?side2 A13.out).mono ?_); (case side1 => repeat (first | (with_reducible first | exact HI0.out | apply IsS93.alloc | apply IsS93.drewN | apply IsS93.drew | apply IsS93.set_1 | apply IsS93.set_2) | exact HI0.out)); (case side2 => repeat (first | (with_reducible first | exact HB.out | apply below_alloc | apply pw_below_drewN | apply below_drew1 | refine below_set ?_ (IsS93.ge HI0.out)) | exact HB.out)); rintro e w20 ⟨rfl, hi, hb, hk⟩; refine ⟨_, rfl, ?_⟩; replace HO_3 := Aside0.mk (Kd.R_mono (Kd.R_keep (IsS93.apart (show IsS93 w0 _ g s0_0 t446 t447 from by repeat (first | (with_reducible first | exact HI0.out | apply IsS93.alloc | apply IsS93.drewN | apply IsS93.drew | apply IsS93.set_1 | apply IsS93.set_2) | exact HI0.out)) (by (with_reducible repeat (first | apply Kd.R_alloc | apply Kd.R_drewN | apply Kd.R_drew)); exact HO_3.out) (by decide)) hk (fun _ h => h.2)) (fun _ h => h.1)); replace HK := Aside0.mk (KeepBut.trans (by repeat (first | (with_reducible first | exact HK.out | apply KeepBut.set_ | apply keep_drewN | apply keep_drew | apply keep_alloc) | exact HK.out)) hk (.inl rfl)); replace HB := Aside0.mk (hb); replace HI0 := Aside0.mk (hi); (try clear hb); (try clear hb2); (try clear hk); (try clear hi)) | ((with_reducible refine gate_callee (f := 60) rfl ?_); refine goesL_ (some 22) rfl rfl Tryd.func60 (by kernel_rfl) rfl #[.pointer (some ⟨g, 0, none⟩), .int .i64 2] rfl (by (try simp only [List.map_toArray, List.map_cons, List.map_nil]); first | done | rfl | (simp only [List.length_drop, List.length_take]; rfl)) ?_; (with_reducible refine (spec_l01Below.calls g s0_0 t458 t459 2 t460 t461 t462 w0 _ ?side1 ?side2 A15.out).mono ?_); (case side1 => repeat (first | (with_reducible first | exact HI0.out | apply IsS93.alloc | apply IsS93.drewN | apply IsS93.drew | apply IsS93.set_1 | apply IsS93.set_2) | exact HI0.out)); (case side2 => repeat (first | (with_reducible first | exact HB.out | apply below_alloc | apply pw_below_drewN | apply below_drew1 | refine below_set ?_ (IsS93.ge HI0.out)) | exact HB.out)); rintro e w21 ⟨rfl, hi, hb, hk⟩; refine ⟨_, rfl, ?_⟩; replace HO_3 := Aside0.mk (Kd.R_mono (Kd.R_keep (IsS93.apart (show IsS93 w0 _ g s0_0 t458 t459 from by repeat (first | (with_reducible first | exact HI0.out | apply IsS93.alloc | apply IsS93.drewN | apply IsS93.drew | apply IsS93.set_1 | apply IsS93.set_2) | exact HI0.out)) (by (with_reducible repeat (first | apply Kd.R_alloc | apply Kd.R_drewN | apply Kd.R_drew)); exact HO_3.out) (by decide)) hk (fun _ h => h.2)) (fun _ h => h.1)); replace HK := Aside0.mk (KeepBut.trans (by repeat (first | (with_reducible first | exact HK.out | apply KeepBut.set_ | apply keep_drewN | apply keep_drew | apply keep_alloc) | exact HK.out)) hk (.inl rfl)); replace HB := Aside0.mk (hb); replace HI0 := Aside0.mk (hi); (try clear hb); (try clear hb2); (try clear hk); (try clear hi)) | ((with_reducible refine gate_dst (N := 24) rfl ?_); refine Kd.R_make Kd.string _ 9 rfl (N := 24) rfl 22 _ _ rfl ji16 rfl rfl Tryd.underlying22 (.string ⟨#[]⟩) 16 info9 rfl (by decide) (by omega) (⟨#[]⟩ : ByteArray) (ok := fun _ => True) (okp := fun _ => True) rfl (fun _ hk => hk) trivial (of_decide_eq_true (by first | (with_reducible assumption) | assumption)) (Nat.le_trans (Nat.mul_le_mul_right _ (of_decide_eq_true (by first | (with_reducible assumption) | assumption) : ji16.toNat ≤ 17592186044416)) (by omega)) (Below.refl _ _) (Nat.le_refl _) ?_; intro v464 w22 ho23 hb hg_ hnew_; clear hg_ hnew_; (first | rw [← Ny463.out] at ho23 | (simp only [Int.reduceToNat] at ho23; rw [← Ny463.out] at ho23)); have HO465 := Aside0.mk (Kd.R_lower (Kd.R_new' ho23 (Kd.R_lt (by (with_reducible repeat (first | apply Kd.R_alloc | apply Kd.R_drewN | apply Kd.R_drew)); exact HO_3.out))) (keep_size (w := w) (g := g) (row := none) (by repeat (first | (with_reducible first | exact HK.out | apply KeepBut.set_ | apply keep_drewN | apply keep_drew | apply keep_alloc) | exact HK.out)))); replace HO_3 := Aside0.mk (Kd.R_elder' (by (with_reducible repeat (first | apply Kd.R_alloc | apply Kd.R_drewN | apply Kd.R_drew)); exact HO_3.out) (Kd.R_base ho23) hb); replace HK := Aside0.mk (KeepBut.trans (by repeat (first | (with_reducible first | exact HK.out | apply KeepBut.set_ | apply keep_drewN | apply keep_drew | apply keep_alloc) | exact HK.out)) (KeepBut.of_below hb g none) (.inl rfl)); replace HB := Aside0.mk (below_step (by repeat (first | (with_reducible first | exact HB.out | apply below_alloc | apply pw_below_drewN | apply below_drew1 | refine below_set ?_ (IsS93.ge HI0.out)) | exact HB.out)) hb); replace HI0 := Aside0.mk (IsS93.below (by repeat (first | (with_reducible first | exact HI0.out | apply IsS93.alloc | apply IsS93.drewN | apply IsS93.drew | apply IsS93.set_1 | apply IsS93.set_2) | exact HI0.out)) hb); clear hb ho23))
       go_ret
       exact ⟨_, by first | rfl | (simp [errW_none, errW_some] <;> rfl) | (simp only [← hji16]; first | rfl | (simp [errW_none, errW_some] <;> rfl)) | (simp [*, errW_none, errW_some] <;> rfl), by (with_reducible repeat (first | apply Kd.R_alloc | apply Kd.R_drewN | apply Kd.R_drew)); exact Kd.R_mono HO465.out (fun _ hk => trivial), by repeat (first | (with_reducible first | exact HI0.out | apply IsS93.alloc | apply IsS93.drewN | apply IsS93.drew | apply IsS93.set_1 | apply IsS93.set_2) | exact HI0.out), by repeat (first | (with_reducible first | exact HB.out | apply below_alloc | apply pw_below_drewN | apply below_drew1 | refine below_set ?_ (IsS93.ge HI0.out)) | exact HB.out), by repeat (first | (with_reducible first | exact HK.out | apply KeepBut.set_ | apply keep_drewN | apply keep_drew | apply keep_alloc) | exact HK.out)⟩
      ·rw [if_neg c18] at H
       exact absurd H (by simp)
     ·rw [if_neg c17] at H
      exact absurd H (by simp)
    ·replace c14 := Bool.eq_false_iff.mpr c14
     subst c14
     have H1 : (some (x3_1, t458, t459)) = some (r1, r2, r3) := by rw [if_neg (show ¬ (false = true) by decide)] at H; exact H
     clear H
     have H := H1
     clear H1
     simp only [Option.some.injEq, Prod.mk.injEq] at H
     obtain ⟨rfl, rfl, rfl⟩ := H
     go_wp2_with (first | ((with_reducible refine gate_callee (f := 60) rfl ?_); refine goesL_ (some 8) rfl rfl Tryd.func60 (by kernel_rfl) rfl #[.pointer (some ⟨g, 0, none⟩), .int .i64 9] rfl (by (try simp only [List.map_toArray, List.map_cons, List.map_nil]); first | done | rfl | (simp only [List.length_drop, List.length_take]; rfl)) ?_; (with_reducible refine (spec_l01Below.calls g s0_0 x1001_1 x1002_1 9 t445 t446 t447 w0 _ ?side1 ?side2 A4.out).mono ?_); (case side1 => repeat (first | (with_reducible first | exact HI0.out | apply IsS93.alloc | apply IsS93.drewN | apply IsS93.drew | apply IsS93.set_1 | apply IsS93.set_2) | exact HI0.out)); (case side2 => repeat (first | (with_reducible first | exact HB.out | apply below_alloc | apply pw_below_drewN | apply below_drew1 | refine below_set ?_ (IsS93.ge HI0.out)) | exact HB.out)); rintro e w24 ⟨rfl, hi, hb, hk⟩; refine ⟨_, rfl, ?_⟩; replace HO_3 := Aside0.mk (Kd.R_mono (Kd.R_keep (IsS93.apart (show IsS93 w0 _ g s0_0 x1001_1 x1002_1 from by repeat (first | (with_reducible first | exact HI0.out | apply IsS93.alloc | apply IsS93.drewN | apply IsS93.drew | apply IsS93.set_1 | apply IsS93.set_2) | exact HI0.out)) (by (with_reducible repeat (first | apply Kd.R_alloc | apply Kd.R_drewN | apply Kd.R_drew)); exact HO_3.out) (by decide)) hk (fun _ h => h.2)) (fun _ h => h.1)); replace HK := Aside0.mk (KeepBut.trans (by repeat (first | (with_reducible first | exact HK.out | apply KeepBut.set_ | apply keep_drewN | apply keep_drew | apply keep_alloc) | exact HK.out)) hk (.inl rfl)); replace HB := Aside0.mk (hb); replace HI0 := Aside0.mk (hi); (try clear hb); (try clear hb2); (try clear hk); (try clear hi)) | ((with_reducible refine gate_callee (f := 86) rfl ?_); refine goesL_ (some 20) rfl rfl Tryd.func86 (by kernel_rfl) rfl #[.pointer (some ⟨g, 0, none⟩), .int .i64 12] rfl (by (try simp only [List.map_toArray, List.map_cons, List.map_nil]); first | done | rfl | (simp only [List.length_drop, List.length_take]; rfl)) ?_; (with_reducible refine (spec_l01Once.calls g s0_0 t446 t447 12 false t458 t459 w0 _ ?side1 ?side2 A13.out).mono ?_); (case side1 => repeat (first | (with_reducible first | exact HI0.out | apply IsS93.alloc | apply IsS93.drewN | apply IsS93.drew | apply IsS93.set_1 | apply IsS93.set_2) | exact HI0.out)); (case side2 => repeat (first | (with_reducible first | exact HB.out | apply below_alloc | apply pw_below_drewN | apply below_drew1 | refine below_set ?_ (IsS93.ge HI0.out)) | exact HB.out)); rintro e w25 ⟨rfl, hi, hb, hk⟩; refine ⟨_, rfl, ?_⟩; replace HO_3 := Aside0.mk (Kd.R_mono (Kd.R_keep (IsS93.apart (show IsS93 w0 _ g s0_0 t446 t447 from by repeat (first | (with_reducible first | exact HI0.out | apply IsS93.alloc | apply IsS93.drewN | apply IsS93.drew | apply IsS93.set_1 | apply IsS93.set_2) | exact HI0.out)) (by (with_reducible repeat (first | apply Kd.R_alloc | apply Kd.R_drewN | apply Kd.R_drew)); exact HO_3.out) (by decide)) hk (fun _ h => h.2)) (fun _ h => h.1)); replace HK := Aside0.mk (KeepBut.trans (by repeat (first | (with_reducible first | exact HK.out | apply KeepBut.set_ | apply keep_drewN | apply keep_drew | apply keep_alloc) | exact HK.out)) hk (.inl rfl)); replace HB := Aside0.mk (hb); replace HI0 := Aside0.mk (hi); (try clear hb); (try clear hb2); (try clear hk); (try clear hi)))
     go_ret
     exact ⟨_, by first | rfl | (simp [errW_none, errW_some] <;> rfl) | (simp [*, errW_none, errW_some] <;> rfl), by (with_reducible repeat (first | apply Kd.R_alloc | apply Kd.R_drewN | apply Kd.R_drew)); exact HO_3.out, by repeat (first | (with_reducible first | exact HI0.out | apply IsS93.alloc | apply IsS93.drewN | apply IsS93.drew | apply IsS93.set_1 | apply IsS93.set_2) | exact HI0.out), by repeat (first | (with_reducible first | exact HB.out | apply below_alloc | apply pw_below_drewN | apply below_drew1 | refine below_set ?_ (IsS93.ge HI0.out)) | exact HB.out), by repeat (first | (with_reducible first | exact HK.out | apply KeepBut.set_ | apply keep_drewN | apply keep_drew | apply keep_alloc) | exact HK.out)⟩
/-! ### spec_l01PickInt: function 76 -/
def spec_l01PickInt.f (s0_0 : List Int) (s0_1 : Int) (s0_2 : Int) (l1 : List Int) : Option (Int × Int × Int) := (spec_l01Below.f s0_0 s0_1 s0_2 (l1.length : Int)).bind fun bt466 => (if 0 ≤ bt466.1 then (if bt466.1 < (l1.length : Int) then (some (rd l1 bt466.1, bt466.2.1, bt466.2.2)) else (none)) else (none))
set_option maxHeartbeats 8000000 in
set_option maxRecDepth 100000 in
theorem spec_l01PickInt.calls (g : Nat) (s0_0 : List Int) (s0_1 : Int) (s0_2 : Int) (A1 : Option Addr) (c1 : Nat) (l1 : List Int) (r1 : Int) (r2 : Int) (r3 : Int) (w0 w : World) (hI : IsS93 w0 w g s0_0 s0_1 s0_2) (hB : Below w0.heap.size w0 w) (hr1 : Kd.C (Kd.int .i64) w A1 l1.length l1) (hc1 : l1.length ≤ c1) (hf1 : ∀ ad, A1 = some ad → 0 < l1.length → ad.block ≠ g) (h : spec_l01PickInt.f s0_0 s0_1 s0_2 l1 = some (r1, r2, r3)) :
  Calls Tryd.prog 76 #[.pointer (some ⟨g, 0, none⟩), .slice A1 l1.length c1] w fun e w' => e = .returned (.int .i64 r1) ∧ IsS93 w0 w' g s0_0 r2 r3 ∧ Below w0.heap.size w0 w' ∧ KeepBut w w' g none := by
 have HR1 := Aside0.mk hr1
 have HC1 := Aside0.mk hc1
 clear hr1 hc1
 have HI0 := Aside0.mk hI
 have HK := Aside0.mk (KeepBut.refl w g none)
 have HL := Aside0.mk hB.size
 clear hI
 have HW0 := Aside0.mk hB.size
 have HB := Aside0.mk hB
 clear hB
 have H : ((spec_l01Below.f s0_0 s0_1 s0_2 (l1.length : Int)).bind fun bt466 => (if 0 ≤ bt466.1 then (if bt466.1 < (l1.length : Int) then (some (rd l1 bt466.1, bt466.2.1, bt466.2.2)) else (none)) else (none))) = some (r1, r2, r3) := h
 clear h
 replace H := Option.bind_eq_some_iff.mp H
 obtain ⟨⟨t466, t467, t468⟩, A30, H⟩ := H
 replace H : (if 0 ≤ t466 then (if t466 < (l1.length : Int) then (some (rd l1 t466, t467, t468)) else (none)) else (none)) = some (r1, r2, r3) := H
 have A3 := Aside0.mk A30
 clear A30
 by_cases c4 : 0 ≤ t466
 ·rw [if_pos c4] at H
  have c4b0 : decide (0 ≤ t466) = true := decide_eq_true c4
  clear c4
  by_cases c5 : t466 < (l1.length : Int)
  ·rw [if_pos c5] at H
   have c5b0 : decide (t466 < (l1.length : Int)) = true := decide_eq_true c5
   clear c5
   simp only [Option.some.injEq, Prod.mk.injEq] at H
   obtain ⟨rfl, rfl, rfl⟩ := H
   go_enter Tryd.func76, Tryd.ntmps76
   go_wp2_with (first | ((with_reducible refine gate_callee (f := 60) rfl ?_); refine goesL_ (some 9) rfl rfl Tryd.func60 (by kernel_rfl) rfl #[.pointer (some ⟨g, 0, none⟩), .int .i64 (l1.length : Int)] rfl (by (try simp only [List.map_toArray, List.map_cons, List.map_nil]); first | done | rfl | (simp only [List.length_drop, List.length_take]; rfl)) ?_; (with_reducible refine (spec_l01Below.calls g s0_0 s0_1 s0_2 (l1.length : Int) t466 t467 t468 w0 _ ?side1 ?side2 A3.out).mono ?_); (case side1 => repeat (first | (with_reducible first | exact HI0.out | apply IsS93.alloc | apply IsS93.drewN | apply IsS93.drew | apply IsS93.set_1 | apply IsS93.set_2) | exact HI0.out)); (case side2 => repeat (first | (with_reducible first | exact HB.out | apply below_alloc | apply pw_below_drewN | apply below_drew1 | refine below_set ?_ (IsS93.ge HI0.out)) | exact HB.out)); rintro e w6 ⟨rfl, hi, hb, hk⟩; refine ⟨_, rfl, ?_⟩; replace HK := Aside0.mk (KeepBut.trans (by repeat (first | (with_reducible first | exact HK.out | apply KeepBut.set_ | apply keep_drewN | apply keep_drew | apply keep_alloc) | exact HK.out)) hk (.inl rfl)); replace HB := Aside0.mk (hb); replace HI0 := Aside0.mk (hi); (try clear hb); (try clear hb2); (try clear hk); (try clear hi); have p469 : 0 ≤ (t466 : Int) := of_decide_eq_true (by first | (with_reducible assumption) | assumption); have q469 : t466 < (l1.length : Int) := of_decide_eq_true (by first | (with_reducible assumption) | assumption); obtain ⟨ad469, e469, hx469_0⟩ := Kd.at_int HR1.out t466 p469 q469; cases e469; replace hx469_0 := keep_cell HK.out hx469_0 (by first | (rw [add_block]; exact hf1 _ rfl (by omega)) | exact hf1 _ rfl (by omega) | exact hf1 ad469 rfl (by omega)); replace p469 := eq_true p469; replace q469 := eq_true q469))
   go_ret
   exact ⟨by first | rfl | (simp [errW_none, errW_some] <;> rfl) | (simp [*, errW_none, errW_some] <;> rfl), by repeat (first | (with_reducible first | exact HI0.out | apply IsS93.alloc | apply IsS93.drewN | apply IsS93.drew | apply IsS93.set_1 | apply IsS93.set_2) | exact HI0.out), by repeat (first | (with_reducible first | exact HB.out | apply below_alloc | apply pw_below_drewN | apply below_drew1 | refine below_set ?_ (IsS93.ge HI0.out)) | exact HB.out), by repeat (first | (with_reducible first | exact HK.out | apply KeepBut.set_ | apply keep_drewN | apply keep_drew | apply keep_alloc) | exact HK.out)⟩
  ·rw [if_neg c5] at H
   exact absurd H (by simp)
 ·rw [if_neg c4] at H
  exact absurd H (by simp)
end Go.Proofs.YtmiiknkfhiecgaaDoor.Pf
end
