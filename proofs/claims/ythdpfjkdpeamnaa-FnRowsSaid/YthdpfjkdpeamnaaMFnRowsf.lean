/- What is proved here: part 6 of 6 of the proof of the given statement FnRows: the contracts of the Go functions that it reaches, the plain facts on lists and numbers, and (in the last part) the statement itself. No conditions beyond the given ones. -/
import Derived.Test.YthdpfjkdpeamnaaMFnRowswSlim
import Derived.Test.YthdpfjkdpeamnaaMFnRowsa
import Derived.Test.YthdpfjkdpeamnaaMFnRowsb
import Derived.Test.YthdpfjkdpeamnaaMFnRowse
import Derived.Test.YthdpfjkdpeamnaaMFnRowsc
import Derived.Test.YthdpfjkdpeamnaaMFnRowswMore
import Derived.Deep.Slices
import Derived.ChangeArms
import Derived.DataReads
import Derived.ChangeShapes
import Derived.Test.YthdpfjkdpeamnaaMFnRowsd
import Derived.KernelRfl
import Derived.Test.YthdpfjkdpeamnaaRows
import Derived.WalkKit
import Derived.ProofKit
import Derived.OpenShut
import Derived.ShutString
import Derived.ChangeOld
import Derived.Below
import Derived.SizedLaws
import Derived.Test.YthdpfjkdpeamnaaMFnRowswSized

section
namespace Go.Proofs.Ythdpfjkdpeamnaa.Pf
open Go.RowKit Go.Proofs.YthdpfjkdpeamnaaW.PrintWords Go.Proofs.YthdpfjkdpeamnaaW.PrintLast Go.Proofs.YthdpfjkdpeamnaaW.PrintMore
attribute [local go_sem] max2_int min2_int max_two min_two max_three min_three max_four min_four
set_option linter.unusedVariables false
set_option linter.unusedSimpArgs false
set_option maxHeartbeats 8000000
set_option maxRecDepth 100000
def laws_FnRows.j0 : Nat → List Int → List Int → List Int → Bool → Int → Int → List (S75) → Option (Bool)
 | 0, _, _, _, _, _, _, _ => none
 | k + 1, x0, x3, x6, x45, x465000, x465001, x465002 => if x45 = true then (some false) else ((some (([] : List Int) : List Int)).bind fun y479 => (if y479.length + x6.length < 17592186044416 then ((some (y479 ++ x6 : List Int)).bind fun y482 => (if 1 < (x3.length : Int) then (if (wrap64 ((x6.length : Int) - 1)) = 0 then (none) else (if 0 ≤ (wrap64 (1 + (Int.tmod (rd x3 1) (wrap64 ((x6.length : Int) - 1))))) then (if (wrap64 (1 + (Int.tmod (rd x3 1) (wrap64 ((x6.length : Int) - 1))))) < (y482.length : Int) then (if 2 < (x3.length : Int) then ((spec_ScAdd.f (rd y482 (wrap64 (1 + (Int.tmod (rd x3 1) (wrap64 ((x6.length : Int) - 1)))))) (wrap64 (1 + (Int.tmod (rd x3 2) 1008)))).bind fun t488 => ((spec_DrawSatisfied.f k x0).bind fun bt490 => ((impl_Satisfied.f k x465000 x465001 x465002 (y482.set ((wrap64 (1 + (Int.tmod (rd x3 1) (wrap64 ((x6.length : Int) - 1))))) : Int).toNat t488)).bind fun t499 => (if t499 = true then (some false) else ((impl_Satisfied.f k bt490.1 bt490.2.1 bt490.2.2.1 bt490.2.2.2).bind fun t500 => ((spec_Satisfied.f k bt490.1 bt490.2.1 bt490.2.2.1 bt490.2.2.2).bind fun t501 => (if (t500 == t501) = true then ((impl_SystemOk.f k bt490.1 bt490.2.1 bt490.2.2.1).bind fun t502 => ((spec_SystemOk.f k bt490.1 bt490.2.1 bt490.2.2.1).bind fun t503 => (some (t502 == t503)))) else (some false)))))))) else (none)) else (none)) else (none))) else (none))) else (none)))
def laws_FnRows.f (k : Nat) (l0 : List Int) : Option (Bool) := (laws_big.f l0).bind fun t454 => (if t454 = true then (some true) else ((spec_DrawPlaces.f k l0).bind fun t455 => (if 0 < (t455.length : Int) then ((impl_CountSystem.f k).bind fun bt459 => ((impl_CountWitness.f k (Int.tmod (rd t455 0) 256)).bind fun t465 => ((impl_SystemOk.f k bt459.1 bt459.2.1 bt459.2.2).bind fun t468 => (if t468 = true then ((impl_Satisfied.f k bt459.1 bt459.2.1 bt459.2.2 t465).bind fun t469 => (if t469 = true then (if (t465.length : Int) = bt459.1 then ((impl_PublicOf.f (Int.tmod (rd t455 0) 256)).bind fun t470 => (if 1 ≤ 3 then (if 3 ≤ (t465.length : Int) then ((laws_sameInts.f k t470 ((t465.take 3).drop 1)).bind fun t478 => (laws_FnRows.j0 k l0 t455 t465 (!t478) bt459.1 bt459.2.1 bt459.2.2)) else (none)) else (none))) else (laws_FnRows.j0 k l0 t455 t465 true bt459.1 bt459.2.1 bt459.2.2)) else (laws_FnRows.j0 k l0 t455 t465 true bt459.1 bt459.2.1 bt459.2.2))) else (laws_FnRows.j0 k l0 t455 t465 true bt459.1 bt459.2.1 bt459.2.2))))) else (none))))
def laws_FnRows.T7 : Bool × List (List Nat × List Nat) := (true, [([], []), ([0], [0]), ([1], [1]), ([2, 1], [2]), ([3], [3]), ([3], [3]), ([4, 5, 3, 3], [3, 4, 5]), ([6, 3], [3, 6]), ([3, 7], [3, 7]), ([8, 6], [8]), ([9], [9]), ([10, 9], [9, 10]), ([9], [9]), ([12, 9], [9, 12]), ([11, 13, 9], [9, 11, 13]), ([9, 14], [9, 14]), ([15, 9], [15]), ([16], [16]), ([17, 16, 16], [16, 17]), ([16], [16]), ([19, 16], [16, 19]), ([18, 20, 18, 16], [16, 18, 20]), ([21, 16], [16, 21]), ([16, 22], [16, 22])])
def laws_FnRows.B7 : List Nat := [0, 1, 3, 7, 15, 15, 63, 127, 255, 511, 1023, 2047, 1023, 5119, 16383, 32767, 65535, 131071, 262143, 131071, 655359, 2097151, 4194303, 8388607]
theorem laws_FnRows.tab7 : rtab .any (opsOf Try.f14 7) = laws_FnRows.T7 := by kernel_rfl
theorem laws_FnRows.bits7 : waitsOk laws_FnRows.T7.2 laws_FnRows.B7 = true := by kernel_rfl
def laws_FnRows.T11 : Bool × List (List Nat × List Nat) := (true, [([], []), ([], []), ([], []), ([], []), ([2, 3], [2, 3]), ([4], [4]), ([], []), ([6], [6]), ([7], [7]), ([8], [8]), ([9], [9]), ([5, 10], [5, 10]), ([0, 1, 0, 1, 2, 3, 4, 5, 6, 7, 8, 9, 10, 11], [0, 1]), ([12, 11, 11, 0, 1, 2, 3, 4, 5, 6, 7, 8, 9, 10, 11], [11, 12])])
def laws_FnRows.B11 : List Nat := [0, 0, 0, 0, 12, 28, 0, 64, 192, 448, 960, 2044, 4095, 8191]
theorem laws_FnRows.tab11 : rtab .any (opsOf Try.f14 11) = laws_FnRows.T11 := by kernel_rfl
theorem laws_FnRows.bits11 : waitsOk laws_FnRows.T11.2 laws_FnRows.B11 = true := by kernel_rfl
def laws_FnRows.T13 : Bool × List (List Nat × List Nat) := (true, [([], []), ([], []), ([0, 1], [0, 1]), ([2], [2]), ([3, 2], [3]), ([4], [4]), ([4], [4]), ([5, 6, 4, 4], [4, 5, 6]), ([4], [4]), ([4], [4]), ([8, 9, 7, 4], [4, 8, 9]), ([7, 10, 4], [4, 7, 10]), ([4, 11], [4, 11]), ([12, 10], [12]), ([13], [13]), ([14, 13, 13], [13, 14]), ([13], [13]), ([16, 15, 13], [13, 16]), ([15, 17, 13], [13, 15, 17]), ([13, 18], [13, 18]), ([19, 17, 0, 1, 2, 3, 4, 5, 6, 7, 8, 9, 10, 11, 12, 13, 14, 15, 16, 17, 18, 19], [19])])
def laws_FnRows.B13 : List Nat := [0, 0, 3, 7, 15, 31, 31, 127, 31, 31, 1023, 2047, 4095, 8191, 16383, 32767, 16383, 131071, 262143, 524287, 1048575]
theorem laws_FnRows.tab13 : rtab .any (opsOf Try.f14 13) = laws_FnRows.T13 := by kernel_rfl
theorem laws_FnRows.bits13 : waitsOk laws_FnRows.T13.2 laws_FnRows.B13 = true := by kernel_rfl
theorem laws_FnRows.calls (k : Nat) (A0 : Option Addr) (c0 : Nat) (l0 : List Int) (r : Bool) (w : World) (hr0 : Kd.C (Kd.int .u8) w A0 l0.length l0) (hc0 : l0.length ≤ c0) (htrue : Aside0 (r = true)) (h : laws_FnRows.f k l0 = some r) :
  Calls Try.prog 14 #[.slice A0 l0.length c0] w fun e w' => e = .returned (.bool r) ∧ Below w.heap.size w w' := by
 have hu43 := Try.underlying43
 have HR0 := Aside0.mk hr0
 have HC0 := Aside0.mk hc0
 clear hr0 hc0
 have HB := Aside0.mk (Below.refl w.heap.size w)
 have H : ((laws_big.f l0).bind fun t454 => (if t454 = true then (some true) else ((spec_DrawPlaces.f k l0).bind fun t455 => (if 0 < (t455.length : Int) then ((impl_CountSystem.f k).bind fun bt459 => ((impl_CountWitness.f k (Int.tmod (rd t455 0) 256)).bind fun t465 => ((impl_SystemOk.f k bt459.1 bt459.2.1 bt459.2.2).bind fun t468 => (if t468 = true then ((impl_Satisfied.f k bt459.1 bt459.2.1 bt459.2.2 t465).bind fun t469 => (if t469 = true then (if (t465.length : Int) = bt459.1 then ((impl_PublicOf.f (Int.tmod (rd t455 0) 256)).bind fun t470 => (if 1 ≤ 3 then (if 3 ≤ (t465.length : Int) then ((laws_sameInts.f k t470 ((t465.take 3).drop 1)).bind fun t478 => (laws_FnRows.j0 k l0 t455 t465 (!t478) bt459.1 bt459.2.1 bt459.2.2)) else (none)) else (none))) else (laws_FnRows.j0 k l0 t455 t465 true bt459.1 bt459.2.1 bt459.2.2)) else (laws_FnRows.j0 k l0 t455 t465 true bt459.1 bt459.2.1 bt459.2.2))) else (laws_FnRows.j0 k l0 t455 t465 true bt459.1 bt459.2.1 bt459.2.2))))) else (none))))) = some r := h
 clear h
 replace H := Option.bind_eq_some_iff.mp H
 obtain ⟨t454, A20, H⟩ := H
 have A2 := Aside0.mk A20
 clear A20
 by_cases c3 : t454 = true
 ·subst c3
  rw [if_pos rfl] at H
  obtain rfl := Option.some.inj H
  go_enter Try.func14, Try.ntmps14
  go_wp2_with (first | (refine gC (some 12) Try.func49 #[.slice A0 l0.length c0] ?_; (with_reducible refine (laws_big.calls _ _ l0 true _ ?side1 ?side2 A2.out).mono ?_); (case side1 => exact cP HR0.out); (case side2 => exact HC0.out); rintro e w' ⟨rfl, ⟨nd, rfl⟩⟩; refine ⟨_, rfl, ?_⟩))
  go_ret
  exact ⟨rR, bZ HB⟩
 ·replace c3 := Bool.eq_false_iff.mpr c3
  subst c3
  rw [if_neg (show ¬ (false = true) by decide)] at H
  replace H := Option.bind_eq_some_iff.mp H
  obtain ⟨t455, A40, H⟩ := H
  have A4 := Aside0.mk A40
  clear A40
  by_cases c5 : 0 < (t455.length : Int)
  ·rw [if_pos c5] at H
   have c5b0 := decide_eq_true c5
   have c5b1 : decide (0 < t455.length) = true := decide_eq_true (by omega)
   clear c5
   replace H := Option.bind_eq_some_iff.mp H
   obtain ⟨⟨t459, t460, t461⟩, A60, H⟩ := H
   have A6 := Aside0.mk A60
   clear A60
   replace H := Option.bind_eq_some_iff.mp H
   obtain ⟨t465, A70, H⟩ := H
   have A7 := Aside0.mk A70
   clear A70
   have HC8 := Aside0.mk H
   clear H
   go_enter Try.func14, Try.ntmps14
   go_upto_region 7 with (first | (refine gC (some 12) Try.func49 #[.slice A0 l0.length c0] ?_; (with_reducible refine (laws_big.calls _ _ l0 false _ ?side1 ?side2 A2.out).mono ?_); (case side1 => exact cP HR0.out); (case side2 => exact HC0.out); rintro e w' ⟨rfl, ⟨nd, rfl⟩⟩; refine ⟨_, rfl, ?_⟩) | (refine gC (some 14) Try.func50 #[.slice A0 l0.length c0] ?_; (with_reducible refine (spec_DrawPlaces.calls k _ _ l0 t455 _ ?side1 ?side2 A4.out).mono ?_); (case side1 => exact cP HR0.out); (case side2 => exact HC0.out); rintro e w9 ⟨v456, rfl, ho0, hb⟩; refine ⟨_, rfl, ?_⟩; have HO457 := Aside0.mk (Kd.R_lower ho0 (below_size (bZ HB))); replace HB := bS HB hb; (try clear hb); (try clear ho0); obtain ⟨Ao10, co10, eo10⟩ := Kd.R_slice HO457.out; subst eo10; have p458 : 0 ≤ (0 : Int) := (by omega); have q458 : 0 < (t455.length : Int) := of_decide_eq_true (by first | (with_reducible assumption) | assumption); obtain ⟨ad458, e458, hx458_0⟩ := Kd.at_int (Kd.R_reads' HO457.out).2.2 0 p458 q458; cases e458; have qi458 : (0 < t455.length) = True := eq_true (by omega); (try rw [show ((0 : Int)).toNat = 0 from rfl] at hx458_0); (try rw [Addr.add_zero'] at hx458_0); replace p458 := eq_true p458; replace q458 := eq_true q458) | (refine gC (some 19) Try.func38 #[] ?_; (with_reducible refine (impl_CountSystem.calls k  t459 t460 t461 _ A6.out).mono ?_); rintro e w11 ⟨v462, rfl, ho0, hb⟩; refine ⟨_, rfl, ?_⟩; have HO463 := Aside0.mk (Kd.N_lower (Kd.N_mono (ok' := fun k_ => some k_ ≠ (.slice (some ad458) t455.length co10 : Value).ownBlock) (Kd.S_N (Kd.S_bound ho0)) (fun k_ hk_ => (Kd.fresh' (Kd.R_lt (rP HO457)) k_ hk_.2.1))) (below_size (bZ HB))); replace HO457 := Aside0.mk (Kd.R_below (rP HO457) hb); replace HB := bS HB hb; (try clear hb); (try clear ho0)) | ((with_reducible refine gate_dst (N := 5) rfl ?_); (try (refine gate_guard (by rfl) ?_; dsimp only)); refine box_event ?hg (N := 5) ?hd (cs := #[.int .i64 0, .int .i64 0, .slice none 0 0]) (t := 43) ?hr ?_; (case hd => rfl); (case hg => rfl); (case hr => first | (go_simp; done) | (go_simp; rfl)); intro gb464 hg w12 hbox hb; replace HO457 := Aside0.mk (Kd.R_below (rP HO457) hb); replace HO463 := Aside0.mk (Kd.N_below (Kd.N_elderB (by (with_reducible repeat (first | apply Kd.N_alloc | apply Kd.N_drewN | apply Kd.N_drew)); exact HO463.out) gb464 (Nat.le_of_eq hg.symm)) hb); have BK464 := Aside0.mk (hbox); have GW464 := bG HB hg; have GE464 := bG HB hg; replace HB := bS HB hb; clear hb hbox hg; obtain ⟨hcz13_0, hcz13_1, hcz13_2, hfz13_0, hfz13_1, hfz13_2⟩ := bK3 (w := w12) BK464; obtain ⟨Ao14, co14, eo14⟩ := Kd.N_slice HO463.out; subst eo14) | (refine gC (some 21) Try.func36 #[.int .i64 (Int.tmod (rd t455 0) 256)] ?_; (with_reducible refine (impl_CountWitness.calls k (Int.tmod (rd t455 0) 256) t465 _ A7.out).mono ?_); rintro e w15 ⟨v466, rfl, ho0, hb⟩; refine ⟨_, rfl, ?_⟩; replace HO463 := Aside0.mk (Kd.N_elder' (by (with_reducible repeat (first | apply Kd.N_alloc | apply Kd.N_drewN | apply Kd.N_drew)); exact (Kd.N_mono (Kd.N_far (p := ⟨gb464, 2, none⟩) (Kd.N_far (p := ⟨gb464, 1, none⟩) (Kd.N_far (p := ⟨gb464, 0, none⟩) (Kd.N_mono HO463.out (fun k_ hk => (⟨hk, hk.2⟩ : _ ∧ k_ ≠ gb464))) (fun _ hk => hk.2) (.int .i64 t459)) (fun _ hk => hk.2) (.int .i64 t460)) (fun _ hk => hk.2) (.slice Ao14 t461.length co14)) (fun _ h_ => h_.1))) (Kd.R_base ho0) hb); have HO467 := Aside0.mk (Kd.R_lower (Kd.R_new' ho0 (Kd.R_lt (by (with_reducible repeat (first | apply Kd.R_alloc | apply Kd.R_drewN | apply Kd.R_drew)); exact (Kd.R_mono (Kd.R_far (p := ⟨gb464, 2, none⟩) (Kd.R_far (p := ⟨gb464, 1, none⟩) (Kd.R_far (p := ⟨gb464, 0, none⟩) (Kd.R_types HO457.out BK464.out (by decide)) (fun _ hk => hk.2) (.int .i64 t459)) (fun _ hk => hk.2) (.int .i64 t460)) (fun _ hk => hk.2) (.slice Ao14 t461.length co14)) (fun _ h_ => h_.1))))) (below_size (bZ HB))); replace HO457 := Aside0.mk (Kd.R_elder' (by (with_reducible repeat (first | apply Kd.R_alloc | apply Kd.R_drewN | apply Kd.R_drew)); exact (Kd.R_mono (Kd.R_far (p := ⟨gb464, 2, none⟩) (Kd.R_far (p := ⟨gb464, 1, none⟩) (Kd.R_far (p := ⟨gb464, 0, none⟩) (Kd.R_types HO457.out BK464.out (by decide)) (fun _ hk => hk.2) (.int .i64 t459)) (fun _ hk => hk.2) (.int .i64 t460)) (fun _ hk => hk.2) (.slice Ao14 t461.length co14)) (fun _ h_ => h_.1))) (Kd.R_base ho0) hb); replace BK464 := bV 43 #[.int .i64 t459, .int .i64 t460, .slice Ao14 t461.length co14] BK464 hb; replace HB := bS HB hb; (try clear hb); (try clear ho0)))
   (try simp only [Act.put, List.setIfInBounds_toArray, List.set_cons_zero, List.set_cons_succ])
   go_cut [45] (fun v45 wc => ∃ (kq : Nat) (x45_7 : Bool), v45 = .bool x45_7 ∧ Aside0 (laws_FnRows.j0 kq l0 t455 t465 x45_7 t459 t460 t461 = some r) ∧ Aside0 (kq ≤ k) ∧ Aside0 (Kd.R (Kd.int .i64) 3 wc w.heap.size (fun k_ => some k_ ≠ (v466 : Value).ownBlock) (.slice (some ad458) t455.length co10) t455) ∧ Aside0 (Kd.R (Kd.int .i64) 3 wc w.heap.size (fun k_ => some k_ ≠ ((.slice (some ad458) t455.length co10) : Value).ownBlock) v466 t465) ∧ Aside0 (Kd.N k75 75 wc w.heap.size (fun k_ => some k_ ≠ ((.slice (some ad458) t455.length co10) : Value).ownBlock ∧ some k_ ≠ (v466 : Value).ownBlock ∧ k_ ≠ gb464) (.slice Ao14 t461.length co14) t461) ∧ Aside0 (wc.heap[gb464]? = some (.cells #[.int .i64 t459, .int .i64 t460, (.slice Ao14 t461.length co14)] 43 (0, 0))) ∧ Aside0 (Below w.heap.size w wc))
   case first =>
    have H := HC8.out
    clear HC8
    replace H := Option.bind_eq_some_iff.mp H
    obtain ⟨t468, A160, H⟩ := H
    have A16 := Aside0.mk A160
    clear A160
    by_cases c17 : t468 = true
    ·subst c17
     rw [if_pos rfl] at H
     replace H := Option.bind_eq_some_iff.mp H
     obtain ⟨t469, A180, H⟩ := H
     have A18 := Aside0.mk A180
     clear A180
     by_cases c19 : t469 = true
     ·subst c19
      rw [if_pos rfl] at H
      by_cases c20 : (t465.length : Int) = t459
      ·rw [if_pos c20] at H
       have c20b0 : ((t465.length : Int) == t459) = true := beq_iff_eq.mpr c20
       have c20b1 : ((t465.length : Int) != t459) = false := bne_eq_false_iff_eq.mpr c20
       clear c20
       (first | rw [c20b0] | (simp only [i64_w, i32_w]; rw [c20b0]) | rw [c20b1] | skip)
       replace H := Option.bind_eq_some_iff.mp H
       obtain ⟨t470, A210, H⟩ := H
       have A21 := Aside0.mk A210
       clear A210
       by_cases c22 : 1 ≤ 3
       ·rw [if_pos c22] at H
        have c22b0 := eq_true c22
        have c22b1 := decide_eq_true c22
        clear c22
        by_cases c23 : 3 ≤ (t465.length : Int)
        ·rw [if_pos c23] at H
         have c23b0 := eq_true c23
         have c23b1 := decide_eq_true c23
         clear c23
         obtain ⟨y473, hy473⟩ : ∃ y_ : List Int, y_ = ((t465.take 3).drop 1) := ⟨_, rfl⟩
         replace H : ((laws_sameInts.f k t470 y473).bind fun t478 => (laws_FnRows.j0 k l0 t455 t465 (!t478) t459 t460 t461)) = some r := by first | (rw [hy473]; with_reducible exact H) | (have H2_ := (Option.bind_some _ _).symm.trans H; rw [hy473]; with_reducible exact H2_) | (have H2_ := (Option.bind_some _ _).symm.trans H; with_reducible exact H2_) | with_reducible exact H | (rw [hy473]; exact H) | exact H
         have Ny473 := Aside0.mk hy473
         clear hy473
         replace H := Option.bind_eq_some_iff.mp H
         obtain ⟨t478, A240, H⟩ := H
         have A24 := Aside0.mk A240
         clear A240
         have H' := Aside0.mk H
         clear H
         try go_wp2
         replace HO457 := Aside0.mk (Kd.R_drew HO457.out)
         replace HO463 := Aside0.mk (Kd.N_drew HO463.out)
         replace HO467 := Aside0.mk (Kd.R_drew HO467.out)
         replace BK464 := Aside0.mk (blk_drew BK464.out)
         replace HB := Aside0.mk (below_drew1 HB.out)
         refine start_ (n := 24) (S := fun w' => SQ3 w' gb464 (.int .i64 t459) (.int .i64 t460) (.slice Ao14 t461.length co14)) (ds := []) #[false, false, false, false, false, false, false, false, false, false, false, false, false, false, false, false, false, false, false, false, false, false, false, false] (by kernel_rfl) rfl rfl (bT3 BK464) (fun hHeld => ?_); refine with_tabW laws_FnRows.tab7 laws_FnRows.bits7 (fun HT_ HW_ => ?_)
         generalize w15.drew = w25 at HO457 HO463 HO467 BK464 HB hHeld ⊢
         refine tI3 0 (some 22) HT_.out HW_.out hHeld ?_
         refine oI 1 (some 23) HT_.out (fun K hK => ?_)
         refine gO Try.func45 #[.agg #[.int .i64 t459, .int .i64 t460, .slice Ao14 t461.length co14]] ?_
         with_reducible refine (impl_SystemOk.calls k t459 t460 _ _ t461 true _ ?side1 ?side2 A16.out).mono ?_
         (case side1 => exact cP ((Kd.N_reads' HO463.out).2.2))
         (case side2 => exact (Kd.N_reads' HO463.out).2.1)
         rintro e w26 ⟨rfl, hb⟩
         refine ⟨_, rfl, ?_⟩
         replace HO457 := Aside0.mk (Kd.R_below (rP HO457) hb)
         replace HO463 := Aside0.mk (Kd.N_below (by (with_reducible repeat (first | apply Kd.N_alloc | apply Kd.N_drewN | apply Kd.N_drew)); exact HO463.out) hb)
         replace HO467 := Aside0.mk (Kd.R_below (rP HO467) hb)
         replace BK464 := bB BK464 hb
         replace HB := bS HB hb
         (try clear hb)
         obtain ⟨Ao27, co27, eo27⟩ := Kd.R_slice HO467.out
         (first | subst eo27 | (injection eo27 with f1_ f2_ f3_; have f4_ := f1_.symm; have f5_ := f3_.symm; clear f1_ f2_ f3_; subst f4_; subst f5_))
         refine hK.out _ _ (bT3 BK464) (fun hHeld => ?_)
         clear hK K
         refine nO (some 23) ?_
         refine pI 2 (some 24) HT_.out ?_
         refine pI 3 (some 25) HT_.out ?_
         refine pI 5 (some 27) HT_.out ?_
         refine tI3 4 (some 26) HT_.out HW_.out hHeld ?_
         refine oI 6 (some 28) HT_.out (fun K hK => ?_)
         refine gO Try.func48 #[.agg #[.int .i64 t459, .int .i64 t460, .slice Ao14 t461.length co14], .slice Ao27 t465.length co27] ?_
         with_reducible refine (impl_Satisfied.calls k t459 t460 _ _ t461 _ _ t465 true _ ?side1 ?side2 ?side3 ?side4 A18.out).mono ?_
         (case side1 => exact cP ((Kd.N_reads' HO463.out).2.2))
         (case side2 => exact (Kd.N_reads' HO463.out).2.1)
         (case side3 => exact cP ((Kd.R_reads' HO467.out).2.2))
         (case side4 => exact (Kd.R_reads' HO467.out).2.1)
         rintro e w28 ⟨rfl, hb⟩
         refine ⟨_, rfl, ?_⟩
         replace HO457 := Aside0.mk (Kd.R_below (rP HO457) hb)
         replace HO463 := Aside0.mk (Kd.N_below (by (with_reducible repeat (first | apply Kd.N_alloc | apply Kd.N_drewN | apply Kd.N_drew)); exact HO463.out) hb)
         replace HO467 := Aside0.mk (Kd.R_below (rP HO467) hb)
         replace BK464 := bB BK464 hb
         replace HB := bS HB hb
         (try clear hb)
         refine hK.out _ _ (bT3 BK464) (fun hHeld => ?_)
         clear hK K
         refine nO (some 28) ?_
         refine pI 7 (some 29) HT_.out ?_
         refine pI 8 (some 30) HT_.out ?_
         refine pI 9 (some 31) HT_.out ?_
         refine pI 10 (some 32) HT_.out ?_
         refine pI 11 (some 33) HT_.out ?_
         refine pI 12 (some 34) HT_.out ?_
         refine tI3 13 (some 35) HT_.out HW_.out hHeld ?_
         refine pI 14 (some 36) HT_.out ?_
         refine pI 15 (some 37) HT_.out ?_
         refine pI 16 (some 38) HT_.out ?_
         refine pI 17 (some 39) HT_.out ?_
         refine pI 19 (some 41) HT_.out ?_
         have q30 : (3 : Int) ≤ ((t465.length : Int) : Int) := of_decide_eq_true (by first | (with_reducible assumption) | assumption)
         obtain ⟨i030, hi030, _, hsz30, _⟩ := info_parts info3
         have hroom30 : t465.length ≤ co27 := (Kd.R_reads' HO467.out).2.1
         have ql30 : (1 : Int) ≤ (3 : Int) := (by omega)
         have hcut30 := cut_mid (P := Try.prog) 31 3 .i64 .i64 Try.underlying31 hi030 1 hsz30 Ao27 t465.length co27 1 3 (by omega) ql30 q30 hroom30
         obtain ⟨A30, hA30⟩ : ∃ A1, A1 = (if co27 = (1 : Int).toNat then Ao27 else (Ao27 : Option Addr).map (·.add ((1 : Int).toNat * 1))) := ⟨_, rfl⟩
         obtain ⟨c30, hc30⟩ : ∃ c1, c1 = co27 - (1 : Int).toNat := ⟨_, rfl⟩
         have hy30 : y473.length = (3 : Int).toNat - (1 : Int).toNat := (by rw [Ny473.out, List.length_drop, List.length_take] <;> omega)
         rw [← hy30, ← hA30, ← hc30] at hcut30
         have qz30 := Aside0.mk q30
         replace q30 := eq_true q30
         have KY30 := Aside0.mk hy30
         have KA30 := Aside0.mk hA30
         have KC30 := Aside0.mk hc30
         have KR30 := Aside0.mk hroom30
         clear hy30 hA30 hc30 hroom30 hi030 hsz30
         refine pI 20 (some 42) HT_.out ?_
         refine oI 18 (some 40) HT_.out (fun K hK => ?_)
         refine gO Try.func31 #[.int .i64 (Int.tmod (rd t455 0) 256)] ?_
         with_reducible refine (impl_PublicOf.calls (Int.tmod (rd t455 0) 256) t470 _ A21.out).mono ?_
         rintro e w29 ⟨v471, rfl, ho0, hb⟩
         refine ⟨_, rfl, ?_⟩
         replace HO463 := Aside0.mk (Kd.N_elder' (by (with_reducible repeat (first | apply Kd.N_alloc | apply Kd.N_drewN | apply Kd.N_drew)); exact HO463.out) (Kd.R_base ho0) hb)
         have HO472 := Aside0.mk (Kd.R_lower (Kd.R_new' (Kd.R_new' ho0 (Kd.R_lt (rP HO457))) (Kd.R_lt (rP HO467))) (below_size (bZ HB)))
         replace HO457 := Aside0.mk (Kd.R_elder' (rP HO457) (Kd.R_base ho0) hb)
         replace HO467 := Aside0.mk (Kd.R_elder' (rP HO467) (Kd.R_base ho0) hb)
         replace BK464 := bB BK464 hb
         replace HB := bS HB hb
         (try clear hb)
         (try clear ho0)
         have hy30 := KY30.out
         have hA30 := KA30.out
         have hc30 := KC30.out
         have hroom30 := KR30.out
         have qy30 := qz30.out
         have hC30 : Kd.F (Kd.int .i64) _ _ Ao27 t465.length t465 := (Kd.V_at (base := w.heap.size) (Kd.R_V (Kd.R_types (Kd.R_apart' (HO467.out) (Kd.N_typed HO463.out) (by decide)) BK464.out (by decide)))).2.2
         have hr30 := Kd.F_mid (lo := (1 : Int).toNat) (hi := (3 : Int).toNat) (c := co27) hC30 (by omega) (by omega) hroom30
         rw [show ((t465).take (3 : Int).toNat).drop (1 : Int).toNat = y473 from Ny473.out.symm] at hr30
         replace hr30 : Kd.F (Kd.int .i64) _ _ A30 y473.length y473 := (by rw [hA30]; exact hr30)
         have HO477 := Aside0.mk (show Kd.V (Kd.int .i64) 3 _ w.heap.size _ (.slice A30 y473.length c30) y473 from Kd.V_mk (by rw [hy30, hc30]; exact Nat.sub_le_sub_right (Nat.le_trans (by omega) hroom30) _) hr30)
         have HC477 := Aside0.mk (show y473.length ≤ c30 from by rw [hy30, hc30]; exact Nat.sub_le_sub_right (Nat.le_trans (by omega) hroom30) _)
         clear hr30 hC30 hroom30 hc30
         clear hy30 hA30
         clear qz30 qy30 KC30 KR30
         obtain ⟨Ao31, co31, eo31⟩ := Kd.R_slice HO472.out
         (first | subst eo31 | (injection eo31 with f1_ f2_ f3_; have f4_ := f1_.symm; have f5_ := f3_.symm; clear f1_ f2_ f3_; subst f4_; subst f5_))
         refine hK.out _ _ (bT3 BK464) (fun hHeld => ?_)
         clear hK K
         refine nO (some 40) ?_
         refine oI 21 (some 43) HT_.out (fun K hK => ?_)
         refine gO Try.func51 #[.slice Ao31 t470.length co31, .slice A30 y473.length c30] ?_
         with_reducible refine (laws_sameInts.calls k _ _ t470 _ _ y473 t478 _ ?side1 ?side2 ?side3 ?side4 A24.out).mono ?_
         (case side1 => exact cP ((Kd.R_reads' HO472.out).2.2))
         (case side2 => exact (Kd.R_reads' HO472.out).2.1)
         (case side3 => exact cP ((Kd.V_reads' HO477.out).2.2))
         (case side4 => exact (Kd.V_reads' HO477.out).2.1)
         rintro e w' ⟨rfl, ⟨nd, rfl⟩⟩
         refine ⟨_, rfl, ?_⟩
         refine hK.out _ _ (bT3 BK464) (fun hHeld => ?_)
         clear hK K
         refine nO (some 43) ?_
         refine pI 22 (some 44) HT_.out ?_
         refine pI 23 (some 45) HT_.out ?_
         refine done_ (done_of HT_.out (by kernel_rfl)) ?_
         try go_wp2
         go_meet
         case rel => exact ⟨_, (!t478), rS, H', ⟨by first | omega | exact Nat.le_refl _⟩, ⟨by (with_reducible repeat (first | apply Kd.R_alloc | apply Kd.R_drewN | apply Kd.R_drew)); exact Kd.R_mono HO457.out (fun _ hk => hk.1.2)⟩, ⟨by (with_reducible repeat (first | apply Kd.R_alloc | apply Kd.R_drewN | apply Kd.R_drew)); exact Kd.R_mono HO467.out (fun _ hk => hk.1.2)⟩, ⟨by (with_reducible repeat (first | apply Kd.N_alloc | apply Kd.N_drewN | apply Kd.N_drew)); exact Kd.N_mono HO463.out (fun _ hk => ⟨hk.1.1.1, ⟨hk.1.2, hk.1.1.2⟩⟩)⟩, ⟨bP BK464⟩, ⟨bZ HB⟩⟩
        ·rw [if_neg c23] at H
         exact absurd H (by simp)
       ·rw [if_neg c22] at H
        exact absurd H (by simp)
      ·rw [if_neg c20] at H
       have c20b0 : ((t465.length : Int) == t459) = false := beq_eq_false_iff_ne.mpr c20
       have c20b1 : ((t465.length : Int) != t459) = true := bne_iff_ne.mpr c20
       (first | rw [c20b0] | (simp only [i64_w, i32_w]; rw [c20b0]) | rw [c20b1] | skip)
       have H' := Aside0.mk H
       clear H
       try go_wp2
       replace HO457 := Aside0.mk (Kd.R_drew HO457.out)
       replace HO463 := Aside0.mk (Kd.N_drew HO463.out)
       replace HO467 := Aside0.mk (Kd.R_drew HO467.out)
       replace BK464 := Aside0.mk (blk_drew BK464.out)
       replace HB := Aside0.mk (below_drew1 HB.out)
       refine start_ (n := 24) (S := fun w' => SQ3 w' gb464 (.int .i64 t459) (.int .i64 t460) (.slice Ao14 t461.length co14)) (ds := []) #[false, false, false, false, false, false, false, false, false, false, false, false, false, false, false, false, false, false, false, false, false, false, false, false] (by kernel_rfl) rfl rfl (bT3 BK464) (fun hHeld => ?_); refine with_tabW laws_FnRows.tab7 laws_FnRows.bits7 (fun HT_ HW_ => ?_)
       generalize w15.drew = w32 at HO457 HO463 HO467 BK464 HB hHeld ⊢
       refine tI3 0 (some 22) HT_.out HW_.out hHeld ?_
       refine oI 1 (some 23) HT_.out (fun K hK => ?_)
       refine gO Try.func45 #[.agg #[.int .i64 t459, .int .i64 t460, .slice Ao14 t461.length co14]] ?_
       with_reducible refine (impl_SystemOk.calls k t459 t460 _ _ t461 true _ ?side1 ?side2 A16.out).mono ?_
       (case side1 => exact cP ((Kd.N_reads' HO463.out).2.2))
       (case side2 => exact (Kd.N_reads' HO463.out).2.1)
       rintro e w33 ⟨rfl, hb⟩
       refine ⟨_, rfl, ?_⟩
       replace HO457 := Aside0.mk (Kd.R_below (rP HO457) hb)
       replace HO463 := Aside0.mk (Kd.N_below (by (with_reducible repeat (first | apply Kd.N_alloc | apply Kd.N_drewN | apply Kd.N_drew)); exact HO463.out) hb)
       replace HO467 := Aside0.mk (Kd.R_below (rP HO467) hb)
       replace BK464 := bB BK464 hb
       replace HB := bS HB hb
       (try clear hb)
       obtain ⟨Ao34, co34, eo34⟩ := Kd.R_slice HO467.out
       (first | subst eo34 | (injection eo34 with f1_ f2_ f3_; have f4_ := f1_.symm; have f5_ := f3_.symm; clear f1_ f2_ f3_; subst f4_; subst f5_))
       refine hK.out _ _ (bT3 BK464) (fun hHeld => ?_)
       clear hK K
       refine nO (some 23) ?_
       refine pI 2 (some 24) HT_.out ?_
       refine pI 3 (some 25) HT_.out ?_
       refine pI 5 (some 27) HT_.out ?_
       refine tI3 4 (some 26) HT_.out HW_.out hHeld ?_
       refine oI 6 (some 28) HT_.out (fun K hK => ?_)
       refine gO Try.func48 #[.agg #[.int .i64 t459, .int .i64 t460, .slice Ao14 t461.length co14], .slice Ao34 t465.length co34] ?_
       with_reducible refine (impl_Satisfied.calls k t459 t460 _ _ t461 _ _ t465 true _ ?side1 ?side2 ?side3 ?side4 A18.out).mono ?_
       (case side1 => exact cP ((Kd.N_reads' HO463.out).2.2))
       (case side2 => exact (Kd.N_reads' HO463.out).2.1)
       (case side3 => exact cP ((Kd.R_reads' HO467.out).2.2))
       (case side4 => exact (Kd.R_reads' HO467.out).2.1)
       rintro e w35 ⟨rfl, hb⟩
       refine ⟨_, rfl, ?_⟩
       replace HO457 := Aside0.mk (Kd.R_below (rP HO457) hb)
       replace HO463 := Aside0.mk (Kd.N_below (by (with_reducible repeat (first | apply Kd.N_alloc | apply Kd.N_drewN | apply Kd.N_drew)); exact HO463.out) hb)
       replace HO467 := Aside0.mk (Kd.R_below (rP HO467) hb)
       replace BK464 := bB BK464 hb
       replace HB := bS HB hb
       (try clear hb)
       refine hK.out _ _ (bT3 BK464) (fun hHeld => ?_)
       clear hK K
       refine nO (some 28) ?_
       refine pI 7 (some 29) HT_.out ?_
       refine pI 8 (some 30) HT_.out ?_
       refine pI 9 (some 31) HT_.out ?_
       refine pI 10 (some 32) HT_.out ?_
       refine pI 11 (some 33) HT_.out ?_
       refine pI 12 (some 34) HT_.out ?_
       refine tI3 13 (some 35) HT_.out HW_.out hHeld ?_
       refine pI 14 (some 36) HT_.out ?_
       refine pI 15 (some 37) HT_.out ?_
       refine pI 16 (some 38) HT_.out ?_
       refine pK 17 (some 39) HT_.out ?_
       refine pK 18 (some 40) HT_.out ?_
       refine pK 19 (some 41) HT_.out ?_
       refine pK 20 (some 42) HT_.out ?_
       refine pK 21 (some 43) HT_.out ?_
       refine pK 22 (some 44) HT_.out ?_
       refine pI 23 (some 45) HT_.out ?_
       refine done_ (done_of HT_.out (by kernel_rfl)) ?_
       try go_wp2
       go_meet
       case rel => exact ⟨_, (true), rS, H', ⟨by first | omega | exact Nat.le_refl _⟩, ⟨by (with_reducible repeat (first | apply Kd.R_alloc | apply Kd.R_drewN | apply Kd.R_drew)); exact Kd.R_mono HO457.out (fun _ hk => hk.2)⟩, ⟨by (with_reducible repeat (first | apply Kd.R_alloc | apply Kd.R_drewN | apply Kd.R_drew)); exact Kd.R_mono HO467.out (fun _ hk => hk.2)⟩, ⟨by (with_reducible repeat (first | apply Kd.N_alloc | apply Kd.N_drewN | apply Kd.N_drew)); exact Kd.N_mono HO463.out (fun _ hk => ⟨hk.1.1, ⟨hk.2, hk.1.2⟩⟩)⟩, ⟨bP BK464⟩, ⟨bZ HB⟩⟩
     ·replace c19 := Bool.eq_false_iff.mpr c19
      subst c19
      rw [if_neg (show ¬ (false = true) by decide)] at H
      have H' := Aside0.mk H
      clear H
      try go_wp2
      replace HO457 := Aside0.mk (Kd.R_drew HO457.out)
      replace HO463 := Aside0.mk (Kd.N_drew HO463.out)
      replace HO467 := Aside0.mk (Kd.R_drew HO467.out)
      replace BK464 := Aside0.mk (blk_drew BK464.out)
      replace HB := Aside0.mk (below_drew1 HB.out)
      refine start_ (n := 24) (S := fun w' => SQ3 w' gb464 (.int .i64 t459) (.int .i64 t460) (.slice Ao14 t461.length co14)) (ds := []) #[false, false, false, false, false, false, false, false, false, false, false, false, false, false, false, false, false, false, false, false, false, false, false, false] (by kernel_rfl) rfl rfl (bT3 BK464) (fun hHeld => ?_); refine with_tabW laws_FnRows.tab7 laws_FnRows.bits7 (fun HT_ HW_ => ?_)
      generalize w15.drew = w36 at HO457 HO463 HO467 BK464 HB hHeld ⊢
      refine tI3 0 (some 22) HT_.out HW_.out hHeld ?_
      refine oI 1 (some 23) HT_.out (fun K hK => ?_)
      refine gO Try.func45 #[.agg #[.int .i64 t459, .int .i64 t460, .slice Ao14 t461.length co14]] ?_
      with_reducible refine (impl_SystemOk.calls k t459 t460 _ _ t461 true _ ?side1 ?side2 A16.out).mono ?_
      (case side1 => exact cP ((Kd.N_reads' HO463.out).2.2))
      (case side2 => exact (Kd.N_reads' HO463.out).2.1)
      rintro e w37 ⟨rfl, hb⟩
      refine ⟨_, rfl, ?_⟩
      replace HO457 := Aside0.mk (Kd.R_below (rP HO457) hb)
      replace HO463 := Aside0.mk (Kd.N_below (by (with_reducible repeat (first | apply Kd.N_alloc | apply Kd.N_drewN | apply Kd.N_drew)); exact HO463.out) hb)
      replace HO467 := Aside0.mk (Kd.R_below (rP HO467) hb)
      replace BK464 := bB BK464 hb
      replace HB := bS HB hb
      (try clear hb)
      obtain ⟨Ao38, co38, eo38⟩ := Kd.R_slice HO467.out
      (first | subst eo38 | (injection eo38 with f1_ f2_ f3_; have f4_ := f1_.symm; have f5_ := f3_.symm; clear f1_ f2_ f3_; subst f4_; subst f5_))
      refine hK.out _ _ (bT3 BK464) (fun hHeld => ?_)
      clear hK K
      refine nO (some 23) ?_
      refine pI 2 (some 24) HT_.out ?_
      refine pI 3 (some 25) HT_.out ?_
      refine pI 5 (some 27) HT_.out ?_
      refine tI3 4 (some 26) HT_.out HW_.out hHeld ?_
      refine oI 6 (some 28) HT_.out (fun K hK => ?_)
      refine gO Try.func48 #[.agg #[.int .i64 t459, .int .i64 t460, .slice Ao14 t461.length co14], .slice Ao38 t465.length co38] ?_
      with_reducible refine (impl_Satisfied.calls k t459 t460 _ _ t461 _ _ t465 false _ ?side1 ?side2 ?side3 ?side4 A18.out).mono ?_
      (case side1 => exact cP ((Kd.N_reads' HO463.out).2.2))
      (case side2 => exact (Kd.N_reads' HO463.out).2.1)
      (case side3 => exact cP ((Kd.R_reads' HO467.out).2.2))
      (case side4 => exact (Kd.R_reads' HO467.out).2.1)
      rintro e w39 ⟨rfl, hb⟩
      refine ⟨_, rfl, ?_⟩
      replace HO457 := Aside0.mk (Kd.R_below (rP HO457) hb)
      replace HO463 := Aside0.mk (Kd.N_below (by (with_reducible repeat (first | apply Kd.N_alloc | apply Kd.N_drewN | apply Kd.N_drew)); exact HO463.out) hb)
      replace HO467 := Aside0.mk (Kd.R_below (rP HO467) hb)
      replace BK464 := bB BK464 hb
      replace HB := bS HB hb
      (try clear hb)
      refine hK.out _ _ (bT3 BK464) (fun hHeld => ?_)
      clear hK K
      refine nO (some 28) ?_
      refine pI 7 (some 29) HT_.out ?_
      refine pI 8 (some 30) HT_.out ?_
      refine pI 9 (some 31) HT_.out ?_
      refine pK 10 (some 32) HT_.out ?_
      refine pK 11 (some 33) HT_.out ?_
      refine pK 12 (some 34) HT_.out ?_
      refine pK 13 (some 35) HT_.out ?_
      refine pK 14 (some 36) HT_.out ?_
      refine pI 15 (some 37) HT_.out ?_
      refine pI 16 (some 38) HT_.out ?_
      refine pK 17 (some 39) HT_.out ?_
      refine pK 18 (some 40) HT_.out ?_
      refine pK 19 (some 41) HT_.out ?_
      refine pK 20 (some 42) HT_.out ?_
      refine pK 21 (some 43) HT_.out ?_
      refine pK 22 (some 44) HT_.out ?_
      refine pI 23 (some 45) HT_.out ?_
      refine done_ (done_of HT_.out (by kernel_rfl)) ?_
      try go_wp2
      go_meet
      case rel => exact ⟨_, (true), rS, H', ⟨by first | omega | exact Nat.le_refl _⟩, ⟨by (with_reducible repeat (first | apply Kd.R_alloc | apply Kd.R_drewN | apply Kd.R_drew)); exact Kd.R_mono HO457.out (fun _ hk => hk.2)⟩, ⟨by (with_reducible repeat (first | apply Kd.R_alloc | apply Kd.R_drewN | apply Kd.R_drew)); exact Kd.R_mono HO467.out (fun _ hk => hk.2)⟩, ⟨by (with_reducible repeat (first | apply Kd.N_alloc | apply Kd.N_drewN | apply Kd.N_drew)); exact Kd.N_mono HO463.out (fun _ hk => ⟨hk.1.1, ⟨hk.2, hk.1.2⟩⟩)⟩, ⟨bP BK464⟩, ⟨bZ HB⟩⟩
    ·replace c17 := Bool.eq_false_iff.mpr c17
     subst c17
     rw [if_neg (show ¬ (false = true) by decide)] at H
     have H' := Aside0.mk H
     clear H
     try go_wp2
     replace HO457 := Aside0.mk (Kd.R_drew HO457.out)
     replace HO463 := Aside0.mk (Kd.N_drew HO463.out)
     replace HO467 := Aside0.mk (Kd.R_drew HO467.out)
     replace BK464 := Aside0.mk (blk_drew BK464.out)
     replace HB := Aside0.mk (below_drew1 HB.out)
     refine start_ (n := 24) (S := fun w' => SQ3 w' gb464 (.int .i64 t459) (.int .i64 t460) (.slice Ao14 t461.length co14)) (ds := []) #[false, false, false, false, false, false, false, false, false, false, false, false, false, false, false, false, false, false, false, false, false, false, false, false] (by kernel_rfl) rfl rfl (bT3 BK464) (fun hHeld => ?_); refine with_tabW laws_FnRows.tab7 laws_FnRows.bits7 (fun HT_ HW_ => ?_)
     generalize w15.drew = w40 at HO457 HO463 HO467 BK464 HB hHeld ⊢
     refine tI3 0 (some 22) HT_.out HW_.out hHeld ?_
     refine oI 1 (some 23) HT_.out (fun K hK => ?_)
     refine gO Try.func45 #[.agg #[.int .i64 t459, .int .i64 t460, .slice Ao14 t461.length co14]] ?_
     with_reducible refine (impl_SystemOk.calls k t459 t460 _ _ t461 false _ ?side1 ?side2 A16.out).mono ?_
     (case side1 => exact cP ((Kd.N_reads' HO463.out).2.2))
     (case side2 => exact (Kd.N_reads' HO463.out).2.1)
     rintro e w41 ⟨rfl, hb⟩
     refine ⟨_, rfl, ?_⟩
     replace HO457 := Aside0.mk (Kd.R_below (rP HO457) hb)
     replace HO463 := Aside0.mk (Kd.N_below (by (with_reducible repeat (first | apply Kd.N_alloc | apply Kd.N_drewN | apply Kd.N_drew)); exact HO463.out) hb)
     replace HO467 := Aside0.mk (Kd.R_below (rP HO467) hb)
     replace BK464 := bB BK464 hb
     replace HB := bS HB hb
     (try clear hb)
     refine hK.out _ _ (bT3 BK464) (fun hHeld => ?_)
     clear hK K
     refine nO (some 23) ?_
     refine pI 2 (some 24) HT_.out ?_
     refine pI 3 (some 25) HT_.out ?_
     refine pK 4 (some 26) HT_.out ?_
     refine pK 5 (some 27) HT_.out ?_
     refine pK 6 (some 28) HT_.out ?_
     refine pK 7 (some 29) HT_.out ?_
     refine pI 8 (some 30) HT_.out ?_
     refine pI 9 (some 31) HT_.out ?_
     refine pK 10 (some 32) HT_.out ?_
     refine pK 11 (some 33) HT_.out ?_
     refine pK 12 (some 34) HT_.out ?_
     refine pK 13 (some 35) HT_.out ?_
     refine pK 14 (some 36) HT_.out ?_
     refine pI 15 (some 37) HT_.out ?_
     refine pI 16 (some 38) HT_.out ?_
     refine pK 17 (some 39) HT_.out ?_
     refine pK 18 (some 40) HT_.out ?_
     refine pK 19 (some 41) HT_.out ?_
     refine pK 20 (some 42) HT_.out ?_
     refine pK 21 (some 43) HT_.out ?_
     refine pK 22 (some 44) HT_.out ?_
     refine pI 23 (some 45) HT_.out ?_
     refine done_ (done_of HT_.out (by kernel_rfl)) ?_
     try go_wp2
     go_meet
     case rel => exact ⟨_, (true), rS, H', ⟨by first | omega | exact Nat.le_refl _⟩, ⟨by (with_reducible repeat (first | apply Kd.R_alloc | apply Kd.R_drewN | apply Kd.R_drew)); exact Kd.R_mono HO457.out (fun _ hk => hk.2)⟩, ⟨by (with_reducible repeat (first | apply Kd.R_alloc | apply Kd.R_drewN | apply Kd.R_drew)); exact Kd.R_mono HO467.out (fun _ hk => hk.2)⟩, ⟨by (with_reducible repeat (first | apply Kd.N_alloc | apply Kd.N_drewN | apply Kd.N_drew)); exact Kd.N_mono HO463.out (fun _ hk => ⟨hk.1.1, ⟨hk.2, hk.1.2⟩⟩)⟩, ⟨bP BK464⟩, ⟨bZ HB⟩⟩
   case rest =>
    clear HC8
    try clear c1
    try clear p2
    try clear c4
    try clear c17
    try clear c19
    obtain ⟨kq, x45_7, rfl, HA, HJ7, HO_3, HO_6, HO_465002, BK464, HB⟩ := hcut
    cases kq with
    | zero => exact absurd HA.out (by simp [laws_FnRows.j0])
    | succ kj7 =>
     have H := HA.out
     clear HA
     simp only [laws_FnRows.j0] at H
     by_cases c42 : x45_7 = true
     ·subst c42
      rw [if_pos rfl] at H
      exact absurd (Option.some.inj H) (by rw [htrue.out]; exact Bool.false_ne_true)
     ·replace c42 := Bool.eq_false_iff.mpr c42
      subst c42
      rw [if_neg (show ¬ (false = true) by decide)] at H
      obtain ⟨y479, hy479⟩ : ∃ y_ : List Int, y_ = (([] : List Int)) := ⟨_, rfl⟩
      replace H : (if y479.length + t465.length < 17592186044416 then ((some (y479 ++ t465 : List Int)).bind fun y482 => (if 1 < (t455.length : Int) then (if (wrap64 ((t465.length : Int) - 1)) = 0 then (none) else (if 0 ≤ (wrap64 (1 + (Int.tmod (rd t455 1) (wrap64 ((t465.length : Int) - 1))))) then (if (wrap64 (1 + (Int.tmod (rd t455 1) (wrap64 ((t465.length : Int) - 1))))) < (y482.length : Int) then (if 2 < (t455.length : Int) then ((spec_ScAdd.f (rd y482 (wrap64 (1 + (Int.tmod (rd t455 1) (wrap64 ((t465.length : Int) - 1)))))) (wrap64 (1 + (Int.tmod (rd t455 2) 1008)))).bind fun t488 => ((spec_DrawSatisfied.f kj7 l0).bind fun bt490 => ((impl_Satisfied.f kj7 t459 t460 t461 (y482.set ((wrap64 (1 + (Int.tmod (rd t455 1) (wrap64 ((t465.length : Int) - 1))))) : Int).toNat t488)).bind fun t499 => (if t499 = true then (some false) else ((impl_Satisfied.f kj7 bt490.1 bt490.2.1 bt490.2.2.1 bt490.2.2.2).bind fun t500 => ((spec_Satisfied.f kj7 bt490.1 bt490.2.1 bt490.2.2.1 bt490.2.2.2).bind fun t501 => (if (t500 == t501) = true then ((impl_SystemOk.f kj7 bt490.1 bt490.2.1 bt490.2.2.1).bind fun t502 => ((spec_SystemOk.f kj7 bt490.1 bt490.2.1 bt490.2.2.1).bind fun t503 => (some (t502 == t503)))) else (some false)))))))) else (none)) else (none)) else (none))) else (none))) else (none)) = some r := by first | (rw [hy479]; with_reducible exact H) | (have H2_ := (Option.bind_some _ _).symm.trans H; rw [hy479]; with_reducible exact H2_) | (have H2_ := (Option.bind_some _ _).symm.trans H; with_reducible exact H2_) | with_reducible exact H | (rw [hy479]; exact H) | exact H
      have Ny479 := Aside0.mk hy479
      clear hy479
      by_cases c43 : y479.length + t465.length < 17592186044416
      ·rw [if_pos c43] at H
       have LMc43 := Aside0.mk c43
       clear c43
       obtain ⟨y482, hy482⟩ : ∃ y_ : List Int, y_ = (y479 ++ t465) := ⟨_, rfl⟩
       replace H : (if 1 < (t455.length : Int) then (if (wrap64 ((t465.length : Int) - 1)) = 0 then (none) else (if 0 ≤ (wrap64 (1 + (Int.tmod (rd t455 1) (wrap64 ((t465.length : Int) - 1))))) then (if (wrap64 (1 + (Int.tmod (rd t455 1) (wrap64 ((t465.length : Int) - 1))))) < (y482.length : Int) then (if 2 < (t455.length : Int) then ((spec_ScAdd.f (rd y482 (wrap64 (1 + (Int.tmod (rd t455 1) (wrap64 ((t465.length : Int) - 1)))))) (wrap64 (1 + (Int.tmod (rd t455 2) 1008)))).bind fun t488 => ((spec_DrawSatisfied.f kj7 l0).bind fun bt490 => ((impl_Satisfied.f kj7 t459 t460 t461 (y482.set ((wrap64 (1 + (Int.tmod (rd t455 1) (wrap64 ((t465.length : Int) - 1))))) : Int).toNat t488)).bind fun t499 => (if t499 = true then (some false) else ((impl_Satisfied.f kj7 bt490.1 bt490.2.1 bt490.2.2.1 bt490.2.2.2).bind fun t500 => ((spec_Satisfied.f kj7 bt490.1 bt490.2.1 bt490.2.2.1 bt490.2.2.2).bind fun t501 => (if (t500 == t501) = true then ((impl_SystemOk.f kj7 bt490.1 bt490.2.1 bt490.2.2.1).bind fun t502 => ((spec_SystemOk.f kj7 bt490.1 bt490.2.1 bt490.2.2.1).bind fun t503 => (some (t502 == t503)))) else (some false)))))))) else (none)) else (none)) else (none))) else (none)) = some r := by first | (rw [hy482]; with_reducible exact H) | (have H2_ := (Option.bind_some _ _).symm.trans H; rw [hy482]; with_reducible exact H2_) | (have H2_ := (Option.bind_some _ _).symm.trans H; with_reducible exact H2_) | with_reducible exact H | (rw [hy482]; exact H) | exact H
       have Ny482 := Aside0.mk hy482
       clear hy482
       by_cases c44 : 1 < (t455.length : Int)
       ·rw [if_pos c44] at H
        have c44b0 := decide_eq_true c44
        have c44b1 : decide (1 < t455.length) = true := decide_eq_true (by omega)
        clear c44
        by_cases c45 : (wrap64 ((t465.length : Int) - 1)) = 0
        ·rw [if_pos c45] at H
         exact absurd H (by simp)
        ·rw [if_neg c45] at H
         have c45b0 : ((wrap64 ((t465.length : Int) - 1)) == 0) = false := beq_eq_false_iff_ne.mpr c45
         have c45b1 : ((wrap64 ((t465.length : Int) - 1)) != 0) = true := bne_iff_ne.mpr c45
         obtain ⟨ji46, hji46⟩ : ∃ j_ : Int, (wrap64 (1 + (Int.tmod (rd t455 1) (wrap64 ((t465.length : Int) - 1))))) = j_ := ⟨_, rfl⟩
         replace H : (if 0 ≤ (ji46) then (if (ji46) < (y482.length : Int) then (if 2 < (t455.length : Int) then ((spec_ScAdd.f (rd y482 (ji46)) (wrap64 (1 + (Int.tmod (rd t455 2) 1008)))).bind fun t488 => ((spec_DrawSatisfied.f kj7 l0).bind fun bt490 => ((impl_Satisfied.f kj7 t459 t460 t461 (y482.set ((ji46) : Int).toNat t488)).bind fun t499 => (if t499 = true then (some false) else ((impl_Satisfied.f kj7 bt490.1 bt490.2.1 bt490.2.2.1 bt490.2.2.2).bind fun t500 => ((spec_Satisfied.f kj7 bt490.1 bt490.2.1 bt490.2.2.1 bt490.2.2.2).bind fun t501 => (if (t500 == t501) = true then ((impl_SystemOk.f kj7 bt490.1 bt490.2.1 bt490.2.2.1).bind fun t502 => ((spec_SystemOk.f kj7 bt490.1 bt490.2.1 bt490.2.2.1).bind fun t503 => (some (t502 == t503)))) else (some false)))))))) else (none)) else (none)) else (none)) = some r := by first | (rw [hji46] at H; exact H) | (simp only [hji46] at H ⊢; exact H)
         have hji46w : (IntKind.i64.wrap (1 + (Int.tmod (rd t455 1) (wrap64 ((t465.length : Int) - 1))))) = ji46 := (i64_w _).trans hji46
         by_cases c47 : 0 ≤ (ji46)
         ·rw [if_pos c47] at H
          have c47b0 := decide_eq_true c47
          clear c47
          by_cases c48 : (ji46) < (y482.length : Int)
          ·rw [if_pos c48] at H
           have c48b0 := decide_eq_true c48
           clear c48
           by_cases c49 : 2 < (t455.length : Int)
           ·rw [if_pos c49] at H
            have c49b0 := decide_eq_true c49
            have c49b1 : decide (2 < t455.length) = true := decide_eq_true (by omega)
            clear c49
            replace H := Option.bind_eq_some_iff.mp H
            obtain ⟨t488, A500, H⟩ := H
            have A50 := Aside0.mk A500
            clear A500
            obtain ⟨y489, hy489⟩ : ∃ y_ : List Int, y_ = (y482.set ((ji46) : Int).toNat t488) := ⟨_, rfl⟩
            replace H : ((spec_DrawSatisfied.f kj7 l0).bind fun bt490 => ((impl_Satisfied.f kj7 t459 t460 t461 y489).bind fun t499 => (if t499 = true then (some false) else ((impl_Satisfied.f kj7 bt490.1 bt490.2.1 bt490.2.2.1 bt490.2.2.2).bind fun t500 => ((spec_Satisfied.f kj7 bt490.1 bt490.2.1 bt490.2.2.1 bt490.2.2.2).bind fun t501 => (if (t500 == t501) = true then ((impl_SystemOk.f kj7 bt490.1 bt490.2.1 bt490.2.2.1).bind fun t502 => ((spec_SystemOk.f kj7 bt490.1 bt490.2.1 bt490.2.2.1).bind fun t503 => (some (t502 == t503)))) else (some false))))))) = some r := by first | (rw [hy489]; with_reducible exact H) | (have H2_ := (Option.bind_some _ _).symm.trans H; rw [hy489]; with_reducible exact H2_) | (have H2_ := (Option.bind_some _ _).symm.trans H; with_reducible exact H2_) | with_reducible exact H | (rw [hy489]; exact H) | exact H
            have Ny489 := Aside0.mk hy489
            clear hy489
            replace H := Option.bind_eq_some_iff.mp H
            obtain ⟨⟨t490, t491, t492, t495⟩, A520, H⟩ := H
            have A52 := Aside0.mk A520
            clear A520
            replace H := Option.bind_eq_some_iff.mp H
            obtain ⟨t499, A530, H⟩ := H
            have A53 := Aside0.mk A530
            clear A530
            by_cases c54 : t499 = true
            ·subst c54
             rw [if_pos rfl] at H
             exact absurd (Option.some.inj H) (by rw [htrue.out]; exact Bool.false_ne_true)
            ·replace c54 := Bool.eq_false_iff.mpr c54
             subst c54
             rw [if_neg (show ¬ (false = true) by decide)] at H
             replace H := Option.bind_eq_some_iff.mp H
             obtain ⟨t500, A550, H⟩ := H
             have A55 := Aside0.mk A550
             clear A550
             replace H := Option.bind_eq_some_iff.mp H
             obtain ⟨t501, A560, H⟩ := H
             have A56 := Aside0.mk A560
             clear A560
             by_cases c57 : (t500 == t501) = true
             ·rw [if_pos c57] at H
              have c57b0 : (t500 == t501) = true := c57
              (try (have c57b1 : decide (t500 = t501) = true := by simpa using c57))
              (try (have c57b2 : (t500 == t501) = true := by simpa using c57))
              clear c57
              replace H := Option.bind_eq_some_iff.mp H
              obtain ⟨t502, A580, H⟩ := H
              have A58 := Aside0.mk A580
              clear A580
              replace H := Option.bind_eq_some_iff.mp H
              obtain ⟨t503, A590, H⟩ := H
              have A59 := Aside0.mk A590
              clear A590
              obtain rfl := Option.some.inj H
              try go_wp2_with (first | ((with_reducible refine gate_dst (N := 46) rfl ?_); (try (refine gate_guard (by rfl) ?_; dsimp only)); refine Kd.R_lit (Kd.int .i64) _ 3 ?hg (N := 46) ?hd (xs := ([] : List Int)) (inner := []) (ok := fun _ => True) (okp := fun _ => True) ?hr ?hp (fun _ hk => hk) trivial (Below.refl _ _) (Nat.le_refl _) (by simp) ?_; (case hd => rfl); (case hg => rfl); (case hr => first | (go_simp; done) | (go_simp; rfl)); (case hp => exact (Reps.none _ _)); intro v480 w60 ho61 hb hg_ hnew_; clear hg_ hnew_; (first | rw [← Ny479.out] at ho61 | (simp only [Int.reduceToNat] at ho61; rw [← Ny479.out] at ho61)); replace HO_465002 := Aside0.mk (Kd.N_elder' (by (with_reducible repeat (first | apply Kd.N_alloc | apply Kd.N_drewN | apply Kd.N_drew)); exact HO_465002.out) (Kd.R_base ho61) hb); have HO481 := Aside0.mk (Kd.R_lower (Kd.R_new' (Kd.R_new' ho61 (Kd.R_lt (rP HO_3))) (Kd.R_lt (rP HO_6))) (below_size (bZ HB))); replace HO_3 := Aside0.mk (Kd.R_elder' (rP HO_3) (Kd.R_base ho61) hb); replace HO_6 := Aside0.mk (Kd.R_elder' (rP HO_6) (Kd.R_base ho61) hb); replace BK464 := bB BK464 hb; replace HB := bS HB hb; clear hb ho61; obtain ⟨Ao63, co63, eo63⟩ := Kd.R_slice HO_6.out; subst eo63) | ((with_reducible refine gate_builtin (b := .append) (xs := #[.tmp 46, .tmp 47]) rfl ?_); (try (refine gate_guard (by rfl) ?_; dsimp only)); at_builtin; refine Kd.R_append_rows (Kd.int .i64) (w0 := w) w.heap.size rfl (.tmp 46) (.tmp 47) 31 3 (.int .i64 0) 8 rfl Try.underlying31 info3 rfl (by decide) (by omega) v480 y479 t465 _ _ _ (fun k_ => some k_ ≠ (.slice (some ad458) t455.length co10 : Value).ownBlock ∧ some k_ ≠ (.slice Ao63 t465.length co63 : Value).ownBlock) (fun _ => False) rfl rfl ?aO ?aR (fun _ _ h => h) (fun _ h => h.elim) ?aF ?aB ?aS ?aL ?_; (case aR => exact cP ((Kd.R_reads' HO_6.out).2.2)); (case aB => exact (bZ HB)); (case aF => exact (fun k_ hk => ⟨Kd.fresh' (Kd.R_lt (rP HO_3)) k_ hk, Kd.fresh' (Kd.R_lt (rP HO_6)) k_ hk⟩)); (case aO => exact (by (with_reducible repeat (first | apply Kd.R_alloc | apply Kd.R_drewN | apply Kd.R_drew)); exact Kd.R_mono HO481.out (fun _ hk => ⟨hk.1.2, hk.2⟩))); (case aS => exact (below_size (bZ HB))); (case aL => have := LMc43.out; omega); intro v483 w62 ho hb hg hat; rw [← Ny482.out] at ho; replace HO_3 := Aside0.mk (Kd.R_after (ok := (fun k_ => some k_ ≠ (.slice Ao63 t465.length co63 : Value).ownBlock)) (rP HO_3) hg hat); replace HO_6 := Aside0.mk (Kd.R_after (ok := (fun k_ => some k_ ≠ (.slice (some ad458) t455.length co10 : Value).ownBlock)) (rP HO_6) hg hat); replace HO_465002 := Aside0.mk (Kd.N_afterv (ok := (fun k_ => some k_ ≠ (.slice (some ad458) t455.length co10 : Value).ownBlock ∧ some k_ ≠ (.slice Ao63 t465.length co63 : Value).ownBlock ∧ k_ ≠ gb464)) (by (with_reducible repeat (first | apply Kd.N_alloc | apply Kd.N_drewN | apply Kd.N_drew)); exact HO_465002.out) hg hat); replace BK464 := Aside0.mk (blk_grown (bP BK464) hg (Kd.R_ne HO481.out BK464.out (by decide))); replace HB := Aside0.mk (hb); have HO484 := Aside0.mk (ho); clear HO481; clear ho hb hg hat; have p485 : 0 ≤ (1 : Int) := (by omega); have q485 : 1 < (t455.length : Int) := of_decide_eq_true (by first | (with_reducible assumption) | assumption); obtain ⟨ad485, e485, hx485_0⟩ := Kd.at_int (Kd.R_reads' HO_3.out).2.2 1 p485 q485; obtain rfl : ad458 = ad485 := (by injection e485); (try simp only [show (1 : Int).toNat = 1 from rfl, Nat.reduceMul, Nat.reduceEqDiff, Go.Addr.add, ↓reduceIte] at hx485_0); have qi485 : (1 < t455.length) = True := eq_true (by omega); (try rw [show ((1 : Int)).toNat = 1 from rfl] at hx485_0); replace p485 := eq_true p485; replace q485 := eq_true q485))
              replace HO_3 := Aside0.mk (Kd.R_drew HO_3.out)
              replace HO_6 := Aside0.mk (Kd.R_drew HO_6.out)
              replace HO_465002 := Aside0.mk (Kd.N_drew HO_465002.out)
              replace HO484 := Aside0.mk (Kd.R_drew HO484.out)
              replace BK464 := Aside0.mk (blk_drew BK464.out)
              replace HB := Aside0.mk (below_drew1 HB.out)
              obtain ⟨Ao65, co65, eo65⟩ := Kd.R_slice HO484.out
              (first | subst eo65 | (injection eo65 with f1_ f2_ f3_; have f4_ := f1_.symm; have f5_ := f3_.symm; clear f1_ f2_ f3_; subst f4_; subst f5_))
              have p486 : 0 ≤ ((ji46) : Int) := of_decide_eq_true (by first | (with_reducible assumption) | assumption)
              have q486 : (ji46) < (y482.length : Int) := of_decide_eq_true (by first | (with_reducible assumption) | assumption)
              obtain ⟨ad486, e486, hx486_0⟩ := Kd.at_int (Kd.R_reads' HO484.out).2.2 (ji46) p486 q486
              cases e486
              replace p486 := eq_true p486
              replace q486 := eq_true q486
              have p487 : 0 ≤ (2 : Int) := (by omega)
              have q487 : 2 < (t455.length : Int) := of_decide_eq_true (by first | (with_reducible assumption) | assumption)
              obtain ⟨ad487, e487, hx487_0⟩ := Kd.at_int (Kd.R_reads' HO_3.out).2.2 2 p487 q487
              obtain rfl : ad458 = ad487 := (by injection e487)
              (try simp only [show (2 : Int).toNat = 2 from rfl, Nat.reduceMul, Nat.reduceEqDiff, Go.Addr.add, ↓reduceIte] at hx487_0)
              have qi487 : (2 < t455.length) = True := eq_true (by omega)
              (try rw [show ((2 : Int)).toNat = 2 from rfl] at hx487_0)
              replace p487 := eq_true p487
              replace q487 := eq_true q487
              refine start_ (n := 14) (S := fun w' => w'.cell? (ad486.add ((ji46)).toNat) = some (.int .i64 (rd y482 (ji46))) ∧ w'.cell? ⟨ad458.block, ad458.off + 2, none⟩ = some (.int .i64 (rd t455 2))) (ds := [13]) #[false, false, false, false, false, false, false, false, false, false, false, false, false, false] (by kernel_rfl) rfl rfl ⟨hx486_0, hx487_0⟩ (fun hHeld => ?_); refine with_tabW laws_FnRows.tab11 laws_FnRows.bits11 (fun HT_ HW_ => ?_)
              generalize w62.drew = w64 at HO_3 HO_6 HO_465002 HO484 BK464 HB hx486_0 hx487_0 hHeld ⊢
              refine pI 0 (some 57) HT_.out ?_
              refine pI 1 (some 58) HT_.out ?_
              refine pI 2 (some 59) HT_.out ?_
              refine pI 3 (some 60) HT_.out ?_
              refine pI 4 (some 61) HT_.out ?_
              refine pI 6 (some 63) HT_.out ?_
              refine pI 7 (some 64) HT_.out ?_
              refine tI2 5 (some 62) HT_.out HW_.out hHeld ?_
              refine tI2 8 (some 65) HT_.out HW_.out hHeld ?_
              refine pI 9 (some 66) HT_.out ?_
              refine pI 10 (some 67) HT_.out ?_
              refine oI 11 (some 68) HT_.out (fun K hK => ?_)
              refine goes_ Try.func52 (by kernel_rfl) rfl #[.int .i64 (rd y482 (ji46)), .int .i64 (wrap64 (1 + (Int.tmod (rd t455 2) 1008)))] (by rfl) rfl rfl (by (try simp only [List.map_toArray, List.map_cons, List.map_nil]); first | done | (simp only [hji46]; rfl) | rfl | (simp only [List.length_drop, List.length_take]; rfl)) ?_
              with_reducible refine (spec_ScAdd.calls (rd y482 (ji46)) (wrap64 (1 + (Int.tmod (rd t455 2) 1008))) t488 _ A50.out).mono ?_
              rintro e w' ⟨rfl, ⟨nd, rfl⟩⟩
              refine ⟨_, rfl, ?_⟩
              have p51 : 0 ≤ ((ji46) : Int) := of_decide_eq_true (by first | (with_reducible assumption) | assumption)
              have q51 : ((ji46) : Int) < ((y482.length : Int) : Int) := of_decide_eq_true (by first | (with_reducible assumption) | assumption)
              obtain ⟨go51, co51, eo51, gb51, gl51, cl51, HG51⟩ := Kd.R_form HO484.out (by omega)
              (first | cases eo51 | (injection eo51 with ea_ en_ ec_; (first | subst ea_ | (injection ea_ with ea_; subst ea_)); subst ec_; clear en_))
              have GB51 := Aside0.mk gb51
              have GG51 := Aside0.mk HG51
              clear gb51 gl51 HG51
              (first | simp only [add_plain] at hx486_0 | skip)
              obtain ⟨hx51_0, hf51_0⟩ := Kd.R_celln 0 HO484.out ((ji46) : Int) p51 q51
              replace p51 := eq_true p51
              replace q51 := eq_true q51
              have HP66 := Kd.R_putn HO484.out ((ji46) : Int) t488
              rw [← Ny489.out] at HP66
              have HQ66 := Aside0.mk HP66
              clear HP66
              refine hK.out _ _ ⟨hHeld.1, hHeld.2⟩ (fun hHeld => ?_)
              clear hK K
              refine nO (some 68) ?_
              refine pI 12 (some 69) HT_.out ?_
              refine last_ (i := 13) (N := none) #[true, true, true, true, true, true, true, true, true, true, true, true, true, true] rfl rfl (one_of HT_.out (by kernel_rfl)) (by decide) (fun K hK => ?_)
              refine skip_ (w1 := ?_) (by rfl) rfl ?_ ?_
              rotate_left
              ·go_simp
               rfl
              refine hK.out _ _ ?_
              clear hK K
              refine done_ (done_of HT_.out (by kernel_rfl)) ?_
              obtain ⟨w67, hW_⟩ : ∃ W_ : World, W_ = (w64.setCell ⟨go51, ((ji46) : Int).toNat, none⟩ (.int .i64 t488)) := ⟨_, rfl⟩
              have n0_ : Aside0 (Kd.R (Kd.int .i64) 3 (w64.setCell ⟨go51, ((ji46) : Int).toNat, none⟩ (.int .i64 t488)) w.heap.size (fun k_ => some k_ ≠ (.slice Ao63 t465.length co63 : Value).ownBlock ∧ some k_ ≠ (.slice (some ⟨go51, 0, none⟩) y482.length co65 : Value).ownBlock) (.slice (some ad458) t455.length co10) t455) := ⟨by (with_reducible repeat (first | apply Kd.R_alloc | apply Kd.R_drewN | apply Kd.R_drew)); exact Kd.R_mono (Kd.R_far (p := ⟨go51, ((ji46) : Int).toNat, none⟩) (Kd.R_mono HO_3.out (fun k_ hk => (⟨hk, fun e_ => hk.2 (by rw [e_]; rfl)⟩ : _ ∧ k_ ≠ go51))) (fun _ hk => hk.2) (.int .i64 t488)) (fun _ hk => ⟨hk.1.1, hk.1.2⟩)⟩
              rw [← hW_] at n0_
              have n1_ : Aside0 (Kd.R (Kd.int .i64) 3 (w64.setCell ⟨go51, ((ji46) : Int).toNat, none⟩ (.int .i64 t488)) w.heap.size (fun k_ => some k_ ≠ (.slice (some ad458) t455.length co10 : Value).ownBlock ∧ some k_ ≠ (.slice (some ⟨go51, 0, none⟩) y482.length co65 : Value).ownBlock) (.slice Ao63 t465.length co63) t465) := ⟨by (with_reducible repeat (first | apply Kd.R_alloc | apply Kd.R_drewN | apply Kd.R_drew)); exact Kd.R_mono (Kd.R_far (p := ⟨go51, ((ji46) : Int).toNat, none⟩) (Kd.R_mono HO_6.out (fun k_ hk => (⟨hk, fun e_ => hk.2 (by rw [e_]; rfl)⟩ : _ ∧ k_ ≠ go51))) (fun _ hk => hk.2) (.int .i64 t488)) (fun _ hk => ⟨hk.1.1, hk.1.2⟩)⟩
              rw [← hW_] at n1_
              have n2_ : Aside0 (Kd.N k75 75 (w64.setCell ⟨go51, ((ji46) : Int).toNat, none⟩ (.int .i64 t488)) w.heap.size (fun k_ => some k_ ≠ (.slice (some ad458) t455.length co10 : Value).ownBlock ∧ some k_ ≠ (.slice Ao63 t465.length co63 : Value).ownBlock ∧ some k_ ≠ (.slice (some ⟨go51, 0, none⟩) y482.length co65 : Value).ownBlock ∧ k_ ≠ gb464) (.slice Ao14 t461.length co14) t461) := ⟨by (with_reducible repeat (first | apply Kd.N_alloc | apply Kd.N_drewN | apply Kd.N_drew)); exact Kd.N_mono (Kd.N_far (p := ⟨go51, ((ji46) : Int).toNat, none⟩) (Kd.N_mono HO_465002.out (fun k_ hk => (⟨hk, fun e_ => hk.2 (by rw [e_]; rfl)⟩ : _ ∧ k_ ≠ go51))) (fun _ hk => hk.2) (.int .i64 t488)) (fun _ hk => ⟨hk.1.1.1, ⟨hk.1.1.2.1, ⟨hk.1.2, hk.1.1.2.2⟩⟩⟩)⟩
              rw [← hW_] at n2_
              have n3_ : Aside0 (Kd.R (Kd.int .i64) 3 (w64.setCell ⟨go51, ((ji46) : Int).toNat, none⟩ (.int .i64 t488)) w.heap.size (fun k_ => some k_ ≠ (.slice (some ad458) t455.length co10 : Value).ownBlock ∧ some k_ ≠ (.slice Ao63 t465.length co63 : Value).ownBlock) (.slice (some ⟨go51, 0, none⟩) y482.length co65) y489) := ⟨rP HQ66⟩
              rw [← hW_] at n3_
              have n4_ : Aside0 ((w64.setCell ⟨go51, ((ji46) : Int).toNat, none⟩ (.int .i64 t488)).heap[gb464]? = some (.cells #[.int .i64 t459, .int .i64 t460, .slice Ao14 t461.length co14] 43 (0, 0))) := ⟨by (with_reducible repeat (first | refine blk_drewN ?_ _ | refine blk_drew ?_ | refine blk_alloc ?_ _)); refine blk_far ?_ (by have h_ := Kd.R_ne HO484.out BK464.out (by decide); intro e_; exact h_ (by rw [e_]; rfl)) _; (with_reducible repeat (first | refine blk_drewN ?_ _ | refine blk_drew ?_ | refine blk_alloc ?_ _)); exact BK464.out⟩
              rw [← hW_] at n4_
              have n5_ : Aside0 (Below w.heap.size w (w64.setCell ⟨go51, ((ji46) : Int).toNat, none⟩ (.int .i64 t488))) := ⟨by repeat (first | (with_reducible first | exact HB.out | apply below_alloc | apply pw_below_drewN | apply below_drew1 | refine below_set ?_ GB51.out | refine below_set ?_ GE464.out) | exact HB.out)⟩
              rw [← hW_] at n5_
              (try clear HO_3)
              (try clear HO_6)
              (try clear HO_465002)
              (try clear HO484)
              (try clear BK464)
              (try clear HB)
              have HO_3 := n0_
              clear n0_
              have HO_6 := n1_
              clear n1_
              have HO_465002 := n2_
              clear n2_
              have HO484 := n3_
              clear n3_
              have BK464 := n4_
              clear n4_
              have HB := n5_
              clear n5_
              first | rw [← hW_] | rw [show ∀ (w_ : World) (n_ : Nat) (p_ : Addr) (v_ : Value), (w_.drewN n_).setCell p_ v_ = (w_.setCell p_ v_).drewN n_ from fun _ _ _ _ => rfl, ← hW_]
              clear hW_
              try go_wp2_with (first | (refine gC (some 72) Try.func53 #[.slice A0 l0.length c0] ?_; (with_reducible refine (spec_DrawSatisfied.calls kj7 _ _ l0 t490 t491 t492 t495 _ ?side1 ?side2 A52.out).mono ?_); (case side1 => exact cP (Kd.C_below HR0.out (bZ HB))); (case side2 => exact HC0.out); rintro e w68 ⟨v493, v496, rfl, ho0, ho1, hb⟩; refine ⟨_, rfl, ?_⟩; have HO494 := Aside0.mk (Kd.N_lower (Kd.N_mono (ok' := fun k_ => some k_ ≠ (v496 : Value).ownBlock ∧ some k_ ≠ (.slice (some ad458) t455.length co10 : Value).ownBlock ∧ some k_ ≠ (.slice Ao63 t465.length co63 : Value).ownBlock ∧ some k_ ≠ (.slice Ao14 t461.length co14 : Value).ownBlock ∧ some k_ ≠ (.slice (some ⟨go51, 0, none⟩) y482.length co65 : Value).ownBlock ∧ k_ ≠ gb464) ho0 (fun k_ hk_ => ⟨hk_.2, (Kd.fresh' (Kd.R_lt (rP HO_3)) k_ hk_.1), (Kd.fresh' (Kd.R_lt (rP HO_6)) k_ hk_.1), (Kd.fresh' (Kd.N_lt (by (with_reducible repeat (first | apply Kd.N_alloc | apply Kd.N_drewN | apply Kd.N_drew)); exact HO_465002.out)) k_ hk_.1), (Kd.fresh' (Kd.R_lt (rP HO484)) k_ hk_.1), (Kd.freshB (bP BK464) k_ hk_.1)⟩)) (below_size (bZ HB))); replace HO_465002 := Aside0.mk (Kd.N_mono (Kd.N_told (Kd.N_told (Kd.N_old (by (with_reducible repeat (first | apply Kd.N_alloc | apply Kd.N_drewN | apply Kd.N_drew)); exact HO_465002.out) hb) (Kd.N_base ho0)) (Kd.Q_base ho1)) (fun _ h_ => h_.1)); have HO497 := Aside0.mk (Kd.Q_lower (Kd.Q_new' (Kd.Q_new' (Kd.Q_new' (Kd.Q_mono (ok' := fun k_ => True) ho1 (fun _ hk_ => trivial)) (Kd.R_lt (rP HO_3))) (Kd.R_lt (rP HO_6))) (Kd.R_lt (rP HO484))) (below_size (bZ HB))); replace HO_3 := Aside0.mk (Kd.R_elder' (rP HO_3) (Kd.Q_base ho1) hb); replace HO_6 := Aside0.mk (Kd.R_elder' (rP HO_6) (Kd.Q_base ho1) hb); replace HO484 := Aside0.mk (Kd.R_elder' (rP HO484) (Kd.Q_base ho1) hb); replace BK464 := bB BK464 hb; replace HB := bS HB hb; (try clear hb); (try clear ho0); (try clear ho1)) | ((with_reducible refine gate_dst (N := 9) rfl ?_); (try (refine gate_guard (by rfl) ?_; dsimp only)); refine box_event ?hg (N := 9) ?hd (cs := #[.int .i64 0, .int .i64 0, .slice none 0 0]) (t := 43) ?hr ?_; (case hd => rfl); (case hg => rfl); (case hr => first | (go_simp; done) | (go_simp; rfl)); intro gb498 hg w69 hbox hb; replace HO_3 := Aside0.mk (Kd.R_below (rP HO_3) hb); replace HO_6 := Aside0.mk (Kd.R_below (rP HO_6) hb); replace HO_465002 := Aside0.mk (Kd.N_below (Kd.N_elderB (by (with_reducible repeat (first | apply Kd.N_alloc | apply Kd.N_drewN | apply Kd.N_drew)); exact HO_465002.out) gb498 (Nat.le_of_eq hg.symm)) hb); replace HO484 := Aside0.mk (Kd.R_below (rP HO484) hb); replace HO494 := Aside0.mk (Kd.N_below (Kd.N_elderB (by (with_reducible repeat (first | apply Kd.N_alloc | apply Kd.N_drewN | apply Kd.N_drew)); exact HO494.out) gb498 (Nat.le_of_eq hg.symm)) hb); replace HO497 := Aside0.mk (Kd.Q_below (by (with_reducible repeat (first | apply Kd.Q_alloc | apply Kd.Q_drewN | apply Kd.Q_drew)); exact HO497.out) hb); have BK498 := Aside0.mk (hbox); have GW498 := bG HB hg; replace HB := bS HB hb; obtain ⟨NB464_498, NB498_464⟩ := bN BK464 hg; replace BK464 := bB BK464 hb; clear hb hbox hg; obtain ⟨hnb70, hnc70⟩ := nB NB498_464; obtain ⟨hcz71_0, hcz71_1, hcz71_2, hfz71_0, hfz71_1, hfz71_2⟩ := bK3 (w := w69) BK498; obtain ⟨Ao72, co72, eo72⟩ := Kd.N_slice HO494.out; subst eo72))
              obtain ⟨w73, hW_⟩ : ∃ W_ : World, W_ = (((w69.setCell ⟨gb498, 0, none⟩ (.int .i64 t490)).setCell ⟨gb498, 1, none⟩ (.int .i64 t491)).setCell ⟨gb498, 2, none⟩ (.slice Ao72 t492.length co72)) := ⟨_, rfl⟩
              have n0_ : Aside0 (Kd.R (Kd.int .i64) 3 (((w69.setCell ⟨gb498, 0, none⟩ (.int .i64 t490)).setCell ⟨gb498, 1, none⟩ (.int .i64 t491)).setCell ⟨gb498, 2, none⟩ (.slice Ao72 t492.length co72)) w.heap.size (fun k_ => some k_ ≠ (.slice Ao63 t465.length co63 : Value).ownBlock ∧ some k_ ≠ (.slice (some ⟨go51, 0, none⟩) y482.length co65 : Value).ownBlock ∧ some k_ ≠ (v496 : Value).ownBlock) (.slice (some ad458) t455.length co10) t455) := ⟨by (with_reducible repeat (first | apply Kd.R_alloc | apply Kd.R_drewN | apply Kd.R_drew)); exact Kd.R_mono (Kd.R_far (p := ⟨gb498, 2, none⟩) (Kd.R_far (p := ⟨gb498, 1, none⟩) (Kd.R_far (p := ⟨gb498, 0, none⟩) (Kd.R_types HO_3.out BK498.out (by decide)) (fun _ hk => hk.2) (.int .i64 t490)) (fun _ hk => hk.2) (.int .i64 t491)) (fun _ hk => hk.2) (.slice Ao72 t492.length co72)) (fun _ hk => ⟨hk.1.1.1, ⟨hk.1.1.2, hk.1.2⟩⟩)⟩
              rw [← hW_] at n0_
              have n1_ : Aside0 (Kd.R (Kd.int .i64) 3 (((w69.setCell ⟨gb498, 0, none⟩ (.int .i64 t490)).setCell ⟨gb498, 1, none⟩ (.int .i64 t491)).setCell ⟨gb498, 2, none⟩ (.slice Ao72 t492.length co72)) w.heap.size (fun k_ => some k_ ≠ (.slice (some ad458) t455.length co10 : Value).ownBlock ∧ some k_ ≠ (.slice (some ⟨go51, 0, none⟩) y482.length co65 : Value).ownBlock ∧ some k_ ≠ (v496 : Value).ownBlock) (.slice Ao63 t465.length co63) t465) := ⟨by (with_reducible repeat (first | apply Kd.R_alloc | apply Kd.R_drewN | apply Kd.R_drew)); exact Kd.R_mono (Kd.R_far (p := ⟨gb498, 2, none⟩) (Kd.R_far (p := ⟨gb498, 1, none⟩) (Kd.R_far (p := ⟨gb498, 0, none⟩) (Kd.R_types HO_6.out BK498.out (by decide)) (fun _ hk => hk.2) (.int .i64 t490)) (fun _ hk => hk.2) (.int .i64 t491)) (fun _ hk => hk.2) (.slice Ao72 t492.length co72)) (fun _ hk => ⟨hk.1.1.1, ⟨hk.1.1.2, hk.1.2⟩⟩)⟩
              rw [← hW_] at n1_
              have n2_ : Aside0 (Kd.N k75 75 (((w69.setCell ⟨gb498, 0, none⟩ (.int .i64 t490)).setCell ⟨gb498, 1, none⟩ (.int .i64 t491)).setCell ⟨gb498, 2, none⟩ (.slice Ao72 t492.length co72)) w.heap.size (fun k_ => some k_ ≠ (.slice (some ad458) t455.length co10 : Value).ownBlock ∧ some k_ ≠ (.slice Ao63 t465.length co63 : Value).ownBlock ∧ some k_ ≠ (.slice (some ⟨go51, 0, none⟩) y482.length co65 : Value).ownBlock ∧ some k_ ≠ (.slice Ao72 t492.length co72 : Value).ownBlock ∧ some k_ ≠ (v496 : Value).ownBlock ∧ k_ ≠ gb464 ∧ k_ ≠ gb498) (.slice Ao14 t461.length co14) t461) := ⟨by (with_reducible repeat (first | apply Kd.N_alloc | apply Kd.N_drewN | apply Kd.N_drew)); exact Kd.N_mono (Kd.N_far (p := ⟨gb498, 2, none⟩) (Kd.N_far (p := ⟨gb498, 1, none⟩) (Kd.N_far (p := ⟨gb498, 0, none⟩) (Kd.N_mono HO_465002.out (fun k_ hk => (⟨hk, hk.2⟩ : _ ∧ k_ ≠ gb498))) (fun _ hk => hk.2) (.int .i64 t490)) (fun _ hk => hk.2) (.int .i64 t491)) (fun _ hk => hk.2) (.slice Ao72 t492.length co72)) (fun _ hk => ⟨hk.1.1.1.1.1, ⟨hk.1.1.1.1.2.1, ⟨hk.1.1.1.1.2.2.1, ⟨hk.1.1.1.2, ⟨hk.1.1.2, ⟨hk.1.1.1.1.2.2.2, hk.1.2⟩⟩⟩⟩⟩⟩)⟩
              rw [← hW_] at n2_
              have n3_ : Aside0 (Kd.R (Kd.int .i64) 3 (((w69.setCell ⟨gb498, 0, none⟩ (.int .i64 t490)).setCell ⟨gb498, 1, none⟩ (.int .i64 t491)).setCell ⟨gb498, 2, none⟩ (.slice Ao72 t492.length co72)) w.heap.size (fun k_ => some k_ ≠ (.slice (some ad458) t455.length co10 : Value).ownBlock ∧ some k_ ≠ (.slice Ao63 t465.length co63 : Value).ownBlock ∧ some k_ ≠ (v496 : Value).ownBlock) (.slice (some ⟨go51, 0, none⟩) y482.length co65) y489) := ⟨by (with_reducible repeat (first | apply Kd.R_alloc | apply Kd.R_drewN | apply Kd.R_drew)); exact Kd.R_mono (Kd.R_far (p := ⟨gb498, 2, none⟩) (Kd.R_far (p := ⟨gb498, 1, none⟩) (Kd.R_far (p := ⟨gb498, 0, none⟩) (Kd.R_types HO484.out BK498.out (by decide)) (fun _ hk => hk.2) (.int .i64 t490)) (fun _ hk => hk.2) (.int .i64 t491)) (fun _ hk => hk.2) (.slice Ao72 t492.length co72)) (fun _ hk => ⟨hk.1.1.1, ⟨hk.1.1.2, hk.1.2⟩⟩)⟩
              rw [← hW_] at n3_
              have n4_ : Aside0 (Kd.N k75 75 (((w69.setCell ⟨gb498, 0, none⟩ (.int .i64 t490)).setCell ⟨gb498, 1, none⟩ (.int .i64 t491)).setCell ⟨gb498, 2, none⟩ (.slice Ao72 t492.length co72)) w.heap.size (fun k_ => some k_ ≠ (.slice (some ad458) t455.length co10 : Value).ownBlock ∧ some k_ ≠ (.slice Ao63 t465.length co63 : Value).ownBlock ∧ some k_ ≠ (.slice Ao14 t461.length co14 : Value).ownBlock ∧ some k_ ≠ (.slice (some ⟨go51, 0, none⟩) y482.length co65 : Value).ownBlock ∧ some k_ ≠ (v496 : Value).ownBlock ∧ k_ ≠ gb464 ∧ k_ ≠ gb498) (.slice Ao72 t492.length co72) t492) := ⟨by (with_reducible repeat (first | apply Kd.N_alloc | apply Kd.N_drewN | apply Kd.N_drew)); exact Kd.N_mono (Kd.N_far (p := ⟨gb498, 2, none⟩) (Kd.N_far (p := ⟨gb498, 1, none⟩) (Kd.N_far (p := ⟨gb498, 0, none⟩) (Kd.N_mono HO494.out (fun k_ hk => (⟨hk, hk.2⟩ : _ ∧ k_ ≠ gb498))) (fun _ hk => hk.2) (.int .i64 t490)) (fun _ hk => hk.2) (.int .i64 t491)) (fun _ hk => hk.2) (.slice Ao72 t492.length co72)) (fun _ hk => ⟨hk.1.1.2.1, ⟨hk.1.1.2.2.1, ⟨hk.1.1.2.2.2.1, ⟨hk.1.1.2.2.2.2.1, ⟨hk.1.1.1, ⟨hk.1.1.2.2.2.2.2, hk.1.2⟩⟩⟩⟩⟩⟩)⟩
              rw [← hW_] at n4_
              have n5_ : Aside0 (Kd.Q (Kd.int .i64) 3 (((w69.setCell ⟨gb498, 0, none⟩ (.int .i64 t490)).setCell ⟨gb498, 1, none⟩ (.int .i64 t491)).setCell ⟨gb498, 2, none⟩ (.slice Ao72 t492.length co72)) w.heap.size (fun k_ => some k_ ≠ (.slice (some ad458) t455.length co10 : Value).ownBlock ∧ some k_ ≠ (.slice Ao63 t465.length co63 : Value).ownBlock ∧ some k_ ≠ (.slice (some ⟨go51, 0, none⟩) y482.length co65 : Value).ownBlock) v496 t495) := ⟨by (with_reducible repeat (first | apply Kd.Q_alloc | apply Kd.Q_drewN | apply Kd.Q_drew)); exact Kd.Q_mono (Kd.Q_far (p := ⟨gb498, 2, none⟩) (Kd.Q_far (p := ⟨gb498, 1, none⟩) (Kd.Q_far (p := ⟨gb498, 0, none⟩) (Kd.Q_types HO497.out BK498.out (by decide)) (fun _ hk => hk.2) (.int .i64 t490)) (fun _ hk => hk.2) (.int .i64 t491)) (fun _ hk => hk.2) (.slice Ao72 t492.length co72)) (fun _ hk => ⟨hk.1.1.1.2, ⟨hk.1.1.2, hk.1.2⟩⟩)⟩
              rw [← hW_] at n5_
              replace BK464 := bW hW_ BK464
              replace BK498 := bX hW_ 43 #[.int .i64 t490, .int .i64 t491, .slice Ao72 t492.length co72] BK498
              (try clear HO_3)
              (try clear HO_6)
              (try clear HO_465002)
              (try clear HO484)
              (try clear HO494)
              (try clear HO497)
              have HO_3 := n0_
              clear n0_
              have HO_6 := n1_
              clear n1_
              have HO_465002 := n2_
              clear n2_
              have HO484 := n3_
              clear n3_
              have HO494 := n4_
              clear n4_
              have HO497 := n5_
              clear n5_
              replace HB := zW hW_ HB
              first | rw [← hW_] | rw [show ∀ (w_ : World) (n_ : Nat) (p_ : Addr) (v_ : Value), (w_.drewN n_).setCell p_ v_ = (w_.setCell p_ v_).drewN n_ from fun _ _ _ _ => rfl, ← hW_]
              clear hW_
              replace HO_3 := Aside0.mk (Kd.R_drew HO_3.out)
              replace HO_6 := Aside0.mk (Kd.R_drew HO_6.out)
              replace HO_465002 := Aside0.mk (Kd.N_drew HO_465002.out)
              replace HO484 := Aside0.mk (Kd.R_drew HO484.out)
              replace HO494 := Aside0.mk (Kd.N_drew HO494.out)
              replace HO497 := Aside0.mk (Kd.Q_drew HO497.out)
              replace BK464 := Aside0.mk (blk_drew BK464.out)
              replace BK498 := Aside0.mk (blk_drew BK498.out)
              replace HB := Aside0.mk (below_drew1 HB.out)
              refine start_ (n := 21) (S := fun w' => SP3 w' gb464 (.int .i64 t459) (.int .i64 t460) (.slice Ao14 t461.length co14) (SQ3 w' gb498 (.int .i64 t490) (.int .i64 t491) (.slice Ao72 t492.length co72))) (ds := []) #[false, false, false, false, false, false, false, false, false, false, false, false, false, false, false, false, false, false, false, false, false] (by kernel_rfl) rfl rfl (bS3 BK464 (bT3 BK498)) (fun hHeld => ?_); refine with_tabW laws_FnRows.tab13 laws_FnRows.bits13 (fun HT_ HW_ => ?_)
              generalize w73.drew = w74 at HO_3 HO_6 HO_465002 HO484 HO494 HO497 BK464 BK498 HB hHeld ⊢
              refine pI 1 (some 76) HT_.out ?_
              refine tI6 0 (some 75) HT_.out HW_.out hHeld ?_
              refine oI 2 (some 77) HT_.out (fun K hK => ?_)
              refine goes_ Try.func48 (by kernel_rfl) rfl #[.agg #[.int .i64 t459, .int .i64 t460, .slice Ao14 t461.length co14], .slice (some ⟨go51, 0, none⟩) y489.length co65] (by rfl) rfl rfl (by (try simp only [List.map_toArray, List.map_cons, List.map_nil]); first | done | (rw [show y489.length = y482.length from (Kd.R_reads' HO484.out).1.symm] <;> rfl) | rfl | (simp only [List.length_drop, List.length_take]; rfl)) ?_
              with_reducible refine (impl_Satisfied.calls kj7 t459 t460 _ _ t461 _ _ y489 false _ ?side1 ?side2 ?side3 ?side4 A53.out).mono ?_
              (case side1 => exact cP ((Kd.N_reads' HO_465002.out).2.2))
              (case side2 => exact (Kd.N_reads' HO_465002.out).2.1)
              (case side3 => exact cP ((Kd.R_reads' HO484.out).2.2))
              (case side4 => rw [show y489.length = y482.length from (Kd.R_reads' HO484.out).1.symm]; exact (Kd.R_reads' HO484.out).2.1)
              rintro e w75 ⟨rfl, hb⟩
              refine ⟨_, rfl, ?_⟩
              replace HO_3 := Aside0.mk (Kd.R_below (rP HO_3) hb)
              replace HO_6 := Aside0.mk (Kd.R_below (rP HO_6) hb)
              replace HO_465002 := Aside0.mk (Kd.N_below (by (with_reducible repeat (first | apply Kd.N_alloc | apply Kd.N_drewN | apply Kd.N_drew)); exact HO_465002.out) hb)
              replace HO484 := Aside0.mk (Kd.R_below (rP HO484) hb)
              replace HO494 := Aside0.mk (Kd.N_below (by (with_reducible repeat (first | apply Kd.N_alloc | apply Kd.N_drewN | apply Kd.N_drew)); exact HO494.out) hb)
              replace HO497 := Aside0.mk (Kd.Q_below (by (with_reducible repeat (first | apply Kd.Q_alloc | apply Kd.Q_drewN | apply Kd.Q_drew)); exact HO497.out) hb)
              replace BK464 := bB BK464 hb
              replace BK498 := bB BK498 hb
              replace HB := bS HB hb
              (try clear hb)
              obtain ⟨Ao76, co76, eo76, _⟩ := Kd.Q_slice HO497.out
              (first | subst eo76 | (injection eo76 with f1_ f2_ f3_; have f4_ := f1_.symm; have f5_ := f3_.symm; clear f1_ f2_ f3_; subst f4_; subst f5_))
              refine hK.out _ _ (bS3 BK464 (bT3 BK498)) (fun hHeld => ?_)
              clear hK K
              refine nO (some 77) ?_
              refine pI 3 (some 78) HT_.out ?_
              refine pI 4 (some 79) HT_.out ?_
              refine pI 6 (some 81) HT_.out ?_
              refine pI 9 (some 84) HT_.out ?_
              refine tI6 5 (some 80) HT_.out HW_.out hHeld ?_
              refine tI6 8 (some 83) HT_.out HW_.out hHeld ?_
              refine oI 7 (some 82) HT_.out (fun K hK => ?_)
              refine gO Try.func48 #[.agg #[.int .i64 t490, .int .i64 t491, .slice Ao72 t492.length co72], .slice Ao76 t495.length co76] ?_
              with_reducible refine (impl_Satisfied.calls kj7 t490 t491 _ _ t492 _ _ t495 t500 _ ?side1 ?side2 ?side3 ?side4 A55.out).mono ?_
              (case side1 => exact cP ((Kd.N_reads' HO494.out).2.2))
              (case side2 => exact (Kd.N_reads' HO494.out).2.1)
              (case side3 => exact cP ((Kd.Q_reads' HO497.out).2.2))
              (case side4 => exact (Kd.Q_reads' HO497.out).2.1)
              rintro e w77 ⟨rfl, hb⟩
              refine ⟨_, rfl, ?_⟩
              replace HO_3 := Aside0.mk (Kd.R_below (rP HO_3) hb)
              replace HO_6 := Aside0.mk (Kd.R_below (rP HO_6) hb)
              replace HO_465002 := Aside0.mk (Kd.N_below (by (with_reducible repeat (first | apply Kd.N_alloc | apply Kd.N_drewN | apply Kd.N_drew)); exact HO_465002.out) hb)
              replace HO484 := Aside0.mk (Kd.R_below (rP HO484) hb)
              replace HO494 := Aside0.mk (Kd.N_below (by (with_reducible repeat (first | apply Kd.N_alloc | apply Kd.N_drewN | apply Kd.N_drew)); exact HO494.out) hb)
              replace HO497 := Aside0.mk (Kd.Q_below (by (with_reducible repeat (first | apply Kd.Q_alloc | apply Kd.Q_drewN | apply Kd.Q_drew)); exact HO497.out) hb)
              replace BK464 := bB BK464 hb
              replace BK498 := bB BK498 hb
              replace HB := bS HB hb
              (try clear hb)
              refine hK.out _ _ (bS3 BK464 (bT3 BK498)) (fun hHeld => ?_)
              clear hK K
              refine nO (some 82) ?_
              refine oI 10 (some 85) HT_.out (fun K hK => ?_)
              refine gO Try.func46 #[.agg #[.int .i64 t490, .int .i64 t491, .slice Ao72 t492.length co72], .slice Ao76 t495.length co76] ?_
              with_reducible refine (spec_Satisfied.calls kj7 t490 t491 _ _ t492 _ _ t495 t501 _ ?side1 ?side2 ?side3 ?side4 A56.out).mono ?_
              (case side1 => exact cP ((Kd.N_reads' HO494.out).2.2))
              (case side2 => exact (Kd.N_reads' HO494.out).2.1)
              (case side3 => exact cP ((Kd.Q_reads' HO497.out).2.2))
              (case side4 => exact (Kd.Q_reads' HO497.out).2.1)
              rintro e w78 ⟨rfl, hb⟩
              refine ⟨_, rfl, ?_⟩
              replace HO_3 := Aside0.mk (Kd.R_below (rP HO_3) hb)
              replace HO_6 := Aside0.mk (Kd.R_below (rP HO_6) hb)
              replace HO_465002 := Aside0.mk (Kd.N_below (by (with_reducible repeat (first | apply Kd.N_alloc | apply Kd.N_drewN | apply Kd.N_drew)); exact HO_465002.out) hb)
              replace HO484 := Aside0.mk (Kd.R_below (rP HO484) hb)
              replace HO494 := Aside0.mk (Kd.N_below (by (with_reducible repeat (first | apply Kd.N_alloc | apply Kd.N_drewN | apply Kd.N_drew)); exact HO494.out) hb)
              replace HO497 := Aside0.mk (Kd.Q_below (by (with_reducible repeat (first | apply Kd.Q_alloc | apply Kd.Q_drewN | apply Kd.Q_drew)); exact HO497.out) hb)
              replace BK464 := bB BK464 hb
              replace BK498 := bB BK498 hb
              replace HB := bS HB hb
              (try clear hb)
              refine hK.out _ _ (bS3 BK464 (bT3 BK498)) (fun hHeld => ?_)
              clear hK K
              refine nO (some 85) ?_
              refine pI 11 (some 86) HT_.out ?_
              refine pI 12 (some 87) HT_.out ?_
              refine pI 13 (some 88) HT_.out ?_
              refine tI6 14 (some 89) HT_.out HW_.out hHeld ?_
              refine tI6 16 (some 91) HT_.out HW_.out hHeld ?_
              refine oI 15 (some 90) HT_.out (fun K hK => ?_)
              refine gO Try.func45 #[.agg #[.int .i64 t490, .int .i64 t491, .slice Ao72 t492.length co72]] ?_
              with_reducible refine (impl_SystemOk.calls kj7 t490 t491 _ _ t492 t502 _ ?side1 ?side2 A58.out).mono ?_
              (case side1 => exact cP ((Kd.N_reads' HO494.out).2.2))
              (case side2 => exact (Kd.N_reads' HO494.out).2.1)
              rintro e w79 ⟨rfl, hb⟩
              refine ⟨_, rfl, ?_⟩
              replace HO_3 := Aside0.mk (Kd.R_below (rP HO_3) hb)
              replace HO_6 := Aside0.mk (Kd.R_below (rP HO_6) hb)
              replace HO_465002 := Aside0.mk (Kd.N_below (by (with_reducible repeat (first | apply Kd.N_alloc | apply Kd.N_drewN | apply Kd.N_drew)); exact HO_465002.out) hb)
              replace HO484 := Aside0.mk (Kd.R_below (rP HO484) hb)
              replace HO494 := Aside0.mk (Kd.N_below (by (with_reducible repeat (first | apply Kd.N_alloc | apply Kd.N_drewN | apply Kd.N_drew)); exact HO494.out) hb)
              replace HO497 := Aside0.mk (Kd.Q_below (by (with_reducible repeat (first | apply Kd.Q_alloc | apply Kd.Q_drewN | apply Kd.Q_drew)); exact HO497.out) hb)
              replace BK464 := bB BK464 hb
              replace BK498 := bB BK498 hb
              replace HB := bS HB hb
              (try clear hb)
              refine hK.out _ _ (bS3 BK464 (bT3 BK498)) (fun hHeld => ?_)
              clear hK K
              refine nO (some 90) ?_
              refine oI 17 (some 92) HT_.out (fun K hK => ?_)
              refine gO Try.func43 #[.agg #[.int .i64 t490, .int .i64 t491, .slice Ao72 t492.length co72]] ?_
              with_reducible refine (spec_SystemOk.calls kj7 t490 t491 _ _ t492 t503 _ ?side1 ?side2 A59.out).mono ?_
              (case side1 => exact cP ((Kd.N_reads' HO494.out).2.2))
              (case side2 => exact (Kd.N_reads' HO494.out).2.1)
              rintro e w80 ⟨rfl, hb⟩
              refine ⟨_, rfl, ?_⟩
              replace HO_3 := Aside0.mk (Kd.R_below (rP HO_3) hb)
              replace HO_6 := Aside0.mk (Kd.R_below (rP HO_6) hb)
              replace HO_465002 := Aside0.mk (Kd.N_below (by (with_reducible repeat (first | apply Kd.N_alloc | apply Kd.N_drewN | apply Kd.N_drew)); exact HO_465002.out) hb)
              replace HO484 := Aside0.mk (Kd.R_below (rP HO484) hb)
              replace HO494 := Aside0.mk (Kd.N_below (by (with_reducible repeat (first | apply Kd.N_alloc | apply Kd.N_drewN | apply Kd.N_drew)); exact HO494.out) hb)
              replace HO497 := Aside0.mk (Kd.Q_below (by (with_reducible repeat (first | apply Kd.Q_alloc | apply Kd.Q_drewN | apply Kd.Q_drew)); exact HO497.out) hb)
              replace BK464 := bB BK464 hb
              replace BK498 := bB BK498 hb
              replace HB := bS HB hb
              (try clear hb)
              refine hK.out _ _ (bS3 BK464 (bT3 BK498)) (fun hHeld => ?_)
              clear hK K
              refine nO (some 92) ?_
              refine pI 18 (some 93) HT_.out ?_
              refine pI 19 (some 94) HT_.out ?_
              refine pI 20 (some 2) HT_.out ?_
              refine done_ (done_of HT_.out (by kernel_rfl)) ?_
              try go_wp2
              go_ret
              exact ⟨by first | rfl | (simp [errW_none, errW_some] <;> rfl) | (simp only [← hji46]; first | rfl | (simp [errW_none, errW_some] <;> rfl)) | (simp [*, errW_none, errW_some] <;> rfl), bZ HB⟩
             ·rw [if_neg c57] at H
              have c57b0 : (t500 == t501) = false := by simpa using c57
              (try (have c57b1 : decide (t500 = t501) = false := by simpa using c57))
              (try (have c57b2 : (t500 == t501) = false := by simpa using c57))
              (try (have c57b3 : ¬ (t500 = t501) := by simpa using c57))
              clear c57
              exact absurd (Option.some.inj H) (by rw [htrue.out]; exact Bool.false_ne_true)
           ·rw [if_neg c49] at H
            exact absurd H (by simp)
          ·rw [if_neg c48] at H
           exact absurd H (by simp)
         ·rw [if_neg c47] at H
          exact absurd H (by simp)
       ·rw [if_neg c44] at H
        exact absurd H (by simp)
      ·rw [if_neg c43] at H
       exact absurd H (by simp)
  ·rw [if_neg c5] at H
   exact absurd H (by simp)
def laws_FnRows.Pure : Prop := ∀ (l0 : List Int), l0.length ≤ maxLen → l0.length * 1 ≤ 140737488351232 → (∀ x ∈ l0, (Lit.int .u8 x).wf = true) → ∃ k, laws_FnRows.f k l0 = some true
theorem laws_FnRows.walk (P : laws_FnRows.Pure) (a0 : Option Addr) (len0 cap0 : Nat) (z0 : List Int) (w : World) (w0 : (a0 = none ∧ len0 = 0 ∧ cap0 = 0 ∧ z0 = []) ∨ ∃ x, a0 = some x ∧ len0 ≤ cap0 ∧ cap0 ≤ maxLen ∧ z0.length = cap0 ∧ (∀ i, i < z0.length → w.cell? (x.add i) = some (.int .u8 (z0.getD i 0))) ∧ ∀ n ∈ z0, (Lit.int .u8 n).wf = true) (y0 : len0 * 1 ≤ 140737488351232) :
  Calls Try.prog 14 #[.slice a0 len0 cap0] w fun e w' => e = .returned (.bool true) ∧ Below w.heap.size w w' := by
 obtain ⟨l0, rfl, hr0, hm0, hw0, hc0⟩ := ReadsInt.ofRowC w0
 obtain ⟨k, h⟩ := P l0 hm0 y0 hw0
 refine (laws_FnRows.calls k _ _ l0 true w (Kd.C_of_reads (d := (0 : Int)) (h1 := fun _ => rfl) hr0) hc0 ⟨rfl⟩ h).mono ?_
 rintro e w' ⟨rfl, hd⟩
 exact ⟨rfl, hd⟩
end Go.Proofs.Ythdpfjkdpeamnaa.Pf
end
section
set_option linter.unusedVariables false
set_option linter.unusedSimpArgs false
namespace Go.Proofs.Ythdpfjkdpeamnaa.Ints
open Go.RowKit Go.Proofs.Ythdpfjkdpeamnaa.Pf Go.Proofs.YthdpfjkdpeamnaaW.PrintWords
theorem wrap_in {i : Int} (h0 : -9223372036854775808 ≤ i) (h : i ≤ 9223372036854775807) : wrap64 i = i := by
  unfold wrap64; omega
end Go.Proofs.Ythdpfjkdpeamnaa.Ints
end
section
set_option linter.unusedVariables false
set_option linter.unusedSimpArgs false
namespace Go.Proofs.Ythdpfjkdpeamnaa.Sys
open Go.RowKit Go.Proofs.Ythdpfjkdpeamnaa.Pf Go.Proofs.YthdpfjkdpeamnaaW.PrintWords Go.Proofs.Ythdpfjkdpeamnaa.Ints
set_option maxRecDepth 4000
abbrev RT := S75
def fitsT (x : RT) : Prop := x.f0.length ≤ 1048576 ∧ x.f1.length ≤ 1048576 ∧ x.f2.length ≤ 1048576
theorem rdT {xs : List RT} {i : Nat} (h : i < xs.length) : rd_T75 xs (i : Int) = xs[i] := by
  unfold rd_T75
  rw [Int.toNat_natCast, List.getD_eq_getElem?_getD, List.getElem?_eq_getElem h]; rfl
def inb (x : Int) : Bool := decide (0 ≤ x) && decide (x ≤ 1008)
def wide (xs : List Int) (n : Int) : Bool := xs.all inb && ((xs.length : Int) == n)
theorem rdI {xs : List Int} {i : Nat} (h : i < xs.length) : rd xs (i : Int) = xs[i] := by
  unfold rd
  rw [Int.toNat_natCast, List.getD_eq_getElem?_getD, List.getElem?_eq_getElem h]; rfl
theorem l01In_f (x : Int) : spec_l01In.f x 0 1008 = some (inb x) := by
  unfold spec_l01In.f inb
  by_cases h : x ≥ 0
  · rw [if_pos h]; simp [show (0 : Int) ≤ x from h]
  · rw [if_neg h]; simp [show ¬ (0 : Int) ≤ x from h]
theorem l13Wide_l0 (xs : List Int) (n : Int) (hn : xs.length ≤ 1048576) (d : Nat) : ∀ (i k : Nat), i + d = xs.length → d < k → spec_l13Wide.l0 k xs n (i : Int) = some ((xs.drop i).all inb && ((xs.length : Int) == n)) := by
  induction d with
  | zero =>
    intro i k hi hk
    obtain ⟨k, rfl⟩ : ∃ m, k = m + 1 := ⟨k - 1, by omega⟩
    simp only [spec_l13Wide.l0]
    rw [if_neg (by omega), List.drop_of_length_le (by omega)]; simp
  | succ d ih =>
    intro i k hi hk
    obtain ⟨k, rfl⟩ : ∃ m, k = m + 1 := ⟨k - 1, by omega⟩
    have hlt : i < xs.length := by omega
    simp only [spec_l13Wide.l0]
    rw [if_pos (by omega), if_pos (by omega), rdI hlt, l01In_f, List.drop_eq_getElem_cons hlt, List.all_cons]
    simp only [Option.bind_some]
    cases hb : inb xs[i]
    · rw [if_neg (by decide)]; simp
    · rw [if_pos rfl, wrap_in (by omega) (by omega), show (i : Int) + 1 = ((i + 1 : Nat) : Int) by omega, ih (i + 1) k (by omega) (by omega)]; simp
theorem l13Wide_f (xs : List Int) (n : Int) (hn : xs.length ≤ 1048576) (k : Nat) (hk : 1048577 < k) : spec_l13Wide.f k xs n = some (wide xs n) := by
  unfold spec_l13Wide.f
  rw [show (0 : Int) = ((0 : Nat) : Int) from rfl, l13Wide_l0 xs n hn xs.length 0 k (by omega) (by omega)]; rfl
theorem isScalar_f (x : Int) : impl_isScalar.f x = some (inb x) := by
  unfold impl_isScalar.f inb
  by_cases h : x ≥ 0
  · rw [if_pos h]
    have : decide (x < 1009) = decide (x ≤ 1008) := by rw [decide_eq_decide]; omega
    rw [this]; simp [show (0 : Int) ≤ x from h]
  · rw [if_neg h]; simp [show ¬ (0 : Int) ≤ x from h]
theorem areScalars_l0 (xs : List Int) (hn : xs.length ≤ 1048576) (d : Nat) : ∀ (i k : Nat), i + d = xs.length → d < k → impl_areScalars.l0 k xs (xs.length : Int) (i : Int) = some ((xs.drop i).all inb) := by
  induction d with
  | zero =>
    intro i k hi hk
    obtain ⟨k, rfl⟩ : ∃ m, k = m + 1 := ⟨k - 1, by omega⟩
    simp only [impl_areScalars.l0]
    rw [if_neg (by omega), List.drop_of_length_le (by omega)]; simp
  | succ d ih =>
    intro i k hi hk
    obtain ⟨k, rfl⟩ : ∃ m, k = m + 1 := ⟨k - 1, by omega⟩
    have hlt : i < xs.length := by omega
    simp only [impl_areScalars.l0]
    rw [if_pos (by omega), if_pos (by omega), if_pos (by omega), rdI hlt, isScalar_f, List.drop_eq_getElem_cons hlt, List.all_cons]
    simp only [Option.bind_some]
    cases hb : inb xs[i]
    · rw [if_neg (by decide)]; simp
    · rw [if_pos rfl, wrap_in (by omega) (by omega), show (i : Int) + 1 = ((i + 1 : Nat) : Int) by omega, ih (i + 1) k (by omega) (by omega)]; simp
theorem areScalars_f (xs : List Int) (hn : xs.length ≤ 1048576) (k : Nat) (hk : 1048577 < k) : impl_areScalars.f k xs = some (xs.all inb) := by
  unfold impl_areScalars.f
  have h := areScalars_l0 xs hn xs.length 0 k (by omega) (by omega)
  rw [List.drop_zero] at h
  exact h
def rowOk (n : Int) (x : RT) : Bool := wide x.f0 n && wide x.f1 n && wide x.f2 n
def sysOk (a b : Int) (xs : List RT) : Bool := decide (1 ≤ a) && decide (a ≤ 20) && decide (0 ≤ b) && decide (b ≤ a - 1) && decide (1 ≤ xs.length) && decide (xs.length ≤ 16) && xs.all (rowOk a)
theorem specOk_l0 (a b : Int) (xs : List RT) (hx : ∀ y ∈ xs, fitsT y) (hn : xs.length ≤ 1048576) (d : Nat) : ∀ (i k : Nat), i + d = xs.length → d + 1048578 < k →
    spec_SystemOk.l0 k (i : Int) a b xs = some ((xs.drop i).all (rowOk a)) := by
  induction d with
  | zero =>
    intro i k hi hk
    obtain ⟨k, rfl⟩ : ∃ m, k = m + 1 := ⟨k - 1, by omega⟩
    simp only [spec_SystemOk.l0]
    rw [if_neg (by omega), List.drop_of_length_le (by omega)]; simp
  | succ d ih =>
    intro i k hi hk
    obtain ⟨k, rfl⟩ : ∃ m, k = m + 1 := ⟨k - 1, by omega⟩
    have hlt : i < xs.length := by omega
    obtain ⟨q0, q1, q2⟩ := hx xs[i] (List.getElem_mem hlt)
    simp only [spec_SystemOk.l0]
    rw [if_pos (by omega), if_pos (by omega), rdT hlt, l13Wide_f _ _ q0 k (by omega), l13Wide_f _ _ q1 k (by omega), l13Wide_f _ _ q2 k (by omega), List.drop_eq_getElem_cons hlt, List.all_cons]
    simp only [Option.bind_some]
    rw [wrap_in (by omega) (by omega), show (i : Int) + 1 = ((i + 1 : Nat) : Int) by omega, ih (i + 1) k (by omega) (by omega)]
    unfold rowOk
    cases wide xs[i].f0 a <;> cases wide xs[i].f1 a <;> cases wide xs[i].f2 a <;> simp
theorem specOk_f (a b : Int) (xs : List RT) (ha : -9223372036854775808 ≤ a) (hx : ∀ y ∈ xs, fitsT y) (hn : xs.length ≤ 1048576) (k : Nat) (hk : 2097156 < k) : spec_SystemOk.f k a b xs = some (sysOk a b xs) := by
  obtain ⟨k, rfl⟩ : ∃ m, k = m + 1 := ⟨k - 1, by omega⟩
  have h0 := specOk_l0 a b xs hx hn xs.length 0 k (by omega) (by omega)
  rw [List.drop_zero, Int.ofNat_zero] at h0
  unfold spec_SystemOk.f spec_l01In.f sysOk
  by_cases c1 : a ≥ 1
  · rw [if_pos c1, decide_eq_true (show 1 ≤ a from c1)]
    simp only [Option.bind_some]
    by_cases c2 : a ≤ 20
    · rw [decide_eq_true c2, if_pos rfl, wrap_in (by omega) (by omega)]
      by_cases c3 : b ≥ 0
      · rw [if_pos c3, decide_eq_true (show 0 ≤ b from c3)]
        simp only [Option.bind_some]
        by_cases c4 : b ≤ a - 1
        · rw [decide_eq_true c4, if_pos rfl]
          by_cases c5 : 1 ≤ xs.length
          · rw [if_pos (by omega), decide_eq_true c5]
            simp only [Option.bind_some, spec_SystemOk.j0]
            by_cases c6 : xs.length ≤ 16
            · rw [decide_eq_true (show (xs.length : Int) ≤ 16 by omega), decide_eq_true c6, if_neg (by decide), h0]; simp
            · rw [decide_eq_false (show ¬ (xs.length : Int) ≤ 16 by omega), decide_eq_false c6, if_pos (by decide)]; simp
          · rw [if_neg (by omega), decide_eq_false c5]
            simp [spec_SystemOk.j0]
        · rw [decide_eq_false c4, if_neg (by decide)]; simp [spec_SystemOk.j0]
      · rw [if_neg c3, decide_eq_false (show ¬ 0 ≤ b from c3)]; simp [spec_SystemOk.j0]
    · rw [decide_eq_false c2, if_neg (by decide)]; simp [spec_SystemOk.j0]
  · rw [if_neg c1, decide_eq_false (show ¬ 1 ≤ a from c1)]; simp [spec_SystemOk.j0]
theorem implOk_l0 (a b : Int) (xs zs : List RT) (hx : ∀ y ∈ xs, fitsT y) (hn : xs.length ≤ 1048576) (d : Nat) : ∀ (i k : Nat), i + d = xs.length → 3 * d + 1048590 < k →
    impl_SystemOk.l0 k xs (xs.length : Int) (i : Int) a b zs = some ((xs.drop i).all (rowOk a)) := by
  induction d with
  | zero =>
    intro i k hi hk
    obtain ⟨k, rfl⟩ : ∃ m, k = m + 1 := ⟨k - 1, by omega⟩
    simp only [impl_SystemOk.l0]
    rw [if_neg (by omega), List.drop_of_length_le (by omega)]; simp
  | succ d ih =>
    intro i k hi hk
    obtain ⟨k, rfl⟩ : ∃ m, k = m + 3 := ⟨k - 3, by omega⟩
    have hlt : i < xs.length := by omega
    obtain ⟨q0, q1, q2⟩ := hx xs[i] (List.getElem_mem hlt)
    simp only [impl_SystemOk.l0, impl_SystemOk.j3, impl_SystemOk.j4]
    rw [if_pos (by omega), if_pos (by omega), if_pos (by omega), rdT hlt, areScalars_f _ q0 (k + 2) (by omega), areScalars_f _ q1 (k + 1) (by omega), areScalars_f _ q2 k (by omega), List.drop_eq_getElem_cons hlt, List.all_cons]
    simp only [Option.bind_some]
    rw [wrap_in (by omega) (by omega), show (i : Int) + 1 = ((i + 1 : Nat) : Int) by omega, ih (i + 1) k (by omega) (by omega)]
    unfold rowOk wide
    by_cases c0 : (xs[i].f0.length : Int) = a <;> by_cases c1 : (xs[i].f1.length : Int) = a <;> by_cases c2 : (xs[i].f2.length : Int) = a <;>
      cases xs[i].f0.all inb <;> cases xs[i].f1.all inb <;> cases xs[i].f2.all inb <;> simp [c0, c1, c2]
theorem implOk_f (a b : Int) (xs : List RT) (ha : -9223372036854775808 ≤ a) (hx : ∀ y ∈ xs, fitsT y) (hn : xs.length ≤ 1048576) (k : Nat) (hk : 4194400 < k) : impl_SystemOk.f k a b xs = some (sysOk a b xs) := by
  obtain ⟨k, rfl⟩ : ∃ m, k = m + 2 := ⟨k - 2, by omega⟩
  have h0 := implOk_l0 a b xs xs hx hn xs.length 0 k (by omega) (by omega)
  rw [List.drop_zero, Int.ofNat_zero] at h0
  unfold impl_SystemOk.f sysOk
  by_cases c1 : 1 ≤ a
  · rw [if_neg (by omega), decide_eq_true c1]
    by_cases c2 : a ≤ 20
    · rw [if_neg (by omega), decide_eq_true c2, wrap_in (by omega) (by omega)]
      by_cases c3 : 0 ≤ b
      · rw [if_neg (by omega), decide_eq_true c3]
        simp only [impl_SystemOk.j0, impl_SystemOk.j1]
        by_cases c4 : b ≤ a - 1
        · rw [decide_eq_false (show ¬ b > a - 1 by omega), decide_eq_true c4, if_neg (by decide)]
          by_cases c5 : 1 ≤ xs.length
          · rw [if_neg (by omega), decide_eq_true c5]
            by_cases c6 : xs.length ≤ 16
            · rw [decide_eq_false (show ¬ (xs.length : Int) > 16 by omega), decide_eq_true c6, if_neg (by decide), h0]; simp
            · rw [decide_eq_true (show (xs.length : Int) > 16 by omega), decide_eq_false c6]; simp
          · rw [if_pos (by omega), decide_eq_false c5]; simp
        · rw [decide_eq_true (show b > a - 1 by omega), decide_eq_false c4]; simp
      · rw [if_pos (by omega), decide_eq_false c3]; simp [impl_SystemOk.j0]
    · rw [if_pos (by omega), decide_eq_false c2]; simp [impl_SystemOk.j0]
  · rw [if_pos (by omega), decide_eq_false c1]; simp [impl_SystemOk.j0]
def sc (a : Int) : Int := if Int.tmod a 1009 < 0 then wrap64 (Int.tmod a 1009 + 1009) else Int.tmod a 1009
def smul (a b : Int) : Int := sc (wrap64 (sc a * sc b))
def sadd (a b : Int) : Int := sc (wrap64 (sc a + sc b))
theorem specSc (a : Int) : spec_ScOf.f a = some (sc a) := by
  unfold spec_ScOf.f sc; split <;> rfl
theorem implSc (a : Int) : impl_ScOf.f a = some (sc a) := by
  unfold impl_ScOf.f impl_remainder.f sc
  rw [if_neg (by decide)]; split <;> rfl
theorem specMul (a b : Int) : spec_ScMul.f a b = some (smul a b) := by
  unfold spec_ScMul.f smul; rw [specSc, specSc]; simp only [Option.bind_some, specSc]
theorem implMul (a b : Int) : impl_ScMul.f a b = some (smul a b) := by
  unfold impl_ScMul.f smul; rw [implSc, implSc]; simp only [Option.bind_some, implSc]
theorem specAdd (a b : Int) : spec_ScAdd.f a b = some (sadd a b) := by
  unfold spec_ScAdd.f sadd; rw [specSc, specSc]; simp only [Option.bind_some, specSc]
theorem implAdd (a b : Int) : impl_ScAdd.f a b = some (sadd a b) := by
  unfold impl_ScAdd.f sadd; rw [implSc, implSc]; simp only [Option.bind_some, implSc]
def dot : List Int → List Int → Int → Int
  | x :: xs, y :: ys, a => dot xs ys (sadd a (smul x y))
  | _, _, a => a
theorem dot_stop (xs ys : List Int) (a : Int) (h : ¬ (0 < xs.length ∧ 0 < ys.length)) : dot xs ys a = a := by
  cases xs with
  | nil => rfl
  | cons x xs => cases ys with
    | nil => rfl
    | cons y ys => exact absurd ⟨by simp, by simp⟩ h
theorem specDot_l0 (xs ys : List Int) (hn : xs.length ≤ 1048576) (d : Nat) : ∀ (i k : Nat) (a : Int), i + d = xs.length → 2 * d + 1 < k →
    spec_ScDot.l0 k xs ys a (i : Int) = some (dot (xs.drop i) (ys.drop i) a) := by
  induction d with
  | zero =>
    intro i k a hi hk
    obtain ⟨k, rfl⟩ : ∃ m, k = m + 2 := ⟨k - 2, by omega⟩
    simp only [spec_ScDot.l0, spec_ScDot.j1]
    rw [if_neg (by omega), if_neg (by decide), dot_stop _ _ _ (by simp; omega)]
  | succ d ih =>
    intro i k a hi hk
    obtain ⟨k, rfl⟩ : ∃ m, k = m + 2 := ⟨k - 2, by omega⟩
    have hlt : i < xs.length := by omega
    simp only [spec_ScDot.l0, spec_ScDot.j1]
    rw [if_pos (by omega)]
    by_cases hy : i < ys.length
    · rw [if_pos (decide_eq_true (by omega)), if_pos (by omega), if_pos (by omega), if_pos (by omega), rdI hlt, rdI hy, specMul]
      simp only [Option.bind_some, specAdd]
      rw [wrap_in (by omega) (by omega), show (i : Int) + 1 = ((i + 1 : Nat) : Int) by omega, ih (i + 1) k _ (by omega) (by omega), List.drop_eq_getElem_cons hlt, List.drop_eq_getElem_cons hy]
      rfl
    · rw [if_neg (by rw [decide_eq_true_eq]; omega), dot_stop _ _ _ (by simp; omega)]
theorem implDot_l0 (xs ys : List Int) (hn : xs.length ≤ 1048576) (d : Nat) : ∀ (i k : Nat) (a : Int), i + d = min xs.length ys.length → d < k →
    impl_ScDot.l0 k xs ys a (mn (xs.length : Int) (ys.length : Int)) (i : Int) = some (dot (xs.drop i) (ys.drop i) a) := by
  have hm : mn (xs.length : Int) (ys.length : Int) = ((min xs.length ys.length : Nat) : Int) := by unfold mn; omega
  rw [hm]
  induction d with
  | zero =>
    intro i k a hi hk
    obtain ⟨k, rfl⟩ : ∃ m, k = m + 1 := ⟨k - 1, by omega⟩
    simp only [impl_ScDot.l0]
    rw [if_neg (by omega), dot_stop _ _ _ (by simp; omega)]
  | succ d ih =>
    intro i k a hi hk
    obtain ⟨k, rfl⟩ : ∃ m, k = m + 1 := ⟨k - 1, by omega⟩
    have hlt : i < xs.length := by omega
    have hy : i < ys.length := by omega
    simp only [impl_ScDot.l0]
    rw [if_pos (by omega), if_pos (by omega), if_pos (by omega), if_pos (by omega), rdI hlt, rdI hy, implMul]
    simp only [Option.bind_some, implAdd]
    rw [wrap_in (by omega) (by omega), show (i : Int) + 1 = ((i + 1 : Nat) : Int) by omega, ih (i + 1) k _ (by omega) (by omega), List.drop_eq_getElem_cons hlt, List.drop_eq_getElem_cons hy]
    rfl
theorem specDot_f (xs ys : List Int) (hn : xs.length ≤ 1048576) (k : Nat) (hk : 2097154 < k) : spec_ScDot.f k xs ys = some (dot xs ys 0) := by
  unfold spec_ScDot.f
  have h := specDot_l0 xs ys hn xs.length 0 k 0 (by omega) (by omega)
  simpa using h
theorem implDot_f (xs ys : List Int) (hn : xs.length ≤ 1048576) (k : Nat) (hk : 2097154 < k) : impl_ScDot.f k xs ys = some (dot xs ys 0) := by
  unfold impl_ScDot.f
  have h := implDot_l0 xs ys hn (min xs.length ys.length) 0 k 0 (by omega) (by omega)
  simpa using h
def rowSat (w : List Int) (x : RT) : Bool := decide (smul (dot x.f0 w 0) (dot x.f1 w 0) = dot x.f2 w 0)
theorem specSat_l0 (a b : Int) (xs : List RT) (w : List Int) (hx : ∀ y ∈ xs, fitsT y) (hn : xs.length ≤ 1048576) (d : Nat) : ∀ (i k : Nat), i + d = xs.length → d + 2097156 < k →
    spec_Satisfied.l0 k w (i : Int) a b xs = some ((xs.drop i).all (rowSat w)) := by
  induction d with
  | zero =>
    intro i k hi hk
    obtain ⟨k, rfl⟩ : ∃ m, k = m + 1 := ⟨k - 1, by omega⟩
    simp only [spec_Satisfied.l0]
    rw [if_neg (by omega), List.drop_of_length_le (by omega)]; simp
  | succ d ih =>
    intro i k hi hk
    obtain ⟨k, rfl⟩ : ∃ m, k = m + 1 := ⟨k - 1, by omega⟩
    have hlt : i < xs.length := by omega
    obtain ⟨q0, q1, q2⟩ := hx xs[i] (List.getElem_mem hlt)
    simp only [spec_Satisfied.l0]
    rw [if_pos (by omega), if_pos (by omega), rdT hlt, specDot_f _ _ q0 k (by omega), specDot_f _ _ q1 k (by omega), specDot_f _ _ q2 k (by omega), List.drop_eq_getElem_cons hlt, List.all_cons]
    simp only [Option.bind_some, specMul]
    rw [wrap_in (by omega) (by omega), show (i : Int) + 1 = ((i + 1 : Nat) : Int) by omega, ih (i + 1) k (by omega) (by omega)]
    unfold rowSat
    by_cases c : smul (dot xs[i].f0 w 0) (dot xs[i].f1 w 0) = dot xs[i].f2 w 0
    · rw [if_pos c, decide_eq_true c]; simp
    · rw [if_neg c, decide_eq_false c]; simp
theorem implSat_l0 (xs : List RT) (w : List Int) (hx : ∀ y ∈ xs, fitsT y) (hn : xs.length ≤ 1048576) (d : Nat) : ∀ (i k : Nat), i + d = xs.length → d + 2097156 < k →
    impl_Satisfied.l0 k w xs (xs.length : Int) (i : Int) = some ((xs.drop i).all (rowSat w)) := by
  induction d with
  | zero =>
    intro i k hi hk
    obtain ⟨k, rfl⟩ : ∃ m, k = m + 1 := ⟨k - 1, by omega⟩
    simp only [impl_Satisfied.l0]
    rw [if_neg (by omega), List.drop_of_length_le (by omega)]; simp
  | succ d ih =>
    intro i k hi hk
    obtain ⟨k, rfl⟩ : ∃ m, k = m + 1 := ⟨k - 1, by omega⟩
    have hlt : i < xs.length := by omega
    obtain ⟨q0, q1, q2⟩ := hx xs[i] (List.getElem_mem hlt)
    simp only [impl_Satisfied.l0]
    rw [if_pos (by omega), if_pos (by omega), if_pos (by omega), rdT hlt, implDot_f _ _ q0 k (by omega), implDot_f _ _ q1 k (by omega), implDot_f _ _ q2 k (by omega), List.drop_eq_getElem_cons hlt, List.all_cons]
    simp only [Option.bind_some, implMul]
    rw [wrap_in (by omega) (by omega), show (i : Int) + 1 = ((i + 1 : Nat) : Int) by omega, ih (i + 1) k (by omega) (by omega)]
    unfold rowSat
    by_cases c : smul (dot xs[i].f0 w 0) (dot xs[i].f1 w 0) = dot xs[i].f2 w 0
    · rw [if_pos c, decide_eq_true c]; simp
    · rw [if_neg c, decide_eq_false c]; simp
def sat (a b : Int) (xs : List RT) (w : List Int) : Bool := sysOk a b xs && wide w a && decide (w.getD 0 0 = 1) && xs.all (rowSat w)
theorem sysOk_le {a b : Int} {xs : List RT} (h : sysOk a b xs = true) : 1 ≤ a := by
  unfold sysOk at h
  simp only [Bool.and_eq_true, decide_eq_true_eq] at h
  exact h.1.1.1.1.1.1
theorem specSat_f (a b : Int) (xs : List RT) (w : List Int) (ha : -9223372036854775808 ≤ a) (hx : ∀ y ∈ xs, fitsT y) (hn : xs.length ≤ 1048576) (hw : w.length ≤ 1048576) (k : Nat) (hk : 4194410 < k) : spec_Satisfied.f k a b xs w = some (sat a b xs w) := by
  obtain ⟨k, rfl⟩ : ∃ m, k = m + 1 := ⟨k - 1, by omega⟩
  have h0 := specSat_l0 a b xs w hx hn xs.length 0 k (by omega) (by omega)
  rw [List.drop_zero, Int.ofNat_zero] at h0
  unfold spec_Satisfied.f sat
  rw [specOk_f a b xs ha hx hn (k + 1) (by omega)]
  simp only [Option.bind_some]
  cases hs : sysOk a b xs with
  | false => simp [spec_Satisfied.j0]
  | true =>
    have h1 := sysOk_le hs
    rw [if_pos rfl, l13Wide_f w a hw (k + 1) (by omega)]
    simp only [Option.bind_some]
    cases hv : wide w a with
    | false => simp [spec_Satisfied.j0]
    | true =>
      have h2 : (w.length : Int) = a := by
        unfold wide at hv; simp only [Bool.and_eq_true, beq_iff_eq] at hv; exact hv.2
      rw [if_pos rfl, if_pos (by omega)]
      have h3 : rd w 0 = w.getD 0 0 := rfl
      rw [h3]
      by_cases c : w.getD 0 0 = 1
      · rw [decide_eq_true c, c]; simp only [spec_Satisfied.j0]; rw [if_neg (by decide), h0]; simp
      · rw [decide_eq_false c]; simp only [spec_Satisfied.j0]; rw [if_pos (by simpa using c)]; simp
theorem implSat_f (a b : Int) (xs : List RT) (w : List Int) (ha : -9223372036854775808 ≤ a) (hx : ∀ y ∈ xs, fitsT y) (hn : xs.length ≤ 1048576) (hw : w.length ≤ 1048576) (k : Nat) (hk : 4194410 < k) : impl_Satisfied.f k a b xs w = some (sat a b xs w) := by
  obtain ⟨k, rfl⟩ : ∃ m, k = m + 1 := ⟨k - 1, by omega⟩
  have h0 := implSat_l0 xs w hx hn xs.length 0 k (by omega) (by omega)
  rw [List.drop_zero, Int.ofNat_zero] at h0
  unfold impl_Satisfied.f sat
  rw [implOk_f a b xs ha hx hn (k + 1) (by omega)]
  simp only [Option.bind_some]
  cases hs : sysOk a b xs with
  | false => simp [impl_Satisfied.j0]
  | true =>
    have h1 := sysOk_le hs
    have hW : impl_isWitness.f (k + 1) a b xs w = some (wide w a) := by
      unfold impl_isWitness.f wide
      rw [areScalars_f w hw (k + 1) (by omega)]
      by_cases c : (w.length : Int) = a
      · rw [if_pos c, c]; simp
      · rw [if_neg c]; simp [c]
    rw [if_pos rfl, hW]
    simp only [Option.bind_some]
    cases hv : wide w a with
    | false => simp [impl_Satisfied.j0]
    | true =>
      have h2 : (w.length : Int) = a := by
        unfold wide at hv; simp only [Bool.and_eq_true, beq_iff_eq] at hv; exact hv.2
      rw [if_pos rfl, if_pos (by omega)]
      have h3 : rd w 0 = w.getD 0 0 := rfl
      rw [h3]
      by_cases c : w.getD 0 0 = 1
      · rw [decide_eq_true c, c]; simp only [impl_Satisfied.j0]; rw [if_neg (by decide), h0]; simp
      · rw [decide_eq_false c]; simp only [impl_Satisfied.j0]; rw [if_pos (by simpa using c)]; simp
end Go.Proofs.Ythdpfjkdpeamnaa.Sys
end
section
set_option linter.unusedVariables false
set_option linter.unusedSimpArgs false
namespace Go.Proofs.Ythdpfjkdpeamnaa.Draw
open Go.RowKit Go.Proofs.Ythdpfjkdpeamnaa.Pf Go.Proofs.YthdpfjkdpeamnaaW.PrintWords
theorem wrapd {i : Int} (h0 : -9223372036854775808 ≤ i) (h : i ≤ 9223372036854775807) : wrap64 i = i := by
  unfold wrap64; omega
theorem Ev.one {α : Type} {g : Nat → Option α} {r : α} (h : ∀ k, g (k + 1) = some r) : Ev g r :=
  ⟨1, fun k hk => by obtain ⟨k, rfl⟩ : ∃ m, k = m + 1 := ⟨k - 1, by omega⟩; exact h k⟩
theorem and_255 (x : Int) : 0 ≤ Go.bits .and .i64 x 255 ∧ Go.bits .and .i64 x 255 ≤ 255 := by
  have h : (BitVec.ofInt (IntKind.bits .i64) 255).toNat = 255 := by decide
  simp only [Go.bits, BitVec.toNat_and, h]
  generalize (BitVec.ofInt _ x).toNat = a
  have : a &&& 255 ≤ 255 := Nat.and_le_right
  rw [IntKind.wrap_i64]
  omega
def Okc (b : List Int) (i : Int) : Prop := 0 ≤ i ∧ i ≤ 9223372036854775807 ∧ b.length ≤ 9223372036854775807
theorem byte_some (b : List Int) (i h : Int) (ho : Okc b i) : ∃ x i' h', spec_l01Byte.f b i h = some (x, i', h') ∧ 0 ≤ x ∧ x ≤ 255 ∧ Okc b i' := by
  obtain ⟨h0, h1, h2⟩ := ho
  unfold spec_l01Byte.f
  by_cases c : i < (b.length : Int)
  · rw [if_pos c, if_pos h0, wrapd (i := i + 1) (by omega) (by omega)]
    exact ⟨_, _, _, rfl, (and_255 _).1, (and_255 _).2, by omega, by omega, h2⟩
  · rw [if_neg c]
    exact ⟨_, _, _, rfl, (and_255 _).1, (and_255 _).2, h0, h1, h2⟩
theorem below_some (b : List Int) (i h n : Int) (ho : Okc b i) (hn : 0 < n) (hn2 : n ≤ 4294967296) : ∃ x i' h', spec_l01Below.f b i h n = some (x, i', h') ∧ 0 ≤ x ∧ x < n ∧ Okc b i' := by
  unfold spec_l01Below.f
  rw [if_neg (by omega)]
  by_cases c : n ≤ 256
  · obtain ⟨x, i1, h1, e1, x0, x1, o1⟩ := byte_some b i h ho
    rw [if_pos c, e1]
    simp only [Option.bind_some]
    rw [if_neg (by omega)]
    exact ⟨_, _, _, rfl, Int.tmod_nonneg _ x0, Int.tmod_lt_of_pos _ hn, o1⟩
  · obtain ⟨x, i1, h1, e1, x0, x1, o1⟩ := byte_some b i h ho
    obtain ⟨y, i2, h2, e2, y0, y1, o2⟩ := byte_some b i1 h1 o1
    obtain ⟨z, i3, h3, e3, z0, z1, o3⟩ := byte_some b i2 h2 o2
    obtain ⟨u, i4, h4, e4, u0, u1, o4⟩ := byte_some b i3 h3 o3
    rw [if_neg c]
    simp only [e1, e2, e3, e4, Option.bind_some]
    rw [if_neg (by omega), wrapd (i := x * 16777216) (by omega) (by omega), wrapd (i := y * 65536) (by omega) (by omega), wrapd (i := z * 256) (by omega) (by omega), wrapd (i := x * 16777216 + y * 65536) (by omega) (by omega), wrapd (i := x * 16777216 + y * 65536 + z * 256) (by omega) (by omega), wrapd (by omega) (by omega)]
    exact ⟨_, _, _, rfl, Int.tmod_nonneg _ (by omega), Int.tmod_lt_of_pos _ hn, o4⟩
theorem new_l0 (b : List Int) (hb : b.length ≤ 9223372036854775807) : ∀ (d i : Nat) (h : Int), i + d = b.length → ∃ h', Ev (fun k => spec_l01New.l0 k b h (i : Int)) (b, 0, h')
  | 0, i, h, hi => ⟨h, Ev.one fun k => by
      simp only [spec_l01New.l0]
      rw [if_neg (by omega)]⟩
  | d + 1, i, h, hi => by
    by_cases c : (i : Int) < 4000
    · obtain ⟨h', he⟩ := new_l0 b hb d (i + 1) (Go.bits .and .i64 (wrap64 ((wrap64 ((wrap64 (h * 131)) + (wrap64 (rd b (i : Int))))) + 7)) 1073741823) (by omega)
      refine ⟨h', Ev.step (fun k => ?_) he⟩
      simp only [spec_l01New.l0]
      rw [if_pos (by omega), if_pos c, if_pos (by omega), wrapd (i := (i : Int) + 1) (by omega) (by omega)]
      rfl
    · refine ⟨h, Ev.one fun k => ?_⟩
      simp only [spec_l01New.l0]
      rw [if_pos (by omega), if_neg c]
theorem new_ev (b : List Int) (hb : b.length ≤ 9223372036854775807) : ∃ h, Ev (fun k => spec_l01New.f k b) (b, 0, h) := by
  obtain ⟨h, he⟩ := new_l0 b hb b.length 0 (wrap64 (76801 + (b.length : Int))) (by omega)
  exact ⟨h, he⟩
theorem ok0 (b : List Int) (hb : b.length ≤ 9223372036854775807) : Okc b 0 := ⟨by omega, by omega, hb⟩
theorem once_some (b : List Int) (i h n : Int) (ho : Okc b i) (hn : 0 < n) (hn2 : n ≤ 4294967296) : ∃ x i' h', spec_l01Once.f b i h n = some (x, i', h') ∧ Okc b i' := by
  obtain ⟨x, i1, h1, e1, _, _, o1⟩ := below_some b i h n ho hn hn2
  exact ⟨x == 0, i1, h1, by simp only [spec_l01Once.f, e1, Option.bind_some], o1⟩
theorem pick_some (b : List Int) (i h : Int) (l : List Int) (ho : Okc b i) (hl : 0 < l.length) (hl2 : l.length ≤ 1000) : ∃ x i' h', spec_l01PickInt.f b i h l = some (x, i', h') ∧ x ∈ l ∧ Okc b i' := by
  obtain ⟨x, i1, h1, e1, x0, x1, o1⟩ := below_some b i h (l.length : Int) ho (by omega) (by omega)
  have hx : x.toNat < l.length := by omega
  refine ⟨rd l x, i1, h1, ?_, ?_, o1⟩
  · simp only [spec_l01PickInt.f, e1, Option.bind_some]
    rw [if_pos x0, if_pos x1]
  · unfold rd
    rw [List.getD_eq_getElem?_getD, List.getElem?_eq_getElem hx, Option.getD_some]
    exact List.getElem_mem hx
theorem places_l0 (b : List Int) : ∀ (d : Nat) (j : Nat) (xs : List Int) (i h : Int), j + d = 12 → xs.length = j → (∀ x ∈ xs, 0 ≤ x ∧ x ≤ 9999) → Okc b i →
    ∃ ys : List Int, ys.length = 12 ∧ (∀ x ∈ ys, 0 ≤ x ∧ x ≤ 9999) ∧ Ev (fun k => spec_DrawPlaces.l0 k xs (j : Int) b i h) ys
  | 0, j, xs, i, h, hj, hl, hx, ho => ⟨xs, by omega, hx, Ev.one fun k => by
      simp only [spec_DrawPlaces.l0]
      rw [if_neg (by omega)]⟩
  | d + 1, j, xs, i, h, hj, hl, hx, ho => by
    obtain ⟨x, i1, h1, e1, x0, x1, o1⟩ := below_some b i h 10000 ho (by decide) (by decide)
    obtain ⟨ys, y1, y2, y3⟩ := places_l0 b d (j + 1) (xs ++ [x]) i1 h1 (by omega) (by simp [hl]) (fun z hz => by
      rcases List.mem_append.1 hz with hz | hz
      · exact hx z hz
      · rw [List.mem_singleton.1 hz]; omega) o1
    refine ⟨ys, y1, y2, Ev.step (fun k => ?_) y3⟩
    simp only [spec_DrawPlaces.l0]
    rw [if_pos (by omega), e1, Option.bind_some, if_pos (by omega), wrapd (by omega) (by omega)]
    rfl
theorem places_ev (b : List Int) (hb : b.length ≤ 9223372036854775807) : ∃ ys : List Int, ys.length = 12 ∧ (∀ x ∈ ys, 0 ≤ x ∧ x ≤ 9999) ∧ Ev (fun k => spec_DrawPlaces.f k b) ys := by
  obtain ⟨h, K1, e1⟩ := new_ev b hb
  obtain ⟨x, i1, h1, e2, _, _, o1⟩ := byte_some b 0 h (ok0 b hb)
  obtain ⟨ys, y1, y2, K2, y3⟩ := places_l0 b 12 0 [] i1 h1 (by omega) rfl (fun z hz => by cases hz) o1
  refine ⟨ys, y1, y2, K1 + K2, fun k hk => ?_⟩
  have g1 := e1 k (by omega)
  have g2 := y3 k (by omega)
  dsimp only at g1 g2 ⊢
  simp only [spec_DrawPlaces.f, g1, Option.bind_some, e2]
  exact g2
end Go.Proofs.Ythdpfjkdpeamnaa.Draw
end
section
set_option linter.unusedVariables false
set_option linter.unusedSimpArgs false
namespace Go.Proofs.Ythdpfjkdpeamnaa.Open
open Go.RowKit Go.Proofs.YthdpfjkdpeamnaaW.PrintWords Go.ChangeShapes Go.WideShapes
section
variable {P : Program} {t : TypeId}
end
end Go.Proofs.Ythdpfjkdpeamnaa.Open
end
section
set_option linter.unusedVariables false
set_option linter.unusedSimpArgs false
set_option maxHeartbeats 8000000
set_option maxRecDepth 100000
namespace Go.Proofs.Ythdpfjkdpeamnaa.RowsD
open Go.RowKit Go.Proofs.Ythdpfjkdpeamnaa.Pf Go.Proofs.YthdpfjkdpeamnaaW.PrintWords Go.Proofs.Ythdpfjkdpeamnaa.Ints
open Go.Proofs.Ythdpfjkdpeamnaa.Sys
open Go.Proofs.Ythdpfjkdpeamnaa.Draw (Okc below_some once_some pick_some Ev.one wrapd new_ev ok0)
set_option maxRecDepth 4000
theorem num_some (b : List Int) (i h : Int) (ho : Okc b i) : ∃ x i' h', spec_l06Num.f b i h = some (x, i', h') ∧ Okc b i' := by
  obtain ⟨x, i1, h1, e1, _, _, o1⟩ := below_some b i h 256 ho (by decide) (by decide)
  obtain ⟨y, i2, h2, e2, _, o2⟩ := pick_some b i1 h1 [0, 1, 2, 1008, 1009, 1010, (-1), wrap64 (x * 3), 500, (-9223372036854775808), 9223372036854775807] o1 (by simp) (by simp)
  exact ⟨y, i2, h2, by simp only [spec_l06Num.f, e1, Option.bind_some, e2], o2⟩
def rowFine (n : Nat) (r : RT) : Prop := r.f0.length = n ∧ r.f1.length = n ∧ r.f2.length = n
instance (n : Nat) (r : RT) : Decidable (rowFine n r) := by unfold rowFine; infer_instance
structure Drawn (n : Nat) (rows : List RT) (w : List Int) : Prop where
  n1 : 1 ≤ n
  n2 : n ≤ 20
  m1 : 1 ≤ rows.length
  m2 : rows.length ≤ 16
  wl : w.length = n
  all : ∀ r ∈ rows, rowFine n r
def countRows : List RT := match impl_CountSystem.f 40 with | some (_, _, rows) => rows | none => []
theorem count_impl : impl_CountSystem.f 40 = some (11, 2, countRows) := by kernel_rfl
theorem count_spec : spec_CountSystem.f 40 = some (11, 2, countRows) := by kernel_rfl
theorem count_fine : countRows.length = 10 ∧ ∀ r ∈ countRows, rowFine 11 r := by decide +kernel
theorem count_ok : sysOk 11 2 countRows = true := by decide +kernel
def r8 : RT := ⟨[1, 0, 0, 0, 0, 0, 0, 0, 0, 0, 0], [0, 0, 0, 1, 2, 4, 8, 16, 32, 64, 128], [0, 1, 0, 0, 0, 0, 0, 0, 0, 0, 0]⟩
def r9 : RT := ⟨[1, 0, 0, 0, 0, 0, 0, 0, 0, 0, 0], [0, 0, 0, 1, 1, 1, 1, 1, 1, 1, 1], [0, 0, 1, 0, 0, 0, 0, 0, 0, 0, 0]⟩
theorem count_8 : countRows[8]? = some r8 := by kernel_rfl
theorem count_9 : countRows[9]? = some r9 := by kernel_rfl
theorem mem_8 : r8 ∈ countRows := List.mem_of_getElem? count_8
theorem mem_9 : r9 ∈ countRows := List.mem_of_getElem? count_9
def chkI (n : Nat) : Bool := match impl_CountWitness.f 40 (n : Int), impl_PublicOf.f (n : Int) with | some w, some p => (w.length == 11) && (w.getD 0 0 == 1) && sat 11 2 countRows w && (laws_sameInts.f 40 p ((w.take 3).drop 1) == some true) | _, _ => false
theorem chkI_all : ∀ n : Fin 256, chkI n.val = true := by decide +kernel
def chkS (n : Nat) : Bool := match spec_CountWitness.f 40 (n : Int) with | some w => w.length == 11 | none => false
theorem chkS_all : ∀ n : Fin 256, chkS n.val = true := by decide +kernel
theorem witness_impl (n : Nat) (h : n < 256) : ∃ w p, impl_CountWitness.f 40 (n : Int) = some w ∧ impl_PublicOf.f (n : Int) = some p ∧ w.length = 11 ∧ w.getD 0 0 = 1 ∧ sat 11 2 countRows w = true ∧ laws_sameInts.f 40 p ((w.take 3).drop 1) = some true := by
  have c := chkI_all ⟨n, h⟩
  unfold chkI at c
  dsimp only at c
  cases e : impl_CountWitness.f 40 (n : Int) with
  | none => rw [e] at c; cases c
  | some w =>
    cases e2 : impl_PublicOf.f (n : Int) with
    | none => rw [e, e2] at c; cases c
    | some p =>
      rw [e, e2] at c
      simp only [Bool.and_eq_true, beq_iff_eq] at c
      obtain ⟨⟨⟨c1, c2⟩, c3⟩, c4⟩ := c
      exact ⟨w, p, rfl, rfl, c1, c2, c3, c4⟩
theorem witness_spec (n : Nat) (h : n < 256) : ∃ w, spec_CountWitness.f 40 (n : Int) = some w ∧ w.length = 11 := by
  have c := chkS_all ⟨n, h⟩
  unfold chkS at c
  dsimp only at c
  cases e : spec_CountWitness.f 40 (n : Int) with
  | none => rw [e] at c; cases c
  | some w => rw [e] at c; exact ⟨w, rfl, by simpa using c⟩
def lin : List Int → List Int → Int
  | x :: xs, y :: ys => x * y + lin xs ys
  | _, _ => 0
theorem sc_eq (a : Int) : sc a = a % 1009 := by
  unfold sc
  have h := Int.emod_add_mul_ediv a 1009
  have h2 := Int.tmod_add_mul_tdiv a 1009
  have h3 := Int.emod_nonneg a (show (1009 : Int) ≠ 0 by decide)
  have h4 := Int.emod_lt_of_pos a (show (0 : Int) < 1009 by decide)
  by_cases c : 0 ≤ a
  · rw [Int.tmod_eq_emod_of_nonneg c, if_neg (by omega)]
  · have h5 : Int.tmod a 1009 = -((-a) % 1009) := by
      rw [show a = -(-a) by omega, Int.neg_tmod, Int.tmod_eq_emod_of_nonneg (by omega)]
      simp
    rw [h5]
    by_cases d : -((-a) % 1009) < 0
    · rw [if_pos d, wrapd (by omega) (by omega)]; omega
    · rw [if_neg d]; omega
theorem smul_eq (a b : Int) : smul a b = (a % 1009 * (b % 1009)) % 1009 := by
  unfold smul
  rw [sc_eq, sc_eq, sc_eq]
  have h1 := Int.emod_nonneg a (show (1009 : Int) ≠ 0 by decide)
  have h2 := Int.emod_lt_of_pos a (show (0 : Int) < 1009 by decide)
  have h3 := Int.emod_nonneg b (show (1009 : Int) ≠ 0 by decide)
  have h4 := Int.emod_lt_of_pos b (show (0 : Int) < 1009 by decide)
  have h5 : 0 ≤ a % 1009 * (b % 1009) := Int.mul_nonneg h1 h3
  have h6 : a % 1009 * (b % 1009) ≤ 1008 * 1008 := Int.mul_le_mul (by omega) (by omega) h3 (by decide)
  rw [wrapd (by omega) (by omega)]
theorem sadd_eq (a b : Int) : sadd a b = (a + b) % 1009 := by
  unfold sadd
  rw [sc_eq, sc_eq, sc_eq, wrapd (by omega) (by omega)]
  omega
theorem dot_mod : ∀ (xs ys : List Int) (a : Int), dot xs ys a % 1009 = (a + lin xs ys) % 1009
  | [], ys, a => by simp [dot, lin]
  | x :: xs, [], a => by simp [dot, lin]
  | x :: xs, y :: ys, a => by
    rw [dot, dot_mod xs ys, sadd_eq, smul_eq, ← Int.mul_emod, lin]
    omega
theorem rowSat_lin {w : List Int} {r : RT} (hA : lin r.f0 w = 1) (h : rowSat w r = true) : (lin r.f1 w - lin r.f2 w) % 1009 = 0 := by
  unfold rowSat at h
  have e := of_decide_eq_true h
  have p := dot_mod r.f0 w 0
  have q := dot_mod r.f1 w 0
  have s := dot_mod r.f2 w 0
  rw [hA] at p
  rw [smul_eq, show dot r.f0 w 0 % 1009 = 1 by omega, Int.one_mul] at e
  omega
theorem sat_rows {a b : Int} {xs : List RT} {w : List Int} (h : sat a b xs w = true) : ∀ r ∈ xs, rowSat w r = true := by
  unfold sat at h
  simp only [Bool.and_eq_true] at h
  exact List.all_eq_true.1 h.2
theorem bent_not {w : List Int} (hl : w.length = 11) (h0 : w.getD 0 0 = 1) (hs : sat 11 2 countRows w = true) (i : Nat) (h1 : 1 ≤ i) (h2 : i ≤ 10) (d : Int) (d1 : 1 ≤ d) (d2 : d ≤ 1008) :
    sat 11 2 countRows (w.set i (sadd (w.getD i 0) d)) = false := by
  rw [Bool.eq_false_iff]
  intro hb
  obtain ⟨x0, x1, x2, x3, x4, x5, x6, x7, x8, x9, x10, rfl⟩ : ∃ x0 x1 x2 x3 x4 x5 x6 x7 x8 x9 x10, w = [x0, x1, x2, x3, x4, x5, x6, x7, x8, x9, x10] := by
    match w, hl with
    | [x0, x1, x2, x3, x4, x5, x6, x7, x8, x9, x10], _ => exact ⟨x0, x1, x2, x3, x4, x5, x6, x7, x8, x9, x10, rfl⟩
  obtain rfl : x0 = 1 := h0
  have g8 := rowSat_lin (by simp [r8, lin]) (sat_rows hs r8 mem_8)
  have g9 := rowSat_lin (by simp [r9, lin]) (sat_rows hs r9 mem_9)
  have b8 := sat_rows hb r8 mem_8
  have b9 := sat_rows hb r9 mem_9
  rw [sadd_eq] at b8 b9
  clear hs hb hl
  simp only [r8, r9, lin] at g8 g9
  have c : i = 1 ∨ i = 2 ∨ i = 3 ∨ i = 4 ∨ i = 5 ∨ i = 6 ∨ i = 7 ∨ i = 8 ∨ i = 9 ∨ i = 10 := by omega
  rcases c with rfl | rfl | rfl | rfl | rfl | rfl | rfl | rfl | rfl | rfl
  all_goals
    simp only [List.set_cons_zero, List.set_cons_succ, List.getD_cons_zero, List.getD_cons_succ] at b8 b9
    have f8 := rowSat_lin (by simp [r8, lin]) b8
    have f9 := rowSat_lin (by simp [r9, lin]) b9
    clear b8 b9 h1 h2
    simp only [r8, r9, lin] at f8 f9
    omega
theorem row_f (n : Nat) (h : n ≤ 20) : spec_l13Row.f (n : Int) = some (List.replicate n 0, List.replicate n 0, List.replicate n 0) := by
  unfold spec_l13Row.f
  rw [if_pos (by omega), Int.toNat_natCast, if_pos (by omega)]
def mkRow (w A B : List Int) : RT := ⟨A, B, (List.replicate w.length 0).set 0 (smul (dot A w 0) (dot B w 0))⟩
theorem mkRow_fine {n : Nat} {w A B : List Int} (hw : w.length = n) (hA : A.length = n) (hB : B.length = n) : rowFine n (mkRow w A B) :=
  ⟨hA, hB, by show ((List.replicate w.length 0).set 0 _).length = n; rw [List.length_set, List.length_replicate, hw]⟩
abbrev Out := Int × Int × List RT × List Int × Int × Int
theorem sys_l2 (b : List Int) (n : Nat) (hn : n ≤ 20) (hn1 : 1 ≤ n) (w : List Int) (hw : w.length = n) (p : Int) (j : Nat) (hj : j ≤ 16) (rows : List RT) (hr : rows.length = j) (Q : Out → Prop)
    (next : ∀ A B i h, A.length = n → B.length = n → Okc b i → ∃ out, Q out ∧ Ev (fun k => spec_l13System.l1 k (n : Int) w ((j + 1 : Nat) : Int) b i h (n : Int) p (rows ++ [mkRow w A B])) out) :
    ∀ (d x : Nat) (A B : List Int) (i h : Int), x + d = n → A.length = n → B.length = n → Okc b i →
      ∃ out, Q out ∧ Ev (fun k => spec_l13System.l2 k (n : Int) w (j : Int) (x : Int) b i h (n : Int) p rows A B (List.replicate n 0)) out
  | 0, x, A, B, i, h, hx, hA, hB, ho => by
    obtain ⟨out, q, K, e⟩ := next A B i h hA hB ho
    refine ⟨out, q, K + 3000000, fun k hk => ?_⟩
    obtain ⟨k, rfl⟩ : ∃ m, k = m + 1 := ⟨k - 1, by omega⟩
    have g := e k (by omega)
    dsimp only at g ⊢
    rw [← g]
    simp only [spec_l13System.l2]
    rw [if_neg (by omega), specDot_f A w (by omega) k (by omega), Option.bind_some, specDot_f B w (by omega) k (by omega), Option.bind_some, specMul, Option.bind_some, if_pos (by rw [List.length_replicate]; omega), if_pos (by omega), wrap_in (by omega) (by omega)]
    unfold mkRow
    rw [hw]
    rfl
  | d + 1, x, A, B, i, h, hx, hA, hB, ho => by
    obtain ⟨u, i1, h1, e1, u0, u1, o1⟩ := below_some b i h 3 ho (by decide) (by decide)
    obtain ⟨v, i2, h2, e2, v0, v1, o2⟩ := below_some b i1 h1 3 o1 (by decide) (by decide)
    obtain ⟨out, q, e⟩ := sys_l2 b n hn hn1 w hw p j hj rows hr Q next d (x + 1) (A.set x u) (B.set x v) i2 h2 (by omega) (by rw [List.length_set]; exact hA) (by rw [List.length_set]; exact hB) o2
    refine ⟨out, q, Ev.step (fun k => ?_) e⟩
    simp only [spec_l13System.l2]
    rw [if_pos (by omega), e1, Option.bind_some, if_pos (by omega), if_pos (by omega), e2, Option.bind_some, if_pos (by omega), wrap_in (by omega) (by omega), Int.toNat_natCast]
    rfl
def Good (n : Nat) (p : Int) (w : List Int) (b : List Int) (out : Out) : Prop := ∃ rows' i' h', out = ((n : Int), p, rows', w, i', h') ∧ 1 ≤ rows'.length ∧ rows'.length ≤ 16 ∧ (∀ r ∈ rows', rowFine n r) ∧ Okc b i'
theorem sys_l1 (b : List Int) (n : Nat) (hn : n ≤ 20) (hn1 : 1 ≤ n) (w : List Int) (hw : w.length = n) (p : Int) : ∀ (d j : Nat) (rows : List RT) (i h : Int), j + d = 4 → rows.length = j → (∀ r ∈ rows, rowFine n r) → Okc b i →
    ∃ out, Good n p w b out ∧ Ev (fun k => spec_l13System.l1 k (n : Int) w (j : Int) b i h (n : Int) p rows) out := by
  intro d
  induction d with
  | zero =>
    intro j rows i h hj hr hg ho
    obtain ⟨t, i1, h1, e1, t0, t1, o1⟩ := below_some b i h 4 ho (by decide) (by decide)
    refine ⟨_, ⟨rows, i1, h1, rfl, by omega, by omega, hg, o1⟩, Ev.one fun k => ?_⟩
    simp only [spec_l13System.l1]
    rw [e1, Option.bind_some, wrap_in (by omega) (by omega), if_neg (by omega)]
  | succ d ih =>
    intro j rows i h hj hr hg ho
    obtain ⟨t, i1, h1, e1, t0, t1, o1⟩ := below_some b i h 4 ho (by decide) (by decide)
    by_cases c : (j : Int) < 1 + t
    · obtain ⟨out, q, e⟩ := sys_l2 b n hn hn1 w hw p j (by omega) rows hr (Good n p w b) (fun A B i2 h2 hA hB o2 =>
        ih (j + 1) (rows ++ [mkRow w A B]) i2 h2 (by omega) (by simp [hr]) (fun r hr' => by
          rcases List.mem_append.1 hr' with hr' | hr'
          · exact hg r hr'
          · rw [List.mem_singleton.1 hr']; exact mkRow_fine hw hA hB) o2) n 0 (List.replicate n 0) (List.replicate n 0) i1 h1 (by omega) (by simp) (by simp) o1
      refine ⟨out, q, Ev.step (fun k => ?_) e⟩
      simp only [spec_l13System.l1]
      rw [e1, Option.bind_some, wrap_in (by omega) (by omega), if_pos c, row_f n hn]
      rfl
    · refine ⟨_, ⟨rows, i1, h1, rfl, by omega, by omega, hg, o1⟩, Ev.one fun k => ?_⟩
      simp only [spec_l13System.l1]
      rw [e1, Option.bind_some, wrap_in (by omega) (by omega), if_neg c]
theorem sys_l0 (b : List Int) (n : Nat) (hn : n ≤ 20) (hn1 : 1 ≤ n) : ∀ (d : Nat) (ws : List Int) (i h : Int), ws.length + d = n → Okc b i →
    ∃ p rows w i' h', Drawn n rows w ∧ Okc b i' ∧ Ev (fun k => spec_l13System.l0 k (n : Int) ws b i h) ((n : Int), p, rows, w, i', h')
  | 0, ws, i, h, hl, ho => by
    obtain ⟨p, i1, h1, e1, p0, p1, o1⟩ := below_some b i h (n : Int) ho (by omega) (by omega)
    obtain ⟨out, ⟨rows, i2, h2, rfl, m1, m2, hg, o2⟩, e⟩ := sys_l1 b n hn hn1 ws (by omega) p 4 0 [] i1 h1 (by omega) rfl (fun r hr => by cases hr) o1
    refine ⟨p, rows, ws, i2, h2, ⟨hn1, hn, m1, m2, by omega, hg⟩, o2, Ev.step (fun k => ?_) e⟩
    simp only [spec_l13System.l0]
    rw [if_neg (by omega), e1, Option.bind_some]
    rfl
  | d + 1, ws, i, h, hl, ho => by
    obtain ⟨x, i1, h1, e1, o1⟩ := num_some b i h ho
    obtain ⟨p, rows, w, i2, h2, g, o2, e⟩ := sys_l0 b n hn hn1 d (ws ++ [sc x]) i1 h1 (by simp only [List.length_append, List.length_cons, List.length_nil]; omega) o1
    refine ⟨p, rows, w, i2, h2, g, o2, Ev.step (fun k => ?_) e⟩
    simp only [spec_l13System.l0]
    rw [if_pos (by omega), e1, Option.bind_some, specSc, Option.bind_some, if_pos (by omega)]
theorem system_some (b : List Int) (i h : Int) (ho : Okc b i) : ∃ (n : Nat) (p : Int) (rows : List RT) (w : List Int) (i' h' : Int), Drawn n rows w ∧ Okc b i' ∧ Ev (fun k => spec_l13System.f k b i h) ((n : Int), p, rows, w, i', h') := by
  obtain ⟨o, i1, h1, e1, o1⟩ := once_some b i h 3 ho (by decide) (by decide)
  by_cases c : o = true
  · obtain ⟨t, i2, h2, e2, t0, t1, o2⟩ := below_some b i1 h1 256 o1 (by decide) (by decide)
    obtain ⟨w, hw, hl⟩ := witness_spec t.toNat (by omega)
    obtain ⟨K1, hw⟩ := Ev.of (fun k => spec_CountWitness.mono _ k) hw
    obtain ⟨K2, hc⟩ := Ev.of (fun k => spec_CountSystem.mono k) count_spec
    rw [show ((t.toNat : Nat) : Int) = t by omega] at hw
    refine ⟨11, 2, countRows, w, i2, h2, ⟨by decide, by decide, by rw [count_fine.1]; decide, by rw [count_fine.1]; decide, hl, count_fine.2⟩, o2, K1 + K2, fun k hk => ?_⟩
    have g1 := hw k (by omega)
    have g2 := hc k (by omega)
    dsimp only at g1 g2 ⊢
    simp only [spec_l13System.f, e1, Option.bind_some]
    rw [if_pos c, e2, Option.bind_some, g2, Option.bind_some, g1]
    rfl
  · obtain ⟨t, i2, h2, e2, t0, t1, o2⟩ := below_some b i1 h1 4 o1 (by decide) (by decide)
    obtain ⟨p, rows, w, i3, h3, g, o3, e⟩ := sys_l0 b (2 + t.toNat) (by omega) (by omega) (1 + t.toNat) [1] i2 h2 (by simp; omega) o2
    refine ⟨2 + t.toNat, p, rows, w, i3, h3, g, o3, ?_⟩
    obtain ⟨K, e⟩ := e
    refine ⟨K, fun k hk => ?_⟩
    have g1 := e k hk
    dsimp only at g1 ⊢
    simp only [spec_l13System.f, e1, Option.bind_some]
    rw [if_neg c, e2, Option.bind_some, wrap_in (by omega) (by omega), show (2 : Int) + t = ((2 + t.toNat : Nat) : Int) by omega]
    exact g1
theorem copy_l0 (n : Nat) (hn : n ≤ 20) (rows : List RT) (hm : rows.length ≤ 16) (hr : ∀ r ∈ rows, rowFine n r) (a b : Int) : ∀ (d i : Nat), i + d = rows.length →
    Ev (fun k => spec_l13Copy.l0 k (i : Int) a b rows a b (rows.take i)) (a, b, rows)
  | 0, i, hi => Ev.one fun k => by
    simp only [spec_l13Copy.l0]
    rw [if_neg (by omega), List.take_of_length_le (by omega)]
  | d + 1, i, hi => by
    have hlt : i < rows.length := by omega
    obtain ⟨q0, q1, q2⟩ := hr rows[i] (List.getElem_mem hlt)
    refine Ev.step (fun k => ?_) (copy_l0 n hn rows hm hr a b d (i + 1) (by omega))
    simp only [spec_l13Copy.l0]
    rw [if_pos (by omega), if_pos (by omega), rdT hlt]
    simp only [Option.bind_some, List.nil_append, List.length_nil]
    rw [if_pos (by omega), if_pos (by omega), if_pos (by omega), if_pos (by rw [List.length_take]; omega), wrap_in (by omega) (by omega), List.take_succ_eq_append_getElem hlt]
    rfl
theorem copy_ev (n : Nat) (hn : n ≤ 20) (rows : List RT) (hm : rows.length ≤ 16) (hr : ∀ r ∈ rows, rowFine n r) (a b : Int) : Ev (fun k => spec_l13Copy.f k a b rows) (a, b, rows) := copy_l0 n hn rows hm hr a b rows.length 0 (by omega)
structure Told (a : Int) (rows : List RT) (w : List Int) : Prop where
  a0 : -9223372036854775808 ≤ a
  m : rows.length ≤ 1048576
  wl : w.length ≤ 1048576
  all : ∀ r ∈ rows, fitsT r
theorem fine_fits {n : Nat} (hn : n ≤ 20) {r : RT} (h : rowFine n r) : fitsT r := ⟨by rw [h.1]; omega, by rw [h.2.1]; omega, by rw [h.2.2]; omega⟩
theorem set_fits {rows : List RT} (h : ∀ r ∈ rows, fitsT r) (i : Nat) {x : RT} (hx : fitsT x) : ∀ r ∈ rows.set i x, fitsT r := fun r hr => by
  rcases List.mem_or_eq_of_mem_set hr with hr | rfl
  · exact h r hr
  · exact hx
def pk (t x n p : Int) (r : RT) (rows : List RT) (w : List Int) (i h : Int) : Option Out :=
  if t = 0 then some (Int.tmod x 23, p, rows, w, i, h) else (if t = 1 then some (n, wrap64 ((Int.tmod x 9) - 1), rows, w, i, h) else (if t = 2 then some (n, p, rows.set 0 (⟨(r.f0).set 0 (rd [(-1), 1008, 1009] (Int.tmod x 3)), r.f1, r.f2⟩ : RT), w, i, h) else (if t = 3 then some (n, p, rows, w.set (Int.tmod x (w.length : Int)).toNat (Int.tmod x 5), i, h) else (if t = 4 then some (n, p, rows, w.drop 1, i, h) else (if t = 5 then some (n, p, rows.set 0 (⟨r.f0, r.f1, (r.f2).drop 1⟩ : RT), w, i, h) else some (n, p, rows, w, i, h))))))
theorem any_some (b : List Int) (i h : Int) (ho : Okc b i) : ∃ (a p : Int) (rows : List RT) (w : List Int) (i' h' : Int), Told a rows w ∧ Ev (fun k => spec_l13Any.f k b i h) (a, p, rows, w, i', h') := by
  obtain ⟨t, i1, h1, e1, t0, t1, o1⟩ := below_some b i h 14 ho (by decide) (by decide)
  obtain ⟨x, i2, h2, e2, x0, x1, o2⟩ := below_some b i1 h1 60 o1 (by decide) (by decide)
  obtain ⟨n, p, rows, w, i3, h3, hd, o3, K3, e3⟩ := system_some b i2 h2 o2
  obtain ⟨K4, e4⟩ := copy_ev n hd.n2 rows hd.m2 hd.all (n : Int) p
  have n1 := hd.n1
  have n2 := hd.n2
  have m1 := hd.m1
  have m2 := hd.m2
  have wl := hd.wl
  have hf : ∀ r ∈ rows, fitsT r := fun r hr => fine_fits n2 (hd.all r hr)
  have hlt : 0 < rows.length := by omega
  have h0 : rd_T75 rows 0 = rows[0] := rdT (i := 0) hlt
  obtain ⟨q0, q1, q2⟩ := hd.all rows[0] (List.getElem_mem hlt)
  have f0 := fine_fits n2 ⟨q0, q1, q2⟩
  have z3 := Int.tmod_nonneg 3 x0
  have y3 := Int.tmod_lt_of_pos x (show (0 : Int) < 3 by decide)
  have zn := Int.tmod_nonneg (w.length : Int) x0
  have yn := Int.tmod_lt_of_pos x (show (0 : Int) < (w.length : Int) by omega)
  have z23 := Int.tmod_nonneg 23 x0
  have fin : ∀ (out : Out), pk t x (n : Int) p rows[0] rows w i3 h3 = some out → Ev (fun k => spec_l13Any.f k b i h) out := by
    intro out ho
    refine ⟨K3 + K4, fun k hk => ?_⟩
    have g3 := e3 k (by omega)
    have g4 := e4 k (by omega)
    dsimp only at g3 g4 ⊢
    rw [← ho]
    simp only [spec_l13Any.f, e1, e2, g3, g4, Option.bind_some, List.nil_append, List.length_nil, h0]
    rw [if_pos (show 0 + w.length < 17592186044416 by omega), if_pos (show (0 : Int) < (rows.length : Int) by omega), if_pos z3, if_pos (show Int.tmod x 3 < ((([(-1), 1008, 1009] : List Int).length : Nat) : Int) from y3), if_pos (show (0 : Int) < ((rows[0].f0).length : Int) by omega), if_neg (show ¬ (w.length : Int) = 0 by omega), if_pos zn, if_pos yn, if_pos (show (1 : Int) ≤ (w.length : Int) by omega), if_pos (show (0 : Int) < (rows.length : Int) by omega), if_pos (show (1 : Int) ≤ ((rows[0].f2).length : Int) by omega)]
    rfl
  unfold pk at fin
  by_cases c0 : t = 0
  · refine ⟨_, _, _, _, _, _, ?_, fin _ (if_pos c0)⟩
    exact ⟨by omega, by omega, by omega, hf⟩
  rw [if_neg c0] at fin
  by_cases c1 : t = 1
  · refine ⟨_, _, _, _, _, _, ?_, fin _ (if_pos c1)⟩
    exact ⟨by omega, by omega, by omega, hf⟩
  rw [if_neg c1] at fin
  by_cases c2 : t = 2
  · refine ⟨_, _, _, _, _, _, ?_, fin _ (if_pos c2)⟩
    exact ⟨by omega, by rw [List.length_set]; omega, by omega, set_fits hf 0 ⟨by show (List.set _ _ _).length ≤ _; rw [List.length_set]; exact f0.1, f0.2.1, f0.2.2⟩⟩
  rw [if_neg c2] at fin
  by_cases c3 : t = 3
  · refine ⟨_, _, _, _, _, _, ?_, fin _ (if_pos c3)⟩
    exact ⟨by omega, by omega, by rw [List.length_set]; omega, hf⟩
  rw [if_neg c3] at fin
  by_cases c4 : t = 4
  · refine ⟨_, _, _, _, _, _, ?_, fin _ (if_pos c4)⟩
    exact ⟨by omega, by omega, by rw [List.length_drop]; omega, hf⟩
  rw [if_neg c4] at fin
  by_cases c5 : t = 5
  · refine ⟨_, _, _, _, _, _, ?_, fin _ (if_pos c5)⟩
    exact ⟨by omega, by rw [List.length_set]; omega, by omega, set_fits hf 0 ⟨f0.1, f0.2.1, by show (List.drop _ _).length ≤ _; rw [List.length_drop, q2]; omega⟩⟩
  rw [if_neg c5] at fin
  exact ⟨_, _, _, _, _, _, ⟨by omega, by omega, by omega, hf⟩, fin _ rfl⟩
theorem satisfied_ev (b : List Int) (hb : b.length ≤ 9223372036854775807) : ∃ (a p : Int) (rows : List RT) (w : List Int), Told a rows w ∧ Ev (fun k => spec_DrawSatisfied.f k b) (a, p, rows, w) := by
  obtain ⟨h, K1, e1⟩ := new_ev b hb
  obtain ⟨a, p, rows, w, i', h', ht, K2, e2⟩ := any_some b 0 h (ok0 b hb)
  refine ⟨a, p, rows, w, ht, K1 + K2, fun k hk => ?_⟩
  have g1 := e1 k (by omega)
  have g2 := e2 k (by omega)
  dsimp only at g1 g2 ⊢
  simp only [spec_DrawSatisfied.f, g1, g2, Option.bind_some]
end Go.Proofs.Ythdpfjkdpeamnaa.RowsD
end
section
set_option linter.unusedVariables false
set_option linter.unusedSimpArgs false
namespace Go.Proofs.Ythdpfjkdpeamnaa.Pure
open Go.RowKit Go.Proofs.Ythdpfjkdpeamnaa.Pf Go.Proofs.YthdpfjkdpeamnaaW.PrintWords Go.Proofs.Ythdpfjkdpeamnaa.Ints
open Go.Proofs.Ythdpfjkdpeamnaa.Sys Go.Proofs.Ythdpfjkdpeamnaa.RowsD
open Go.Proofs.Ythdpfjkdpeamnaa.Draw (new_ev ok0 places_ev)
set_option maxRecDepth 4000
theorem FnRows : laws_FnRows.Pure := by
  intro b hb _ _
  unfold maxLen at hb
  by_cases hbig : (b.length : Int) > 1048576
  · exact ⟨0, by simp only [laws_FnRows.f, laws_big.f, Option.bind_some]; rw [if_pos (decide_eq_true hbig)]⟩
  obtain ⟨ps, hp, hr, K1, e1⟩ := places_ev b (by omega)
  obtain ⟨a, q, rows, w, ht, K2, e2⟩ := satisfied_ev b (by omega)
  have rp : ∀ j : Nat, j < 12 → 0 ≤ rd ps (j : Int) := fun j hj => by
    rw [rdI (by omega)]
    exact (hr _ (List.getElem_mem (by omega))).1
  have r0 : 0 ≤ rd ps 0 := rp 0 (by decide)
  have r1 : 0 ≤ rd ps 1 := rp 1 (by decide)
  have r2 : 0 ≤ rd ps 2 := rp 2 (by decide)
  obtain ⟨n, hn, hn2⟩ : ∃ n : Nat, Int.tmod (rd ps 0) 256 = (n : Int) ∧ n < 256 := by
    have x := Int.tmod_nonneg 256 r0
    have y := Int.tmod_lt_of_pos (rd ps 0) (show (0 : Int) < 256 by decide)
    exact ⟨(Int.tmod (rd ps 0) 256).toNat, by omega, by omega⟩
  obtain ⟨v, p, hv, hq, hl, h0, hs, hm⟩ := witness_impl n hn2
  obtain ⟨K3, e3⟩ := Ev.of (fun k => impl_CountWitness.mono _ k) hv
  obtain ⟨K4, e4⟩ := Ev.of (fun k => impl_CountSystem.mono k) count_impl
  obtain ⟨K5, e5⟩ := Ev.of (fun k => laws_sameInts.mono _ _ k) hm
  obtain ⟨i, hi, hi1, hi2⟩ : ∃ i : Nat, wrap64 (1 + Int.tmod (rd ps 1) (wrap64 ((v.length : Int) - 1))) = (i : Int) ∧ 1 ≤ i ∧ i ≤ 10 := by
    rw [wrap_in (i := (v.length : Int) - 1) (by omega) (by omega), show (v.length : Int) - 1 = 10 by omega]
    have x := Int.tmod_nonneg 10 r1
    have y := Int.tmod_lt_of_pos (rd ps 1) (show (0 : Int) < 10 by decide)
    rw [wrap_in (by omega) (by omega)]
    exact ⟨(1 + Int.tmod (rd ps 1) 10).toNat, by omega, by omega, by omega⟩
  obtain ⟨d, hd, d1, d2⟩ : ∃ d, wrap64 (1 + Int.tmod (rd ps 2) 1008) = d ∧ 1 ≤ d ∧ d ≤ 1008 := by
    have x := Int.tmod_nonneg 1008 r2
    have y := Int.tmod_lt_of_pos (rd ps 2) (show (0 : Int) < 1008 by decide)
    rw [wrap_in (by omega) (by omega)]
    exact ⟨_, rfl, by omega, by omega⟩
  have hb' := bent_not hl h0 hs i hi1 hi2 d d1 d2
  have hc : ∀ r ∈ countRows, fitsT r := fun r hr => fine_fits (n := 11) (by decide) (count_fine.2 r hr)
  have hcl : countRows.length ≤ 1048576 := by rw [count_fine.1]; decide
  obtain ⟨k, hk⟩ : ∃ k, k = K1 + K2 + K3 + K4 + K5 + 5000000 := ⟨_, rfl⟩
  refine ⟨k + 1, ?_⟩
  have g1 := e1 (k + 1) (by omega)
  have g2 := e2 k (by omega)
  have g3 := e3 (k + 1) (by omega)
  have g4 := e4 (k + 1) (by omega)
  have g5 := e5 (k + 1) (by omega)
  have s1 := implOk_f 11 2 countRows (by decide) hc hcl (k + 1) (by omega)
  have s2 := implSat_f 11 2 countRows v (by decide) hc hcl (by omega) (k + 1) (by omega)
  have s3 := implSat_f 11 2 countRows (v.set i (sadd (v.getD i 0) d)) (by decide) hc hcl (by rw [List.length_set]; omega) k (by omega)
  have s4 := implSat_f a q rows w ht.a0 ht.all ht.m ht.wl k (by omega)
  have s5 := specSat_f a q rows w ht.a0 ht.all ht.m ht.wl k (by omega)
  have s6 := implOk_f a q rows ht.a0 ht.all ht.m k (by omega)
  have s7 := specOk_f a q rows ht.a0 ht.all ht.m k (by omega)
  dsimp only at g1 g2 g3 g4 g5
  rw [count_ok] at s1
  rw [hs] at s2
  rw [hb'] at s3
  have hrd : rd v (i : Int) = v.getD i 0 := rfl
  unfold laws_FnRows.f
  simp only [laws_big.f, Option.bind_some]
  rw [decide_eq_false hbig, if_neg (by decide), g1, Option.bind_some, if_pos (show (0 : Int) < (ps.length : Int) by omega), g4, Option.bind_some, hn, g3, Option.bind_some, s1, Option.bind_some, if_pos rfl, s2, Option.bind_some, if_pos rfl, if_pos (show (v.length : Int) = 11 by omega), hq, Option.bind_some, if_pos (by decide), if_pos (show (3 : Int) ≤ (v.length : Int) by omega), g5, Option.bind_some]
  simp only [laws_FnRows.j0, Option.bind_some, List.nil_append, List.length_nil, hi, hd]
  rw [if_neg (by decide), if_pos (show 0 + v.length < 17592186044416 by omega), if_pos (show (1 : Int) < (ps.length : Int) by omega), if_neg (by rw [wrap_in (by omega) (by omega)]; omega), if_pos (show (0 : Int) ≤ (i : Int) by omega), if_pos (show (i : Int) < (v.length : Int) by omega), if_pos (show (2 : Int) < (ps.length : Int) by omega), specAdd, Option.bind_some, g2, Option.bind_some, Int.toNat_natCast, hrd, s3, Option.bind_some, if_neg (by decide)]
  simp only [s4, s5, s6, s7, Option.bind_some, beq_self_eq_true, if_true]
end Go.Proofs.Ythdpfjkdpeamnaa.Pure
end
section
namespace Go.Proofs.Ythdpfjkdpeamnaa.fnRows
open Go.ChangeShapes Go.WideShapes Go.ChangeAt Go.RowKit
open Go.ChangeMaps (open_string shut_string)
set_option linter.unusedVariables false
theorem own : ownKnob Try.prog.godebug = none := by kernel_rfl
theorem laidOut : laidOutB Try.prog = true := by kernel_rfl
def IsRow (k : IntKind) (w : World) (a : Option Addr) (len cap : Nat) (zs : List Int) : Prop :=
  (a = none ∧ len = 0 ∧ cap = 0 ∧ zs = []) ∨
  ∃ x, a = some x ∧ len ≤ cap ∧ cap ≤ maxLen ∧ zs.length = cap ∧ (∀ i, i < zs.length → w.cell? (x.add i) = some (.int k (zs.getD i 0))) ∧ ∀ n ∈ zs, (Lit.int k n).wf = true
set_option maxRecDepth 100000 in
theorem lifted (os : Os) (started : os.Started) (H : Type) (enc : TypeId × Value → H) :
    ReturnsInHanded {} Try.checked os 14 .any (Rows.fnRowsSpec.pre6 enc Try.prog Try.f14 Rows.fnRowsRow.domain false) (Rows.fnRowsSpec.post enc Try.prog Try.f14 false true false false) := by
  refine returnsInHanded_of_change_sized (C := Try.checked) own started (by kernel_rfl) Try.func14
    (ChangeSpec.witness6 (enc := enc) (C := Try.checked) false ⟨#[], #[.slice none 0 0], []⟩ 8 (by kernel_rfl) (by kernel_rfl) (by kernel_rfl) (by kernel_rfl)) ?_
  intro W base args ds gs before hval0 hW hcnd hsz0 _
  have hsz : (DataW.weightsEach Try.prog (Try.f14.params.toList ++ Rows.fnRowsSpec.plain.varTypes Try.prog) (ds ++ gs)).all (· ≤ reachBytes) = true := hsz0
  have hval : ∀ (j : Nat) t v, Try.f14.params[j]? = some t → args[j]? = some v → Value.okWide Try.prog W .any base t v := hval0
  have hW' := hW
  obtain ⟨p, q, hA0, hV, rfl, hfz, hnd⟩ := hW
  have hA : DataW.TrodAll enc Try.prog W 0 (fun _ => true) true Try.f14.params.toList args.toList ds p := hA0
  rw [Try.params14] at hA hval hsz
  obtain ⟨v0, vs0, d0, ds0, p0, q0, hargs, rfl, rfl, h0, r0⟩ := trodAll_cons hA
  obtain ⟨rfl, rfl, rfl⟩ := trodAll_nil r0
  obtain rfl : args = #[v0] := by cases args; simp_all
  obtain ⟨rfl, rfl⟩ := trodVars_none hV
  obtain ⟨a0, len0, cap0, rfl⟩ := okWide_slice Try.underlying58 (hval 0 58 v0 rfl rfl)
  have k0 := h0
  have lt0 : ∀ x ∈ p0, x.block < W.heap.size := by obtain ⟨m, hm⟩ := k0; exact DataW.trod_lt m _ _ _ hm
  obtain ⟨z0, w0⟩ : ∃ zs, IsRow .u8 W a0 len0 cap0 zs := by
    obtain ⟨fuel, hf⟩ := h0
    rcases open_ints Try.underlying58 Try.underlying5 (by kernel_rfl) hf with ⟨hcs, _⟩ | ⟨x, l, c, zs, hcs, _, hl, hm, hz, _, hcell, hwz⟩
    · simp [Value.cells] at hcs
      obtain ⟨rfl, rfl, rfl⟩ := hcs
      exact ⟨[], .inl ⟨rfl, rfl, rfl, rfl⟩⟩
    · simp [Value.cells] at hcs
      obtain ⟨rfl, rfl, rfl⟩ := hcs
      exact ⟨zs, .inr ⟨_, rfl, hl, hm, by simpa using hz, hcell, hwz⟩⟩
  have y0 : len0 * 1 ≤ 140737488351232 := Go.Proofs.YthdpfjkdpeamnaaW.PrintWords.sized_ints hsz (j := 0) (t := 58) rfl rfl Try.underlying58 Try.underlying5 (by kernel_rfl) (by kernel_rfl) h0
  clear hA0 hval0 hsz0 hsz
  refine (Pf.laws_FnRows.walk Pure.FnRows a0 len0 cap0 z0 W w0 y0).mono fun e W' ⟨he, bel⟩ => ?_
  subst he
  exact ⟨_, rfl, _, _, _, [], _, [], hW', trodAll_mk1 (shut_bool Try.underlying4 _), (trodAll_cons_mk (Below.trod laidOut (by kernel_rfl) (of_decide_eq_true (by kernel_rfl)) k0 bel lt0) trodAll_mk0), rfl, bel.frame _, fun h => by cases h⟩
theorem over : Rows.fnRowsRow.holds Try.pinned (OpenSpec.ofChange Rows.fnRowsSpec) :=
  OpenClaim.holds_of_wide 14 Try.f14 rfl rfl rfl rfl rfl rfl rfl ⟨rfl, rfl, rfl, rfl, rfl⟩ rfl rfl rfl rfl rfl (by kernel_rfl) Try.func14 (by kernel_rfl)
    (of_decide_eq_true (by kernel_rfl)) (by unfold Func.isWrapper; first | (rw [if_pos (by decide +kernel)]; kernel_rfl) | (rw [if_neg (by decide +kernel)]; exact ⟨rfl, rfl⟩))
    (fun os started H enc _ => lifted os started H enc)
theorem proved : Rows.FnRowsSaid := over
#print axioms proved
end Go.Proofs.Ythdpfjkdpeamnaa.fnRows
namespace Go.Proofs.Ythdpfjkdpeamnaa
theorem fnRows_holds : Rows.FnRowsSaid := fnRows.proved
end Go.Proofs.Ythdpfjkdpeamnaa
end
