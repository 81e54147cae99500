/- What is proved here: part 4 of 5 of the proof of the given statement FnExactAllSigOk: the contracts of the Go functions that it reaches, the plain facts on lists and numbers, and (in the last part) the statement itself. No conditions beyond the given ones. -/
import Derived.Test.YtkdmplfldfagnaaDoorMFnExactAllSigOkwSlim
import Derived.Test.YtkdmplfldfagnaaDoorMFnExactAllSigOka
import Derived.Test.YtkdmplfldfagnaaDoorMFnExactAllSigOkc

section
namespace Go.Proofs.YtkdmplfldfagnaaDoor.Pf
open Go.RowKit Go.Proofs.YtkdmplfldfagnaaDoorW.PrintWords Go.Proofs.YtkdmplfldfagnaaDoorW.PrintLast Go.Proofs.YtkdmplfldfagnaaDoorW.PrintMore
attribute [local go_sem] max2_int min2_int max_two min_two max_three min_three max_four min_four   -- for this text's walks alone
set_option linter.unusedVariables false
set_option linter.unusedSimpArgs false
/-! ### spec_HashPoint: function 10 -/
def spec_HashPoint.l0 : Nat → ByteArray → Int → Option (Int × Int × Bool)
 | 0, _, _ => none
 | k + 1, x0, x3 => if x3 < 64 then ((some (([(x3) % 256] : List Int) : List Int)).bind fun y191 => (if (strOfNums y191).size + x0.size ≤ 9223372036854775807 then ((spec_Digest.f ((strOfNums y191) ++ x0)).bind fun t194 => (if 0 < (t194.size : Int) then (if 1 < (t194.size : Int) then (if 2 < (t194.size : Int) then (if 3 < (t194.size : Int) then ((spec_FpOf.f (Go.bits .or .i64 (Go.bits .or .i64 (Go.bits .or .i64 (wrap64 ((wrap64 (bt t194 0)) * 16777216)) (wrap64 ((wrap64 (bt t194 1)) * 65536))) (wrap64 ((wrap64 (bt t194 2)) * 256))) (wrap64 (bt t194 3)))).bind fun t195 => ((spec_l07Right.f t195).bind fun t196 => ((spec_FpRoot.f k t196).bind fun bt197 => ((spec_PointTimes.f k 12 t195 bt197.1 false).bind fun bt199 => (if bt197.2 = true then (if bt199.2.2 = true then (spec_HashPoint.l0 k x0 (wrap64 (x3 + 1))) else (some (bt199.1, bt199.2.1, bt199.2.2))) else (spec_HashPoint.l0 k x0 (wrap64 (x3 + 1)))))))) else (none)) else (none)) else (none)) else (none))) else (none))) else ((spec_Base.f).bind fun bt188 => (some (bt188.1, bt188.2.1, bt188.2.2)))
def spec_HashPoint.f (k : Nat) (a0 : ByteArray) : Option (Int × Int × Bool) := spec_HashPoint.l0 k a0 0
theorem spec_HashPoint.mono_l : ∀ k, (∀ y0 y1, LeO (spec_HashPoint.l0 k y0 y1) (spec_HashPoint.l0 (k + 1) y0 y1))
 | 0 => fun _ _ r h => by simp [spec_HashPoint.l0] at h
 | k + 1 => by
  have ih0 := spec_HashPoint.mono_l k
  ·intro y0 y1
   unfold spec_HashPoint.l0
   repeat' first
   | (with_reducible exact ih0 _ _)
   | (with_reducible exact spec_FpRoot.mono _ _)
   | (with_reducible exact spec_PointTimes.mono _ _ _ _ _)
   | (with_reducible exact LeO.refl _)
   | (with_reducible exact LeO.none _)
   | (with_reducible refine LeO.ite ?_ ?_)
   | (with_reducible refine LeO.bind ?_ (fun _ => ?_))
   | exact ih0 _ _
   | exact spec_FpRoot.mono _ _
   | exact spec_PointTimes.mono _ _ _ _ _
   | exact LeO.none _
   | refine LeO.ite ?_ ?_
   | refine LeO.bind ?_ (fun _ => ?_)
theorem spec_HashPoint.mono : ∀ a0 k, LeO (spec_HashPoint.f k a0) (spec_HashPoint.f (k + 1) a0) := by
 intro a0 k
 have ih0 := spec_HashPoint.mono_l k
 unfold spec_HashPoint.f
 repeat' first
   | (with_reducible exact ih0 _ _)
   | (with_reducible exact spec_FpRoot.mono _ _)
   | (with_reducible exact spec_PointTimes.mono _ _ _ _ _)
   | (with_reducible exact LeO.refl _)
   | (with_reducible exact LeO.none _)
   | (with_reducible refine LeO.ite ?_ ?_)
   | (with_reducible refine LeO.bind ?_ (fun _ => ?_))
   | exact ih0 _ _
   | exact spec_FpRoot.mono _ _
   | exact spec_PointTimes.mono _ _ _ _ _
   | exact LeO.none _
   | refine LeO.ite ?_ ?_
   | refine LeO.bind ?_ (fun _ => ?_)
set_option maxHeartbeats 8000000 in
set_option maxRecDepth 100000 in
theorem spec_HashPoint.calls (k : Nat) (a0 : ByteArray) (r1 : Int) (r2 : Int) (r3 : Bool) (w : World) (h : spec_HashPoint.f k a0 = some (r1, r2, r3)) :
  Calls Tryd.prog 10 #[.string a0] w fun e w' => e = .returned (.agg #[.int .i64 r1, .int .i64 r2, .bool r3]) ∧ Below w.heap.size w w' := by
 have hu23 := Tryd.underlying23
 have HB := Aside0.mk (Below.refl w.heap.size w)
 have H : (spec_HashPoint.l0 k a0 0) = some (r1, r2, r3) := h
 clear h
 have H' := Aside0.mk H
 clear H
 go_enter Tryd.func10, Tryd.ntmps10
 go_wp2_with (first | ((with_reducible refine gate_dst (N := 2) rfl ?_); refine bE 2 #[.int .i64 0, .int .i64 0, .bool false] 23 ?_; intro gb187 hg w2 hbox hb; have BK187 := Aside0.mk (hbox); have GW187 := bG HB hg; have GE187 := bG HB hg; replace HB := bS HB hb; clear hb hbox hg))
 repeat (go_quiet (first | ((with_reducible refine gate_dst (N := 2) rfl ?_); refine bE 2 #[.int .i64 0, .int .i64 0, .bool false] 23 ?_; intro gb187 hg w2 hbox hb; have BK187 := Aside0.mk (hbox); have GW187 := bG HB hg; have GE187 := bG HB hg; replace HB := bS HB hb; clear hb hbox hg)); try go_wp2_with (first | ((with_reducible refine gate_dst (N := 2) rfl ?_); refine bE 2 #[.int .i64 0, .int .i64 0, .bool false] 23 ?_; intro gb187 hg w2 hbox hb; have BK187 := Aside0.mk (hbox); have GW187 := bG HB hg; have GE187 := bG HB hg; replace HB := bS HB hb; clear hb hbox hg)))
 go_loopg [3] k (fun kq v3 w' => ∃ (x3_1 : Int) (x188000_1 : Int) (x188001_1 : Int) (x188002_1 : Bool), v3 = .int .i64 x3_1 ∧ Aside0 (spec_HashPoint.l0 kq a0 x3_1 = some (r1, r2, r3)) ∧ Aside0 (kq ≤ k) ∧ Aside0 (w'.heap[gb187]? = some (.cells #[.int .i64 x188000_1, .int .i64 x188001_1, .bool x188002_1] 23 (0, 0))) ∧ Aside0 (Below w.heap.size w w'))
 case atStart => exact ⟨(0), (0), (0), (false), rS, H', ⟨Nat.le_refl _⟩, ⟨bP BK187⟩, ⟨bZ HB⟩⟩
 case round =>
  clear H'
  try clear c1
  try clear p2
  obtain ⟨x3_1, x188000_1, x188001_1, x188002_1, rfl, HA, HK1, BK187, HB⟩ := hrel
  cases gk with
  | zero => exact absurd HA.out (by simp [spec_HashPoint.l0])
  | succ k1 =>
   have H := HA.out
   clear HA
   simp only [spec_HashPoint.l0] at H
   by_cases c3 : x3_1 < 64
   ·rw [if_pos c3] at H
    have c3b0 : decide (x3_1 < 64) = true := decide_eq_true c3
    clear c3
    obtain ⟨y191, hy191⟩ : ∃ y_ : List Int, y_ = (([(x3_1) % 256] : List Int)) := ⟨_, rfl⟩
    replace H : (if (strOfNums y191).size + a0.size ≤ 9223372036854775807 then ((spec_Digest.f ((strOfNums y191) ++ a0)).bind fun t194 => (if 0 < (t194.size : Int) then (if 1 < (t194.size : Int) then (if 2 < (t194.size : Int) then (if 3 < (t194.size : Int) then ((spec_FpOf.f (Go.bits .or .i64 (Go.bits .or .i64 (Go.bits .or .i64 (wrap64 ((wrap64 (bt t194 0)) * 16777216)) (wrap64 ((wrap64 (bt t194 1)) * 65536))) (wrap64 ((wrap64 (bt t194 2)) * 256))) (wrap64 (bt t194 3)))).bind fun t195 => ((spec_l07Right.f t195).bind fun t196 => ((spec_FpRoot.f k1 t196).bind fun bt197 => ((spec_PointTimes.f k1 12 t195 bt197.1 false).bind fun bt199 => (if bt197.2 = true then (if bt199.2.2 = true then (spec_HashPoint.l0 k1 a0 (wrap64 (x3_1 + 1))) else (some (bt199.1, bt199.2.1, bt199.2.2))) else (spec_HashPoint.l0 k1 a0 (wrap64 (x3_1 + 1)))))))) else (none)) else (none)) else (none)) else (none))) else (none)) = some (r1, r2, r3) := by first | (rw [hy191]; with_reducible exact H) | (have H2_ := (Option.bind_some _ _).symm.trans H; rw [hy191]; with_reducible exact H2_) | (have H2_ := (Option.bind_some _ _).symm.trans H; with_reducible exact H2_) | with_reducible exact H | (rw [hy191]; exact H) | exact H
    have Ny191 := Aside0.mk hy191
    clear hy191
    by_cases c4 : (strOfNums y191).size + a0.size ≤ 9223372036854775807
    ·rw [if_pos c4] at H
     have c4b0 := eq_true c4
     have c4b1 : decide ((strOfNums y191).size + a0.size ≤ 9223372036854775807) = true := decide_eq_true c4
     try have c4b2 : (9223372036854775807 < (strOfNums y191).size + a0.size) = False := eq_false (Nat.not_lt.2 c4)
     try simp only [ByteArray.size_append] at c4b2
     replace H := Option.bind_eq_some_iff.mp H
     obtain ⟨t194, A50, H⟩ := H
     have A5 := Aside0.mk A50
     clear A50
     by_cases c6 : 0 < (t194.size : Int)
     ·rw [if_pos c6] at H
      have c6b0 : decide (0 < (t194.size : Int)) = true := decide_eq_true c6
      have c6b1 : decide (0 < t194.size) = true := decide_eq_true (by omega)
      clear c6
      by_cases c8 : 1 < (t194.size : Int)
      ·rw [if_pos c8] at H
       have c8b0 : decide (1 < (t194.size : Int)) = true := decide_eq_true c8
       have c8b1 : decide (1 < t194.size) = true := decide_eq_true (by omega)
       clear c8
       by_cases c10 : 2 < (t194.size : Int)
       ·rw [if_pos c10] at H
        have c10b0 : decide (2 < (t194.size : Int)) = true := decide_eq_true c10
        have c10b1 : decide (2 < t194.size) = true := decide_eq_true (by omega)
        clear c10
        by_cases c12 : 3 < (t194.size : Int)
        ·rw [if_pos c12] at H
         have c12b0 : decide (3 < (t194.size : Int)) = true := decide_eq_true c12
         have c12b1 : decide (3 < t194.size) = true := decide_eq_true (by omega)
         clear c12
         replace H := Option.bind_eq_some_iff.mp H
         obtain ⟨t195, A140, H⟩ := H
         have A14 := Aside0.mk A140
         clear A140
         replace H := Option.bind_eq_some_iff.mp H
         obtain ⟨t196, A150, H⟩ := H
         have A15 := Aside0.mk A150
         clear A150
         replace H := Option.bind_eq_some_iff.mp H
         obtain ⟨⟨t197, t198⟩, A160, H⟩ := H
         have A16 := Aside0.mk A160
         clear A160
         replace H := Option.bind_eq_some_iff.mp H
         obtain ⟨⟨t199, t200, t201⟩, A170, H⟩ := H
         have A17 := Aside0.mk A170
         clear A170
         by_cases c18 : t198 = true
         ·subst c18
          rw [if_pos rfl] at H
          by_cases c19 : t201 = true
          ·subst c19
           rw [if_pos rfl] at H
           have H' := Aside0.mk H
           clear H
           go_wp2_with (first | ((with_reducible refine gate_dst (N := 15) rfl ?_); refine Kd.R_lit (Kd.int .u8) _ 5 ?hg (N := 15) ?hd (xs := ([(x3_1) % 256] : List Int)) (inner := [.int .u8 ((x3_1) % 256)]) (ok := fun _ => True) (okp := fun _ => True) ?hr ?hp (fun _ hk => hk) trivial (Below.refl _ _) (Nat.le_refl _) (by simp) ?_; (case hd => rfl); (case hg => rfl); (case hr => first | (go_simp; done) | (go_simp; rfl)); (case hp => exact (Reps.one (show Kd.M (Kd.int .u8) _ _ _ ((x3_1) % 256) [.int .u8 ((x3_1) % 256)] from rfl) (Reps.none _ _))); intro v192 w20 ho21 hb hg_ hnew_; clear hg_ hnew_; (first | rw [← Ny191.out] at ho21 | (simp only [Int.reduceToNat] at ho21; rw [← Ny191.out] at ho21)); have HO193 := Aside0.mk (Kd.R_lower ho21 (below_size (bZ HB))); replace BK187 := bB BK187 hb; replace HB := bS HB hb; clear hb ho21; have hcv22 := own_string (P := Tryd.prog) Tryd.underlying46 Tryd.underlying5 Tryd.underlying9 (Kd.own_of_R HO193.out)) | (go_at_call 41; (with_reducible refine (spec_Digest.calls ((strOfNums y191) ++ a0) t194 _ A5.out).mono ?_); rintro e w23 ⟨rfl, hb⟩; replace HO193 := Aside0.mk (Kd.R_below (rP HO193) hb); replace BK187 := bB BK187 hb; replace HB := bS HB hb; (try clear hb); have p7 : 0 ≤ (0 : Int) := (by omega); have q7 : 0 < t194.size := (by have : (0 : Int) < (t194.size : Int) := of_decide_eq_true (by first | (with_reducible assumption) | assumption); omega); have hx7 : ∀ h : 0 < t194.size, ((t194[0]'h).toNat : Int) = bt t194 0 := bt_at t194 0; clear p7; have qi7 : (0 < (t194.size : Int)) = True := eq_true (of_decide_eq_true (by first | (with_reducible assumption) | assumption)); replace q7 := eq_true q7; have p9 : 0 ≤ (1 : Int) := (by omega); have q9 : 1 < t194.size := (by have : (1 : Int) < (t194.size : Int) := of_decide_eq_true (by first | (with_reducible assumption) | assumption); omega); have hx9 : ∀ h : 1 < t194.size, ((t194[1]'h).toNat : Int) = bt t194 1 := bt_at t194 1; clear p9; have qi9 : (1 < (t194.size : Int)) = True := eq_true (of_decide_eq_true (by first | (with_reducible assumption) | assumption)); replace q9 := eq_true q9; have p11 : 0 ≤ (2 : Int) := (by omega); have q11 : 2 < t194.size := (by have : (2 : Int) < (t194.size : Int) := of_decide_eq_true (by first | (with_reducible assumption) | assumption); omega); have hx11 : ∀ h : 2 < t194.size, ((t194[2]'h).toNat : Int) = bt t194 2 := bt_at t194 2; clear p11; have qi11 : (2 < (t194.size : Int)) = True := eq_true (of_decide_eq_true (by first | (with_reducible assumption) | assumption)); replace q11 := eq_true q11; have p13 : 0 ≤ (3 : Int) := (by omega); have q13 : 3 < t194.size := (by have : (3 : Int) < (t194.size : Int) := of_decide_eq_true (by first | (with_reducible assumption) | assumption); omega); have hx13 : ∀ h : 3 < t194.size, ((t194[3]'h).toNat : Int) = bt t194 3 := bt_at t194 3; clear p13; have qi13 : (3 < (t194.size : Int)) = True := eq_true (of_decide_eq_true (by first | (with_reducible assumption) | assumption)); replace q13 := eq_true q13) | (go_at_call 42; (with_reducible refine (spec_FpOf.calls (Go.bits .or .i64 (Go.bits .or .i64 (Go.bits .or .i64 (wrap64 ((wrap64 (bt t194 0)) * 16777216)) (wrap64 ((wrap64 (bt t194 1)) * 65536))) (wrap64 ((wrap64 (bt t194 2)) * 256))) (wrap64 (bt t194 3))) t195 _ A14.out).mono ?_); rintro e w' ⟨rfl, ⟨nd, rfl⟩⟩; (try exact tD)) | (go_at_call 44; (with_reducible refine (spec_l07Right.calls t195 t196 _ A15.out).mono ?_); rintro e w' ⟨rfl, ⟨nd, rfl⟩⟩; (try exact tD)) | (go_at_call 43; (with_reducible refine (spec_FpRoot.calls k1 t196 t197 true _ A16.out).mono ?_); rintro e w' ⟨rfl, ⟨nd, rfl⟩⟩; (try exact tD)) | (go_at_call 45; (with_reducible refine (spec_PointTimes.calls k1 12 t195 t197 false t199 t200 true _ A17.out).mono ?_); rintro e w24 ⟨rfl, hb⟩; replace HO193 := Aside0.mk (Kd.R_below (rP HO193) hb); replace BK187 := bB BK187 hb; replace HB := bS HB hb; (try clear hb)) | ((with_reducible refine gate_dst (N := 8) rfl ?_); refine bE 8 #[.int .i64 0, .int .i64 0, .bool false] 23 ?_; intro gb202 hg w25 hbox hb; replace HO193 := Aside0.mk (Kd.R_below (rP HO193) hb); have BK202 := Aside0.mk (hbox); have GW202 := bG HB hg; have GE202 := bG HB hg; replace HB := bS HB hb; have NB187_202 := bL BK187 hg; have NB202_187 := bR BK187 hg; replace BK187 := bB BK187 hb; clear hb hbox hg; have hnb26 := NB202_187.out; have hnc26 := NB187_202.out; obtain ⟨hcz27_0, hcz27_1, hcz27_2, hfz27_0, hfz27_1, hfz27_2⟩ := bK3 (w := w25) BK202))
           repeat (go_quiet (first | ((with_reducible refine gate_dst (N := 15) rfl ?_); refine Kd.R_lit (Kd.int .u8) _ 5 ?hg (N := 15) ?hd (xs := ([(x3_1) % 256] : List Int)) (inner := [.int .u8 ((x3_1) % 256)]) (ok := fun _ => True) (okp := fun _ => True) ?hr ?hp (fun _ hk => hk) trivial (Below.refl _ _) (Nat.le_refl _) (by simp) ?_; (case hd => rfl); (case hg => rfl); (case hr => first | (go_simp; done) | (go_simp; rfl)); (case hp => exact (Reps.one (show Kd.M (Kd.int .u8) _ _ _ ((x3_1) % 256) [.int .u8 ((x3_1) % 256)] from rfl) (Reps.none _ _))); intro v192 w20 ho21 hb hg_ hnew_; clear hg_ hnew_; (first | rw [← Ny191.out] at ho21 | (simp only [Int.reduceToNat] at ho21; rw [← Ny191.out] at ho21)); have HO193 := Aside0.mk (Kd.R_lower ho21 (below_size (bZ HB))); replace BK187 := bB BK187 hb; replace HB := bS HB hb; clear hb ho21; have hcv22 := own_string (P := Tryd.prog) Tryd.underlying46 Tryd.underlying5 Tryd.underlying9 (Kd.own_of_R HO193.out)) | (go_at_call 41; (with_reducible refine (spec_Digest.calls ((strOfNums y191) ++ a0) t194 _ A5.out).mono ?_); rintro e w23 ⟨rfl, hb⟩; replace HO193 := Aside0.mk (Kd.R_below (rP HO193) hb); replace BK187 := bB BK187 hb; replace HB := bS HB hb; (try clear hb); have p7 : 0 ≤ (0 : Int) := (by omega); have q7 : 0 < t194.size := (by have : (0 : Int) < (t194.size : Int) := of_decide_eq_true (by first | (with_reducible assumption) | assumption); omega); have hx7 : ∀ h : 0 < t194.size, ((t194[0]'h).toNat : Int) = bt t194 0 := bt_at t194 0; clear p7; have qi7 : (0 < (t194.size : Int)) = True := eq_true (of_decide_eq_true (by first | (with_reducible assumption) | assumption)); replace q7 := eq_true q7; have p9 : 0 ≤ (1 : Int) := (by omega); have q9 : 1 < t194.size := (by have : (1 : Int) < (t194.size : Int) := of_decide_eq_true (by first | (with_reducible assumption) | assumption); omega); have hx9 : ∀ h : 1 < t194.size, ((t194[1]'h).toNat : Int) = bt t194 1 := bt_at t194 1; clear p9; have qi9 : (1 < (t194.size : Int)) = True := eq_true (of_decide_eq_true (by first | (with_reducible assumption) | assumption)); replace q9 := eq_true q9; have p11 : 0 ≤ (2 : Int) := (by omega); have q11 : 2 < t194.size := (by have : (2 : Int) < (t194.size : Int) := of_decide_eq_true (by first | (with_reducible assumption) | assumption); omega); have hx11 : ∀ h : 2 < t194.size, ((t194[2]'h).toNat : Int) = bt t194 2 := bt_at t194 2; clear p11; have qi11 : (2 < (t194.size : Int)) = True := eq_true (of_decide_eq_true (by first | (with_reducible assumption) | assumption)); replace q11 := eq_true q11; have p13 : 0 ≤ (3 : Int) := (by omega); have q13 : 3 < t194.size := (by have : (3 : Int) < (t194.size : Int) := of_decide_eq_true (by first | (with_reducible assumption) | assumption); omega); have hx13 : ∀ h : 3 < t194.size, ((t194[3]'h).toNat : Int) = bt t194 3 := bt_at t194 3; clear p13; have qi13 : (3 < (t194.size : Int)) = True := eq_true (of_decide_eq_true (by first | (with_reducible assumption) | assumption)); replace q13 := eq_true q13) | (go_at_call 42; (with_reducible refine (spec_FpOf.calls (Go.bits .or .i64 (Go.bits .or .i64 (Go.bits .or .i64 (wrap64 ((wrap64 (bt t194 0)) * 16777216)) (wrap64 ((wrap64 (bt t194 1)) * 65536))) (wrap64 ((wrap64 (bt t194 2)) * 256))) (wrap64 (bt t194 3))) t195 _ A14.out).mono ?_); rintro e w' ⟨rfl, ⟨nd, rfl⟩⟩; (try exact tD)) | (go_at_call 44; (with_reducible refine (spec_l07Right.calls t195 t196 _ A15.out).mono ?_); rintro e w' ⟨rfl, ⟨nd, rfl⟩⟩; (try exact tD)) | (go_at_call 43; (with_reducible refine (spec_FpRoot.calls k1 t196 t197 true _ A16.out).mono ?_); rintro e w' ⟨rfl, ⟨nd, rfl⟩⟩; (try exact tD)) | (go_at_call 45; (with_reducible refine (spec_PointTimes.calls k1 12 t195 t197 false t199 t200 true _ A17.out).mono ?_); rintro e w24 ⟨rfl, hb⟩; replace HO193 := Aside0.mk (Kd.R_below (rP HO193) hb); replace BK187 := bB BK187 hb; replace HB := bS HB hb; (try clear hb)) | ((with_reducible refine gate_dst (N := 8) rfl ?_); refine bE 8 #[.int .i64 0, .int .i64 0, .bool false] 23 ?_; intro gb202 hg w25 hbox hb; replace HO193 := Aside0.mk (Kd.R_below (rP HO193) hb); have BK202 := Aside0.mk (hbox); have GW202 := bG HB hg; have GE202 := bG HB hg; replace HB := bS HB hb; have NB187_202 := bL BK187 hg; have NB202_187 := bR BK187 hg; replace BK187 := bB BK187 hb; clear hb hbox hg; have hnb26 := NB202_187.out; have hnc26 := NB187_202.out; obtain ⟨hcz27_0, hcz27_1, hcz27_2, hfz27_0, hfz27_1, hfz27_2⟩ := bK3 (w := w25) BK202)); try go_wp2_with (first | ((with_reducible refine gate_dst (N := 15) rfl ?_); refine Kd.R_lit (Kd.int .u8) _ 5 ?hg (N := 15) ?hd (xs := ([(x3_1) % 256] : List Int)) (inner := [.int .u8 ((x3_1) % 256)]) (ok := fun _ => True) (okp := fun _ => True) ?hr ?hp (fun _ hk => hk) trivial (Below.refl _ _) (Nat.le_refl _) (by simp) ?_; (case hd => rfl); (case hg => rfl); (case hr => first | (go_simp; done) | (go_simp; rfl)); (case hp => exact (Reps.one (show Kd.M (Kd.int .u8) _ _ _ ((x3_1) % 256) [.int .u8 ((x3_1) % 256)] from rfl) (Reps.none _ _))); intro v192 w20 ho21 hb hg_ hnew_; clear hg_ hnew_; (first | rw [← Ny191.out] at ho21 | (simp only [Int.reduceToNat] at ho21; rw [← Ny191.out] at ho21)); have HO193 := Aside0.mk (Kd.R_lower ho21 (below_size (bZ HB))); replace BK187 := bB BK187 hb; replace HB := bS HB hb; clear hb ho21; have hcv22 := own_string (P := Tryd.prog) Tryd.underlying46 Tryd.underlying5 Tryd.underlying9 (Kd.own_of_R HO193.out)) | (go_at_call 41; (with_reducible refine (spec_Digest.calls ((strOfNums y191) ++ a0) t194 _ A5.out).mono ?_); rintro e w23 ⟨rfl, hb⟩; replace HO193 := Aside0.mk (Kd.R_below (rP HO193) hb); replace BK187 := bB BK187 hb; replace HB := bS HB hb; (try clear hb); have p7 : 0 ≤ (0 : Int) := (by omega); have q7 : 0 < t194.size := (by have : (0 : Int) < (t194.size : Int) := of_decide_eq_true (by first | (with_reducible assumption) | assumption); omega); have hx7 : ∀ h : 0 < t194.size, ((t194[0]'h).toNat : Int) = bt t194 0 := bt_at t194 0; clear p7; have qi7 : (0 < (t194.size : Int)) = True := eq_true (of_decide_eq_true (by first | (with_reducible assumption) | assumption)); replace q7 := eq_true q7; have p9 : 0 ≤ (1 : Int) := (by omega); have q9 : 1 < t194.size := (by have : (1 : Int) < (t194.size : Int) := of_decide_eq_true (by first | (with_reducible assumption) | assumption); omega); have hx9 : ∀ h : 1 < t194.size, ((t194[1]'h).toNat : Int) = bt t194 1 := bt_at t194 1; clear p9; have qi9 : (1 < (t194.size : Int)) = True := eq_true (of_decide_eq_true (by first | (with_reducible assumption) | assumption)); replace q9 := eq_true q9; have p11 : 0 ≤ (2 : Int) := (by omega); have q11 : 2 < t194.size := (by have : (2 : Int) < (t194.size : Int) := of_decide_eq_true (by first | (with_reducible assumption) | assumption); omega); have hx11 : ∀ h : 2 < t194.size, ((t194[2]'h).toNat : Int) = bt t194 2 := bt_at t194 2; clear p11; have qi11 : (2 < (t194.size : Int)) = True := eq_true (of_decide_eq_true (by first | (with_reducible assumption) | assumption)); replace q11 := eq_true q11; have p13 : 0 ≤ (3 : Int) := (by omega); have q13 : 3 < t194.size := (by have : (3 : Int) < (t194.size : Int) := of_decide_eq_true (by first | (with_reducible assumption) | assumption); omega); have hx13 : ∀ h : 3 < t194.size, ((t194[3]'h).toNat : Int) = bt t194 3 := bt_at t194 3; clear p13; have qi13 : (3 < (t194.size : Int)) = True := eq_true (of_decide_eq_true (by first | (with_reducible assumption) | assumption)); replace q13 := eq_true q13) | (go_at_call 42; (with_reducible refine (spec_FpOf.calls (Go.bits .or .i64 (Go.bits .or .i64 (Go.bits .or .i64 (wrap64 ((wrap64 (bt t194 0)) * 16777216)) (wrap64 ((wrap64 (bt t194 1)) * 65536))) (wrap64 ((wrap64 (bt t194 2)) * 256))) (wrap64 (bt t194 3))) t195 _ A14.out).mono ?_); rintro e w' ⟨rfl, ⟨nd, rfl⟩⟩; (try exact tD)) | (go_at_call 44; (with_reducible refine (spec_l07Right.calls t195 t196 _ A15.out).mono ?_); rintro e w' ⟨rfl, ⟨nd, rfl⟩⟩; (try exact tD)) | (go_at_call 43; (with_reducible refine (spec_FpRoot.calls k1 t196 t197 true _ A16.out).mono ?_); rintro e w' ⟨rfl, ⟨nd, rfl⟩⟩; (try exact tD)) | (go_at_call 45; (with_reducible refine (spec_PointTimes.calls k1 12 t195 t197 false t199 t200 true _ A17.out).mono ?_); rintro e w24 ⟨rfl, hb⟩; replace HO193 := Aside0.mk (Kd.R_below (rP HO193) hb); replace BK187 := bB BK187 hb; replace HB := bS HB hb; (try clear hb)) | ((with_reducible refine gate_dst (N := 8) rfl ?_); refine bE 8 #[.int .i64 0, .int .i64 0, .bool false] 23 ?_; intro gb202 hg w25 hbox hb; replace HO193 := Aside0.mk (Kd.R_below (rP HO193) hb); have BK202 := Aside0.mk (hbox); have GW202 := bG HB hg; have GE202 := bG HB hg; replace HB := bS HB hb; have NB187_202 := bL BK187 hg; have NB202_187 := bR BK187 hg; replace BK187 := bB BK187 hb; clear hb hbox hg; have hnb26 := NB202_187.out; have hnc26 := NB187_202.out; obtain ⟨hcz27_0, hcz27_1, hcz27_2, hfz27_0, hfz27_1, hfz27_2⟩ := bK3 (w := w25) BK202)))
           go_roundg k1
           case measure => have := HK1.out; omega
           case rel => exact ⟨(wrap64 (x3_1 + 1)), (x188000_1), (x188001_1), (x188002_1), rS, H', ⟨by have := HK1.out; omega⟩, ⟨bP BK187⟩, ⟨bZ HB⟩⟩
          ·replace c19 := Bool.eq_false_iff.mpr c19
           subst c19
           rw [if_neg (show ¬ (false = true) by decide)] at H
           simp only [Option.some.injEq, Prod.mk.injEq] at H
           obtain ⟨rfl, rfl, rfl⟩ := H
           go_wp2_with (first | ((with_reducible refine gate_dst (N := 15) rfl ?_); refine Kd.R_lit (Kd.int .u8) _ 5 ?hg (N := 15) ?hd (xs := ([(x3_1) % 256] : List Int)) (inner := [.int .u8 ((x3_1) % 256)]) (ok := fun _ => True) (okp := fun _ => True) ?hr ?hp (fun _ hk => hk) trivial (Below.refl _ _) (Nat.le_refl _) (by simp) ?_; (case hd => rfl); (case hg => rfl); (case hr => first | (go_simp; done) | (go_simp; rfl)); (case hp => exact (Reps.one (show Kd.M (Kd.int .u8) _ _ _ ((x3_1) % 256) [.int .u8 ((x3_1) % 256)] from rfl) (Reps.none _ _))); intro v192 w28 ho29 hb hg_ hnew_; clear hg_ hnew_; (first | rw [← Ny191.out] at ho29 | (simp only [Int.reduceToNat] at ho29; rw [← Ny191.out] at ho29)); have HO193 := Aside0.mk (Kd.R_lower ho29 (below_size (bZ HB))); replace BK187 := bB BK187 hb; replace HB := bS HB hb; clear hb ho29; have hcv30 := own_string (P := Tryd.prog) Tryd.underlying46 Tryd.underlying5 Tryd.underlying9 (Kd.own_of_R HO193.out)) | (go_at_call 41; (with_reducible refine (spec_Digest.calls ((strOfNums y191) ++ a0) t194 _ A5.out).mono ?_); rintro e w31 ⟨rfl, hb⟩; replace HO193 := Aside0.mk (Kd.R_below (rP HO193) hb); replace BK187 := bB BK187 hb; replace HB := bS HB hb; (try clear hb); have p7 : 0 ≤ (0 : Int) := (by omega); have q7 : 0 < t194.size := (by have : (0 : Int) < (t194.size : Int) := of_decide_eq_true (by first | (with_reducible assumption) | assumption); omega); have hx7 : ∀ h : 0 < t194.size, ((t194[0]'h).toNat : Int) = bt t194 0 := bt_at t194 0; clear p7; have qi7 : (0 < (t194.size : Int)) = True := eq_true (of_decide_eq_true (by first | (with_reducible assumption) | assumption)); replace q7 := eq_true q7; have p9 : 0 ≤ (1 : Int) := (by omega); have q9 : 1 < t194.size := (by have : (1 : Int) < (t194.size : Int) := of_decide_eq_true (by first | (with_reducible assumption) | assumption); omega); have hx9 : ∀ h : 1 < t194.size, ((t194[1]'h).toNat : Int) = bt t194 1 := bt_at t194 1; clear p9; have qi9 : (1 < (t194.size : Int)) = True := eq_true (of_decide_eq_true (by first | (with_reducible assumption) | assumption)); replace q9 := eq_true q9; have p11 : 0 ≤ (2 : Int) := (by omega); have q11 : 2 < t194.size := (by have : (2 : Int) < (t194.size : Int) := of_decide_eq_true (by first | (with_reducible assumption) | assumption); omega); have hx11 : ∀ h : 2 < t194.size, ((t194[2]'h).toNat : Int) = bt t194 2 := bt_at t194 2; clear p11; have qi11 : (2 < (t194.size : Int)) = True := eq_true (of_decide_eq_true (by first | (with_reducible assumption) | assumption)); replace q11 := eq_true q11; have p13 : 0 ≤ (3 : Int) := (by omega); have q13 : 3 < t194.size := (by have : (3 : Int) < (t194.size : Int) := of_decide_eq_true (by first | (with_reducible assumption) | assumption); omega); have hx13 : ∀ h : 3 < t194.size, ((t194[3]'h).toNat : Int) = bt t194 3 := bt_at t194 3; clear p13; have qi13 : (3 < (t194.size : Int)) = True := eq_true (of_decide_eq_true (by first | (with_reducible assumption) | assumption)); replace q13 := eq_true q13) | (go_at_call 42; (with_reducible refine (spec_FpOf.calls (Go.bits .or .i64 (Go.bits .or .i64 (Go.bits .or .i64 (wrap64 ((wrap64 (bt t194 0)) * 16777216)) (wrap64 ((wrap64 (bt t194 1)) * 65536))) (wrap64 ((wrap64 (bt t194 2)) * 256))) (wrap64 (bt t194 3))) t195 _ A14.out).mono ?_); rintro e w' ⟨rfl, ⟨nd, rfl⟩⟩; (try exact tD)) | (go_at_call 44; (with_reducible refine (spec_l07Right.calls t195 t196 _ A15.out).mono ?_); rintro e w' ⟨rfl, ⟨nd, rfl⟩⟩; (try exact tD)) | (go_at_call 43; (with_reducible refine (spec_FpRoot.calls k1 t196 t197 true _ A16.out).mono ?_); rintro e w' ⟨rfl, ⟨nd, rfl⟩⟩; (try exact tD)) | (go_at_call 45; (with_reducible refine (spec_PointTimes.calls k1 12 t195 t197 false t199 t200 false _ A17.out).mono ?_); rintro e w32 ⟨rfl, hb⟩; replace HO193 := Aside0.mk (Kd.R_below (rP HO193) hb); replace BK187 := bB BK187 hb; replace HB := bS HB hb; (try clear hb)) | ((with_reducible refine gate_dst (N := 8) rfl ?_); refine bE 8 #[.int .i64 0, .int .i64 0, .bool false] 23 ?_; intro gb202 hg w33 hbox hb; replace HO193 := Aside0.mk (Kd.R_below (rP HO193) hb); have BK202 := Aside0.mk (hbox); have GW202 := bG HB hg; have GE202 := bG HB hg; replace HB := bS HB hb; have NB187_202 := bL BK187 hg; have NB202_187 := bR BK187 hg; replace BK187 := bB BK187 hb; clear hb hbox hg; have hnb34 := NB202_187.out; have hnc34 := NB187_202.out; obtain ⟨hcz35_0, hcz35_1, hcz35_2, hfz35_0, hfz35_1, hfz35_2⟩ := bK3 (w := w33) BK202; obtain ⟨hcz36_0, hcz36_1, hcz36_2, hfz36_0, hfz36_1, hfz36_2⟩ := bK3 (w := w33) BK187))
           repeat (go_quiet (first | ((with_reducible refine gate_dst (N := 15) rfl ?_); refine Kd.R_lit (Kd.int .u8) _ 5 ?hg (N := 15) ?hd (xs := ([(x3_1) % 256] : List Int)) (inner := [.int .u8 ((x3_1) % 256)]) (ok := fun _ => True) (okp := fun _ => True) ?hr ?hp (fun _ hk => hk) trivial (Below.refl _ _) (Nat.le_refl _) (by simp) ?_; (case hd => rfl); (case hg => rfl); (case hr => first | (go_simp; done) | (go_simp; rfl)); (case hp => exact (Reps.one (show Kd.M (Kd.int .u8) _ _ _ ((x3_1) % 256) [.int .u8 ((x3_1) % 256)] from rfl) (Reps.none _ _))); intro v192 w28 ho29 hb hg_ hnew_; clear hg_ hnew_; (first | rw [← Ny191.out] at ho29 | (simp only [Int.reduceToNat] at ho29; rw [← Ny191.out] at ho29)); have HO193 := Aside0.mk (Kd.R_lower ho29 (below_size (bZ HB))); replace BK187 := bB BK187 hb; replace HB := bS HB hb; clear hb ho29; have hcv30 := own_string (P := Tryd.prog) Tryd.underlying46 Tryd.underlying5 Tryd.underlying9 (Kd.own_of_R HO193.out)) | (go_at_call 41; (with_reducible refine (spec_Digest.calls ((strOfNums y191) ++ a0) t194 _ A5.out).mono ?_); rintro e w31 ⟨rfl, hb⟩; replace HO193 := Aside0.mk (Kd.R_below (rP HO193) hb); replace BK187 := bB BK187 hb; replace HB := bS HB hb; (try clear hb); have p7 : 0 ≤ (0 : Int) := (by omega); have q7 : 0 < t194.size := (by have : (0 : Int) < (t194.size : Int) := of_decide_eq_true (by first | (with_reducible assumption) | assumption); omega); have hx7 : ∀ h : 0 < t194.size, ((t194[0]'h).toNat : Int) = bt t194 0 := bt_at t194 0; clear p7; have qi7 : (0 < (t194.size : Int)) = True := eq_true (of_decide_eq_true (by first | (with_reducible assumption) | assumption)); replace q7 := eq_true q7; have p9 : 0 ≤ (1 : Int) := (by omega); have q9 : 1 < t194.size := (by have : (1 : Int) < (t194.size : Int) := of_decide_eq_true (by first | (with_reducible assumption) | assumption); omega); have hx9 : ∀ h : 1 < t194.size, ((t194[1]'h).toNat : Int) = bt t194 1 := bt_at t194 1; clear p9; have qi9 : (1 < (t194.size : Int)) = True := eq_true (of_decide_eq_true (by first | (with_reducible assumption) | assumption)); replace q9 := eq_true q9; have p11 : 0 ≤ (2 : Int) := (by omega); have q11 : 2 < t194.size := (by have : (2 : Int) < (t194.size : Int) := of_decide_eq_true (by first | (with_reducible assumption) | assumption); omega); have hx11 : ∀ h : 2 < t194.size, ((t194[2]'h).toNat : Int) = bt t194 2 := bt_at t194 2; clear p11; have qi11 : (2 < (t194.size : Int)) = True := eq_true (of_decide_eq_true (by first | (with_reducible assumption) | assumption)); replace q11 := eq_true q11; have p13 : 0 ≤ (3 : Int) := (by omega); have q13 : 3 < t194.size := (by have : (3 : Int) < (t194.size : Int) := of_decide_eq_true (by first | (with_reducible assumption) | assumption); omega); have hx13 : ∀ h : 3 < t194.size, ((t194[3]'h).toNat : Int) = bt t194 3 := bt_at t194 3; clear p13; have qi13 : (3 < (t194.size : Int)) = True := eq_true (of_decide_eq_true (by first | (with_reducible assumption) | assumption)); replace q13 := eq_true q13) | (go_at_call 42; (with_reducible refine (spec_FpOf.calls (Go.bits .or .i64 (Go.bits .or .i64 (Go.bits .or .i64 (wrap64 ((wrap64 (bt t194 0)) * 16777216)) (wrap64 ((wrap64 (bt t194 1)) * 65536))) (wrap64 ((wrap64 (bt t194 2)) * 256))) (wrap64 (bt t194 3))) t195 _ A14.out).mono ?_); rintro e w' ⟨rfl, ⟨nd, rfl⟩⟩; (try exact tD)) | (go_at_call 44; (with_reducible refine (spec_l07Right.calls t195 t196 _ A15.out).mono ?_); rintro e w' ⟨rfl, ⟨nd, rfl⟩⟩; (try exact tD)) | (go_at_call 43; (with_reducible refine (spec_FpRoot.calls k1 t196 t197 true _ A16.out).mono ?_); rintro e w' ⟨rfl, ⟨nd, rfl⟩⟩; (try exact tD)) | (go_at_call 45; (with_reducible refine (spec_PointTimes.calls k1 12 t195 t197 false t199 t200 false _ A17.out).mono ?_); rintro e w32 ⟨rfl, hb⟩; replace HO193 := Aside0.mk (Kd.R_below (rP HO193) hb); replace BK187 := bB BK187 hb; replace HB := bS HB hb; (try clear hb)) | ((with_reducible refine gate_dst (N := 8) rfl ?_); refine bE 8 #[.int .i64 0, .int .i64 0, .bool false] 23 ?_; intro gb202 hg w33 hbox hb; replace HO193 := Aside0.mk (Kd.R_below (rP HO193) hb); have BK202 := Aside0.mk (hbox); have GW202 := bG HB hg; have GE202 := bG HB hg; replace HB := bS HB hb; have NB187_202 := bL BK187 hg; have NB202_187 := bR BK187 hg; replace BK187 := bB BK187 hb; clear hb hbox hg; have hnb34 := NB202_187.out; have hnc34 := NB187_202.out; obtain ⟨hcz35_0, hcz35_1, hcz35_2, hfz35_0, hfz35_1, hfz35_2⟩ := bK3 (w := w33) BK202; obtain ⟨hcz36_0, hcz36_1, hcz36_2, hfz36_0, hfz36_1, hfz36_2⟩ := bK3 (w := w33) BK187)); try go_wp2_with (first | ((with_reducible refine gate_dst (N := 15) rfl ?_); refine Kd.R_lit (Kd.int .u8) _ 5 ?hg (N := 15) ?hd (xs := ([(x3_1) % 256] : List Int)) (inner := [.int .u8 ((x3_1) % 256)]) (ok := fun _ => True) (okp := fun _ => True) ?hr ?hp (fun _ hk => hk) trivial (Below.refl _ _) (Nat.le_refl _) (by simp) ?_; (case hd => rfl); (case hg => rfl); (case hr => first | (go_simp; done) | (go_simp; rfl)); (case hp => exact (Reps.one (show Kd.M (Kd.int .u8) _ _ _ ((x3_1) % 256) [.int .u8 ((x3_1) % 256)] from rfl) (Reps.none _ _))); intro v192 w28 ho29 hb hg_ hnew_; clear hg_ hnew_; (first | rw [← Ny191.out] at ho29 | (simp only [Int.reduceToNat] at ho29; rw [← Ny191.out] at ho29)); have HO193 := Aside0.mk (Kd.R_lower ho29 (below_size (bZ HB))); replace BK187 := bB BK187 hb; replace HB := bS HB hb; clear hb ho29; have hcv30 := own_string (P := Tryd.prog) Tryd.underlying46 Tryd.underlying5 Tryd.underlying9 (Kd.own_of_R HO193.out)) | (go_at_call 41; (with_reducible refine (spec_Digest.calls ((strOfNums y191) ++ a0) t194 _ A5.out).mono ?_); rintro e w31 ⟨rfl, hb⟩; replace HO193 := Aside0.mk (Kd.R_below (rP HO193) hb); replace BK187 := bB BK187 hb; replace HB := bS HB hb; (try clear hb); have p7 : 0 ≤ (0 : Int) := (by omega); have q7 : 0 < t194.size := (by have : (0 : Int) < (t194.size : Int) := of_decide_eq_true (by first | (with_reducible assumption) | assumption); omega); have hx7 : ∀ h : 0 < t194.size, ((t194[0]'h).toNat : Int) = bt t194 0 := bt_at t194 0; clear p7; have qi7 : (0 < (t194.size : Int)) = True := eq_true (of_decide_eq_true (by first | (with_reducible assumption) | assumption)); replace q7 := eq_true q7; have p9 : 0 ≤ (1 : Int) := (by omega); have q9 : 1 < t194.size := (by have : (1 : Int) < (t194.size : Int) := of_decide_eq_true (by first | (with_reducible assumption) | assumption); omega); have hx9 : ∀ h : 1 < t194.size, ((t194[1]'h).toNat : Int) = bt t194 1 := bt_at t194 1; clear p9; have qi9 : (1 < (t194.size : Int)) = True := eq_true (of_decide_eq_true (by first | (with_reducible assumption) | assumption)); replace q9 := eq_true q9; have p11 : 0 ≤ (2 : Int) := (by omega); have q11 : 2 < t194.size := (by have : (2 : Int) < (t194.size : Int) := of_decide_eq_true (by first | (with_reducible assumption) | assumption); omega); have hx11 : ∀ h : 2 < t194.size, ((t194[2]'h).toNat : Int) = bt t194 2 := bt_at t194 2; clear p11; have qi11 : (2 < (t194.size : Int)) = True := eq_true (of_decide_eq_true (by first | (with_reducible assumption) | assumption)); replace q11 := eq_true q11; have p13 : 0 ≤ (3 : Int) := (by omega); have q13 : 3 < t194.size := (by have : (3 : Int) < (t194.size : Int) := of_decide_eq_true (by first | (with_reducible assumption) | assumption); omega); have hx13 : ∀ h : 3 < t194.size, ((t194[3]'h).toNat : Int) = bt t194 3 := bt_at t194 3; clear p13; have qi13 : (3 < (t194.size : Int)) = True := eq_true (of_decide_eq_true (by first | (with_reducible assumption) | assumption)); replace q13 := eq_true q13) | (go_at_call 42; (with_reducible refine (spec_FpOf.calls (Go.bits .or .i64 (Go.bits .or .i64 (Go.bits .or .i64 (wrap64 ((wrap64 (bt t194 0)) * 16777216)) (wrap64 ((wrap64 (bt t194 1)) * 65536))) (wrap64 ((wrap64 (bt t194 2)) * 256))) (wrap64 (bt t194 3))) t195 _ A14.out).mono ?_); rintro e w' ⟨rfl, ⟨nd, rfl⟩⟩; (try exact tD)) | (go_at_call 44; (with_reducible refine (spec_l07Right.calls t195 t196 _ A15.out).mono ?_); rintro e w' ⟨rfl, ⟨nd, rfl⟩⟩; (try exact tD)) | (go_at_call 43; (with_reducible refine (spec_FpRoot.calls k1 t196 t197 true _ A16.out).mono ?_); rintro e w' ⟨rfl, ⟨nd, rfl⟩⟩; (try exact tD)) | (go_at_call 45; (with_reducible refine (spec_PointTimes.calls k1 12 t195 t197 false t199 t200 false _ A17.out).mono ?_); rintro e w32 ⟨rfl, hb⟩; replace HO193 := Aside0.mk (Kd.R_below (rP HO193) hb); replace BK187 := bB BK187 hb; replace HB := bS HB hb; (try clear hb)) | ((with_reducible refine gate_dst (N := 8) rfl ?_); refine bE 8 #[.int .i64 0, .int .i64 0, .bool false] 23 ?_; intro gb202 hg w33 hbox hb; replace HO193 := Aside0.mk (Kd.R_below (rP HO193) hb); have BK202 := Aside0.mk (hbox); have GW202 := bG HB hg; have GE202 := bG HB hg; replace HB := bS HB hb; have NB187_202 := bL BK187 hg; have NB202_187 := bR BK187 hg; replace BK187 := bB BK187 hb; clear hb hbox hg; have hnb34 := NB202_187.out; have hnc34 := NB187_202.out; obtain ⟨hcz35_0, hcz35_1, hcz35_2, hfz35_0, hfz35_1, hfz35_2⟩ := bK3 (w := w33) BK202; obtain ⟨hcz36_0, hcz36_1, hcz36_2, hfz36_0, hfz36_1, hfz36_2⟩ := bK3 (w := w33) BK187)))
           refine rC gb187 23 #[.int .i64 t199, .int .i64 t200, .bool false] (bU BK187) Tryd.underlying23 ?_
           exact ⟨rR, bZ HB⟩
         ·replace c18 := Bool.eq_false_iff.mpr c18
          subst c18
          rw [if_neg (show ¬ (false = true) by decide)] at H
          have H' := Aside0.mk H
          clear H
          go_wp2_with (first | ((with_reducible refine gate_dst (N := 15) rfl ?_); refine Kd.R_lit (Kd.int .u8) _ 5 ?hg (N := 15) ?hd (xs := ([(x3_1) % 256] : List Int)) (inner := [.int .u8 ((x3_1) % 256)]) (ok := fun _ => True) (okp := fun _ => True) ?hr ?hp (fun _ hk => hk) trivial (Below.refl _ _) (Nat.le_refl _) (by simp) ?_; (case hd => rfl); (case hg => rfl); (case hr => first | (go_simp; done) | (go_simp; rfl)); (case hp => exact (Reps.one (show Kd.M (Kd.int .u8) _ _ _ ((x3_1) % 256) [.int .u8 ((x3_1) % 256)] from rfl) (Reps.none _ _))); intro v192 w37 ho38 hb hg_ hnew_; clear hg_ hnew_; (first | rw [← Ny191.out] at ho38 | (simp only [Int.reduceToNat] at ho38; rw [← Ny191.out] at ho38)); have HO193 := Aside0.mk (Kd.R_lower ho38 (below_size (bZ HB))); replace BK187 := bB BK187 hb; replace HB := bS HB hb; clear hb ho38; have hcv39 := own_string (P := Tryd.prog) Tryd.underlying46 Tryd.underlying5 Tryd.underlying9 (Kd.own_of_R HO193.out)) | (go_at_call 41; (with_reducible refine (spec_Digest.calls ((strOfNums y191) ++ a0) t194 _ A5.out).mono ?_); rintro e w40 ⟨rfl, hb⟩; replace HO193 := Aside0.mk (Kd.R_below (rP HO193) hb); replace BK187 := bB BK187 hb; replace HB := bS HB hb; (try clear hb); have p7 : 0 ≤ (0 : Int) := (by omega); have q7 : 0 < t194.size := (by have : (0 : Int) < (t194.size : Int) := of_decide_eq_true (by first | (with_reducible assumption) | assumption); omega); have hx7 : ∀ h : 0 < t194.size, ((t194[0]'h).toNat : Int) = bt t194 0 := bt_at t194 0; clear p7; have qi7 : (0 < (t194.size : Int)) = True := eq_true (of_decide_eq_true (by first | (with_reducible assumption) | assumption)); replace q7 := eq_true q7; have p9 : 0 ≤ (1 : Int) := (by omega); have q9 : 1 < t194.size := (by have : (1 : Int) < (t194.size : Int) := of_decide_eq_true (by first | (with_reducible assumption) | assumption); omega); have hx9 : ∀ h : 1 < t194.size, ((t194[1]'h).toNat : Int) = bt t194 1 := bt_at t194 1; clear p9; have qi9 : (1 < (t194.size : Int)) = True := eq_true (of_decide_eq_true (by first | (with_reducible assumption) | assumption)); replace q9 := eq_true q9; have p11 : 0 ≤ (2 : Int) := (by omega); have q11 : 2 < t194.size := (by have : (2 : Int) < (t194.size : Int) := of_decide_eq_true (by first | (with_reducible assumption) | assumption); omega); have hx11 : ∀ h : 2 < t194.size, ((t194[2]'h).toNat : Int) = bt t194 2 := bt_at t194 2; clear p11; have qi11 : (2 < (t194.size : Int)) = True := eq_true (of_decide_eq_true (by first | (with_reducible assumption) | assumption)); replace q11 := eq_true q11; have p13 : 0 ≤ (3 : Int) := (by omega); have q13 : 3 < t194.size := (by have : (3 : Int) < (t194.size : Int) := of_decide_eq_true (by first | (with_reducible assumption) | assumption); omega); have hx13 : ∀ h : 3 < t194.size, ((t194[3]'h).toNat : Int) = bt t194 3 := bt_at t194 3; clear p13; have qi13 : (3 < (t194.size : Int)) = True := eq_true (of_decide_eq_true (by first | (with_reducible assumption) | assumption)); replace q13 := eq_true q13) | (go_at_call 42; (with_reducible refine (spec_FpOf.calls (Go.bits .or .i64 (Go.bits .or .i64 (Go.bits .or .i64 (wrap64 ((wrap64 (bt t194 0)) * 16777216)) (wrap64 ((wrap64 (bt t194 1)) * 65536))) (wrap64 ((wrap64 (bt t194 2)) * 256))) (wrap64 (bt t194 3))) t195 _ A14.out).mono ?_); rintro e w' ⟨rfl, ⟨nd, rfl⟩⟩; (try exact tD)) | (go_at_call 44; (with_reducible refine (spec_l07Right.calls t195 t196 _ A15.out).mono ?_); rintro e w' ⟨rfl, ⟨nd, rfl⟩⟩; (try exact tD)) | (go_at_call 43; (with_reducible refine (spec_FpRoot.calls k1 t196 t197 false _ A16.out).mono ?_); rintro e w' ⟨rfl, ⟨nd, rfl⟩⟩; (try exact tD)) | (go_at_call 45; (with_reducible refine (spec_PointTimes.calls k1 12 t195 t197 false t199 t200 t201 _ A17.out).mono ?_); rintro e w41 ⟨rfl, hb⟩; replace HO193 := Aside0.mk (Kd.R_below (rP HO193) hb); replace BK187 := bB BK187 hb; replace HB := bS HB hb; (try clear hb)) | ((with_reducible refine gate_dst (N := 8) rfl ?_); refine bE 8 #[.int .i64 0, .int .i64 0, .bool false] 23 ?_; intro gb202 hg w42 hbox hb; replace HO193 := Aside0.mk (Kd.R_below (rP HO193) hb); have BK202 := Aside0.mk (hbox); have GW202 := bG HB hg; have GE202 := bG HB hg; replace HB := bS HB hb; have NB187_202 := bL BK187 hg; have NB202_187 := bR BK187 hg; replace BK187 := bB BK187 hb; clear hb hbox hg; have hnb43 := NB202_187.out; have hnc43 := NB187_202.out; obtain ⟨hcz44_0, hcz44_1, hcz44_2, hfz44_0, hfz44_1, hfz44_2⟩ := bK3 (w := w42) BK202))
          repeat (go_quiet (first | ((with_reducible refine gate_dst (N := 15) rfl ?_); refine Kd.R_lit (Kd.int .u8) _ 5 ?hg (N := 15) ?hd (xs := ([(x3_1) % 256] : List Int)) (inner := [.int .u8 ((x3_1) % 256)]) (ok := fun _ => True) (okp := fun _ => True) ?hr ?hp (fun _ hk => hk) trivial (Below.refl _ _) (Nat.le_refl _) (by simp) ?_; (case hd => rfl); (case hg => rfl); (case hr => first | (go_simp; done) | (go_simp; rfl)); (case hp => exact (Reps.one (show Kd.M (Kd.int .u8) _ _ _ ((x3_1) % 256) [.int .u8 ((x3_1) % 256)] from rfl) (Reps.none _ _))); intro v192 w37 ho38 hb hg_ hnew_; clear hg_ hnew_; (first | rw [← Ny191.out] at ho38 | (simp only [Int.reduceToNat] at ho38; rw [← Ny191.out] at ho38)); have HO193 := Aside0.mk (Kd.R_lower ho38 (below_size (bZ HB))); replace BK187 := bB BK187 hb; replace HB := bS HB hb; clear hb ho38; have hcv39 := own_string (P := Tryd.prog) Tryd.underlying46 Tryd.underlying5 Tryd.underlying9 (Kd.own_of_R HO193.out)) | (go_at_call 41; (with_reducible refine (spec_Digest.calls ((strOfNums y191) ++ a0) t194 _ A5.out).mono ?_); rintro e w40 ⟨rfl, hb⟩; replace HO193 := Aside0.mk (Kd.R_below (rP HO193) hb); replace BK187 := bB BK187 hb; replace HB := bS HB hb; (try clear hb); have p7 : 0 ≤ (0 : Int) := (by omega); have q7 : 0 < t194.size := (by have : (0 : Int) < (t194.size : Int) := of_decide_eq_true (by first | (with_reducible assumption) | assumption); omega); have hx7 : ∀ h : 0 < t194.size, ((t194[0]'h).toNat : Int) = bt t194 0 := bt_at t194 0; clear p7; have qi7 : (0 < (t194.size : Int)) = True := eq_true (of_decide_eq_true (by first | (with_reducible assumption) | assumption)); replace q7 := eq_true q7; have p9 : 0 ≤ (1 : Int) := (by omega); have q9 : 1 < t194.size := (by have : (1 : Int) < (t194.size : Int) := of_decide_eq_true (by first | (with_reducible assumption) | assumption); omega); have hx9 : ∀ h : 1 < t194.size, ((t194[1]'h).toNat : Int) = bt t194 1 := bt_at t194 1; clear p9; have qi9 : (1 < (t194.size : Int)) = True := eq_true (of_decide_eq_true (by first | (with_reducible assumption) | assumption)); replace q9 := eq_true q9; have p11 : 0 ≤ (2 : Int) := (by omega); have q11 : 2 < t194.size := (by have : (2 : Int) < (t194.size : Int) := of_decide_eq_true (by first | (with_reducible assumption) | assumption); omega); have hx11 : ∀ h : 2 < t194.size, ((t194[2]'h).toNat : Int) = bt t194 2 := bt_at t194 2; clear p11; have qi11 : (2 < (t194.size : Int)) = True := eq_true (of_decide_eq_true (by first | (with_reducible assumption) | assumption)); replace q11 := eq_true q11; have p13 : 0 ≤ (3 : Int) := (by omega); have q13 : 3 < t194.size := (by have : (3 : Int) < (t194.size : Int) := of_decide_eq_true (by first | (with_reducible assumption) | assumption); omega); have hx13 : ∀ h : 3 < t194.size, ((t194[3]'h).toNat : Int) = bt t194 3 := bt_at t194 3; clear p13; have qi13 : (3 < (t194.size : Int)) = True := eq_true (of_decide_eq_true (by first | (with_reducible assumption) | assumption)); replace q13 := eq_true q13) | (go_at_call 42; (with_reducible refine (spec_FpOf.calls (Go.bits .or .i64 (Go.bits .or .i64 (Go.bits .or .i64 (wrap64 ((wrap64 (bt t194 0)) * 16777216)) (wrap64 ((wrap64 (bt t194 1)) * 65536))) (wrap64 ((wrap64 (bt t194 2)) * 256))) (wrap64 (bt t194 3))) t195 _ A14.out).mono ?_); rintro e w' ⟨rfl, ⟨nd, rfl⟩⟩; (try exact tD)) | (go_at_call 44; (with_reducible refine (spec_l07Right.calls t195 t196 _ A15.out).mono ?_); rintro e w' ⟨rfl, ⟨nd, rfl⟩⟩; (try exact tD)) | (go_at_call 43; (with_reducible refine (spec_FpRoot.calls k1 t196 t197 false _ A16.out).mono ?_); rintro e w' ⟨rfl, ⟨nd, rfl⟩⟩; (try exact tD)) | (go_at_call 45; (with_reducible refine (spec_PointTimes.calls k1 12 t195 t197 false t199 t200 t201 _ A17.out).mono ?_); rintro e w41 ⟨rfl, hb⟩; replace HO193 := Aside0.mk (Kd.R_below (rP HO193) hb); replace BK187 := bB BK187 hb; replace HB := bS HB hb; (try clear hb)) | ((with_reducible refine gate_dst (N := 8) rfl ?_); refine bE 8 #[.int .i64 0, .int .i64 0, .bool false] 23 ?_; intro gb202 hg w42 hbox hb; replace HO193 := Aside0.mk (Kd.R_below (rP HO193) hb); have BK202 := Aside0.mk (hbox); have GW202 := bG HB hg; have GE202 := bG HB hg; replace HB := bS HB hb; have NB187_202 := bL BK187 hg; have NB202_187 := bR BK187 hg; replace BK187 := bB BK187 hb; clear hb hbox hg; have hnb43 := NB202_187.out; have hnc43 := NB187_202.out; obtain ⟨hcz44_0, hcz44_1, hcz44_2, hfz44_0, hfz44_1, hfz44_2⟩ := bK3 (w := w42) BK202)); try go_wp2_with (first | ((with_reducible refine gate_dst (N := 15) rfl ?_); refine Kd.R_lit (Kd.int .u8) _ 5 ?hg (N := 15) ?hd (xs := ([(x3_1) % 256] : List Int)) (inner := [.int .u8 ((x3_1) % 256)]) (ok := fun _ => True) (okp := fun _ => True) ?hr ?hp (fun _ hk => hk) trivial (Below.refl _ _) (Nat.le_refl _) (by simp) ?_; (case hd => rfl); (case hg => rfl); (case hr => first | (go_simp; done) | (go_simp; rfl)); (case hp => exact (Reps.one (show Kd.M (Kd.int .u8) _ _ _ ((x3_1) % 256) [.int .u8 ((x3_1) % 256)] from rfl) (Reps.none _ _))); intro v192 w37 ho38 hb hg_ hnew_; clear hg_ hnew_; (first | rw [← Ny191.out] at ho38 | (simp only [Int.reduceToNat] at ho38; rw [← Ny191.out] at ho38)); have HO193 := Aside0.mk (Kd.R_lower ho38 (below_size (bZ HB))); replace BK187 := bB BK187 hb; replace HB := bS HB hb; clear hb ho38; have hcv39 := own_string (P := Tryd.prog) Tryd.underlying46 Tryd.underlying5 Tryd.underlying9 (Kd.own_of_R HO193.out)) | (go_at_call 41; (with_reducible refine (spec_Digest.calls ((strOfNums y191) ++ a0) t194 _ A5.out).mono ?_); rintro e w40 ⟨rfl, hb⟩; replace HO193 := Aside0.mk (Kd.R_below (rP HO193) hb); replace BK187 := bB BK187 hb; replace HB := bS HB hb; (try clear hb); have p7 : 0 ≤ (0 : Int) := (by omega); have q7 : 0 < t194.size := (by have : (0 : Int) < (t194.size : Int) := of_decide_eq_true (by first | (with_reducible assumption) | assumption); omega); have hx7 : ∀ h : 0 < t194.size, ((t194[0]'h).toNat : Int) = bt t194 0 := bt_at t194 0; clear p7; have qi7 : (0 < (t194.size : Int)) = True := eq_true (of_decide_eq_true (by first | (with_reducible assumption) | assumption)); replace q7 := eq_true q7; have p9 : 0 ≤ (1 : Int) := (by omega); have q9 : 1 < t194.size := (by have : (1 : Int) < (t194.size : Int) := of_decide_eq_true (by first | (with_reducible assumption) | assumption); omega); have hx9 : ∀ h : 1 < t194.size, ((t194[1]'h).toNat : Int) = bt t194 1 := bt_at t194 1; clear p9; have qi9 : (1 < (t194.size : Int)) = True := eq_true (of_decide_eq_true (by first | (with_reducible assumption) | assumption)); replace q9 := eq_true q9; have p11 : 0 ≤ (2 : Int) := (by omega); have q11 : 2 < t194.size := (by have : (2 : Int) < (t194.size : Int) := of_decide_eq_true (by first | (with_reducible assumption) | assumption); omega); have hx11 : ∀ h : 2 < t194.size, ((t194[2]'h).toNat : Int) = bt t194 2 := bt_at t194 2; clear p11; have qi11 : (2 < (t194.size : Int)) = True := eq_true (of_decide_eq_true (by first | (with_reducible assumption) | assumption)); replace q11 := eq_true q11; have p13 : 0 ≤ (3 : Int) := (by omega); have q13 : 3 < t194.size := (by have : (3 : Int) < (t194.size : Int) := of_decide_eq_true (by first | (with_reducible assumption) | assumption); omega); have hx13 : ∀ h : 3 < t194.size, ((t194[3]'h).toNat : Int) = bt t194 3 := bt_at t194 3; clear p13; have qi13 : (3 < (t194.size : Int)) = True := eq_true (of_decide_eq_true (by first | (with_reducible assumption) | assumption)); replace q13 := eq_true q13) | (go_at_call 42; (with_reducible refine (spec_FpOf.calls (Go.bits .or .i64 (Go.bits .or .i64 (Go.bits .or .i64 (wrap64 ((wrap64 (bt t194 0)) * 16777216)) (wrap64 ((wrap64 (bt t194 1)) * 65536))) (wrap64 ((wrap64 (bt t194 2)) * 256))) (wrap64 (bt t194 3))) t195 _ A14.out).mono ?_); rintro e w' ⟨rfl, ⟨nd, rfl⟩⟩; (try exact tD)) | (go_at_call 44; (with_reducible refine (spec_l07Right.calls t195 t196 _ A15.out).mono ?_); rintro e w' ⟨rfl, ⟨nd, rfl⟩⟩; (try exact tD)) | (go_at_call 43; (with_reducible refine (spec_FpRoot.calls k1 t196 t197 false _ A16.out).mono ?_); rintro e w' ⟨rfl, ⟨nd, rfl⟩⟩; (try exact tD)) | (go_at_call 45; (with_reducible refine (spec_PointTimes.calls k1 12 t195 t197 false t199 t200 t201 _ A17.out).mono ?_); rintro e w41 ⟨rfl, hb⟩; replace HO193 := Aside0.mk (Kd.R_below (rP HO193) hb); replace BK187 := bB BK187 hb; replace HB := bS HB hb; (try clear hb)) | ((with_reducible refine gate_dst (N := 8) rfl ?_); refine bE 8 #[.int .i64 0, .int .i64 0, .bool false] 23 ?_; intro gb202 hg w42 hbox hb; replace HO193 := Aside0.mk (Kd.R_below (rP HO193) hb); have BK202 := Aside0.mk (hbox); have GW202 := bG HB hg; have GE202 := bG HB hg; replace HB := bS HB hb; have NB187_202 := bL BK187 hg; have NB202_187 := bR BK187 hg; replace BK187 := bB BK187 hb; clear hb hbox hg; have hnb43 := NB202_187.out; have hnc43 := NB187_202.out; obtain ⟨hcz44_0, hcz44_1, hcz44_2, hfz44_0, hfz44_1, hfz44_2⟩ := bK3 (w := w42) BK202)))
          go_roundg k1
          case measure => have := HK1.out; omega
          case rel => exact ⟨(wrap64 (x3_1 + 1)), (x188000_1), (x188001_1), (x188002_1), rS, H', ⟨by have := HK1.out; omega⟩, ⟨bP BK187⟩, ⟨bZ HB⟩⟩
        ·rw [if_neg c12] at H
         exact absurd H (by simp)
       ·rw [if_neg c10] at H
        exact absurd H (by simp)
      ·rw [if_neg c8] at H
       exact absurd H (by simp)
     ·rw [if_neg c6] at H
      exact absurd H (by simp)
    ·rw [if_neg c4] at H
     exact absurd H (by simp)
   ·rw [if_neg c3] at H
    have c3b0 : decide (x3_1 < 64) = false := decide_eq_false c3
    clear c3
    replace H := Option.bind_eq_some_iff.mp H
    obtain ⟨⟨t188, t189, t190⟩, A450, H⟩ := H
    have A45 := Aside0.mk A450
    clear A450
    simp only [Option.some.injEq, Prod.mk.injEq] at H
    obtain ⟨rfl, rfl, rfl⟩ := H
    go_wp2_with (first | (go_at_call 46; (with_reducible refine (spec_Base.calls  t188 t189 t190 _ A45.out).mono ?_); rintro e w46 ⟨rfl, hb⟩; replace BK187 := bB BK187 hb; replace HB := bS HB hb; (try clear hb); obtain ⟨hcz47_0, hcz47_1, hcz47_2, hfz47_0, hfz47_1, hfz47_2⟩ := bK3 (w := w46) BK187))
    repeat (go_quiet (first | (go_at_call 46; (with_reducible refine (spec_Base.calls  t188 t189 t190 _ A45.out).mono ?_); rintro e w46 ⟨rfl, hb⟩; replace BK187 := bB BK187 hb; replace HB := bS HB hb; (try clear hb); obtain ⟨hcz47_0, hcz47_1, hcz47_2, hfz47_0, hfz47_1, hfz47_2⟩ := bK3 (w := w46) BK187)); try go_wp2_with (first | (go_at_call 46; (with_reducible refine (spec_Base.calls  t188 t189 t190 _ A45.out).mono ?_); rintro e w46 ⟨rfl, hb⟩; replace BK187 := bB BK187 hb; replace HB := bS HB hb; (try clear hb); obtain ⟨hcz47_0, hcz47_1, hcz47_2, hfz47_0, hfz47_1, hfz47_2⟩ := bK3 (w := w46) BK187)))
    refine rC gb187 23 #[.int .i64 t188, .int .i64 t189, .bool t190] (bU BK187) Tryd.underlying23 ?_
    exact ⟨rR, bZ HB⟩
/-! ### spec_InGroup: function 65 -/
def spec_InGroup.f (k : Nat) (a0_0 : Int) (a0_1 : Int) (a0_2 : Bool) : Option (Bool) := (spec_PointOk.f a0_0 a0_1 a0_2).bind fun t377 => (if t377 = true then ((spec_PointTimes.f k 1009 a0_0 a0_1 a0_2).bind fun bt378 => (some bt378.2.2)) else (some false))
theorem spec_InGroup.mono : ∀ a0 a1 a2 k, LeO (spec_InGroup.f k a0 a1 a2) (spec_InGroup.f (k + 1) a0 a1 a2) := by
 intro a0 a1 a2 k
 unfold spec_InGroup.f
 repeat' first
   | (with_reducible exact spec_PointTimes.mono _ _ _ _ _)
   | (with_reducible exact LeO.refl _)
   | (with_reducible exact LeO.none _)
   | (with_reducible refine LeO.ite ?_ ?_)
   | (with_reducible refine LeO.bind ?_ (fun _ => ?_))
   | exact spec_PointTimes.mono _ _ _ _ _
   | exact LeO.none _
   | refine LeO.ite ?_ ?_
   | refine LeO.bind ?_ (fun _ => ?_)
set_option maxHeartbeats 8000000 in
set_option maxRecDepth 100000 in
theorem spec_InGroup.calls (k : Nat) (a0_0 : Int) (a0_1 : Int) (a0_2 : Bool) (r : Bool) (w : World) (h : spec_InGroup.f k a0_0 a0_1 a0_2 = some r) :
  Calls Tryd.prog 65 #[.agg #[.int .i64 a0_0, .int .i64 a0_1, .bool a0_2]] w fun e w' => e = .returned (.bool r) ∧ Below w.heap.size w w' := by
 have hu23 := Tryd.underlying23
 have hfd23_0 : ∀ (x0 : Int) (x1 : Int) (x2 : Bool) (w_ : World), (Instr.field 23 (.agg #[.int .i64 x0, .int .i64 x1, .bool x2]) 0).run Tryd.prog w_ = .ok (.int .i64 x0) w_ := fun _ _ _ _ => by kernel_rfl
 have hfd23_1 : ∀ (x0 : Int) (x1 : Int) (x2 : Bool) (w_ : World), (Instr.field 23 (.agg #[.int .i64 x0, .int .i64 x1, .bool x2]) 1).run Tryd.prog w_ = .ok (.int .i64 x1) w_ := fun _ _ _ _ => by kernel_rfl
 have hfd23_2 : ∀ (x0 : Int) (x1 : Int) (x2 : Bool) (w_ : World), (Instr.field 23 (.agg #[.int .i64 x0, .int .i64 x1, .bool x2]) 2).run Tryd.prog w_ = .ok (.bool x2) w_ := fun _ _ _ _ => by kernel_rfl
 have HB := Aside0.mk (Below.refl w.heap.size w)
 have H : ((spec_PointOk.f a0_0 a0_1 a0_2).bind fun t377 => (if t377 = true then ((spec_PointTimes.f k 1009 a0_0 a0_1 a0_2).bind fun bt378 => (some bt378.2.2)) else (some false))) = some r := h
 clear h
 replace H := Option.bind_eq_some_iff.mp H
 obtain ⟨t377, A20, H⟩ := H
 have A2 := Aside0.mk A20
 clear A20
 by_cases c3 : t377 = true
 ·subst c3
  rw [if_pos rfl] at H
  replace H := Option.bind_eq_some_iff.mp H
  obtain ⟨⟨t378, t379, t380⟩, A40, H⟩ := H
  have A4 := Aside0.mk A40
  clear A40
  obtain rfl := Option.some.inj H
  go_enter Tryd.func65, Tryd.ntmps65
  go_wp2_with (first | ((with_reducible refine gate_dst (N := 1) rfl ?_); refine bE 1 #[.int .i64 a0_0, .int .i64 a0_1, .bool a0_2] 23 ?_; intro gb376 hg w5 hbox hb; have BK376 := Aside0.mk (hbox); have GW376 := bG HB hg; have GE376 := bG HB hg; replace HB := bS HB hb; clear hb hbox hg; obtain ⟨hcz6_0, hcz6_1, hcz6_2, hfz6_0, hfz6_1, hfz6_2⟩ := bK3 (w := w5) BK376) | ((with_reducible refine gate_callee (f := 87) rfl ?_); refine gL (some 4) Tryd.func87 #[.agg #[.int .i64 a0_0, .int .i64 a0_1, .bool a0_2]] ?_; (with_reducible refine (spec_PointOk.calls a0_0 a0_1 a0_2 true _ A2.out).mono ?_); rintro e w7 ⟨rfl, hb⟩; refine ⟨_, rfl, ?_⟩; replace BK376 := bB BK376 hb; replace HB := bS HB hb; (try clear hb); obtain ⟨hcz8_0, hcz8_1, hcz8_2, hfz8_0, hfz8_1, hfz8_2⟩ := bK3 (w := w7) BK376) | (go_at_call 45; (with_reducible refine (spec_PointTimes.calls k 1009 a0_0 a0_1 a0_2 t378 t379 t380 _ A4.out).mono ?_); rintro e w9 ⟨rfl, hb⟩; replace BK376 := bB BK376 hb; replace HB := bS HB hb; (try clear hb)))
  go_ret
  exact ⟨rR, bZ HB⟩
 ·replace c3 := Bool.eq_false_iff.mpr c3
  subst c3
  rw [if_neg (show ¬ (false = true) by decide)] at H
  obtain rfl := Option.some.inj H
  go_enter Tryd.func65, Tryd.ntmps65
  go_wp2_with (first | ((with_reducible refine gate_dst (N := 1) rfl ?_); refine bE 1 #[.int .i64 a0_0, .int .i64 a0_1, .bool a0_2] 23 ?_; intro gb376 hg w10 hbox hb; have BK376 := Aside0.mk (hbox); have GW376 := bG HB hg; have GE376 := bG HB hg; replace HB := bS HB hb; clear hb hbox hg; obtain ⟨hcz11_0, hcz11_1, hcz11_2, hfz11_0, hfz11_1, hfz11_2⟩ := bK3 (w := w10) BK376) | ((with_reducible refine gate_callee (f := 87) rfl ?_); refine gL (some 4) Tryd.func87 #[.agg #[.int .i64 a0_0, .int .i64 a0_1, .bool a0_2]] ?_; (with_reducible refine (spec_PointOk.calls a0_0 a0_1 a0_2 false _ A2.out).mono ?_); rintro e w12 ⟨rfl, hb⟩; refine ⟨_, rfl, ?_⟩; replace BK376 := bB BK376 hb; replace HB := bS HB hb; (try clear hb)))
  go_ret
  exact ⟨rR, bZ HB⟩
/-! ### spec_TwoMul: function 104 -/
def spec_TwoMul.f (a0_0 : Int) (a0_1 : Int) (a1_0 : Int) (a1_1 : Int) : Option (Int × Int) := (spec_FpMul.f a0_0 a1_0).bind fun t506 => ((spec_FpMul.f a0_1 a1_1).bind fun t507 => ((spec_FpSub.f t506 t507).bind fun t508 => ((spec_FpMul.f a0_0 a1_1).bind fun t509 => ((spec_FpMul.f a0_1 a1_0).bind fun t510 => ((spec_FpAdd.f t509 t510).bind fun t511 => (some (t508, t511)))))))
def spec_TwoMul.T1 : Bool × List (List Nat × List Nat) := (true, [([], []), ([0], [0]), ([], []), ([2], [2]), ([1, 3], [1, 3]), ([], []), ([5], [5]), ([], []), ([7], [7]), ([6, 8, 4], [6, 8]), ([4, 9, 9], [4, 9]), ([], []), ([11], [11]), ([], []), ([13], [13]), ([12, 14, 10], [12, 14]), ([], []), ([16], [16]), ([], []), ([18], [18]), ([17, 19, 15], [17, 19]), ([15, 20, 20], [15, 20]), ([10, 21], [10, 21]), ([22, 21, 0, 1, 2, 3, 4, 5, 6, 7, 8, 9, 10, 11, 12, 13, 14, 15, 16, 17, 18, 19, 20, 21, 22], [22])])
def spec_TwoMul.B1 : List Nat := [0, 1, 0, 4, 15, 0, 32, 0, 128, 511, 1023, 0, 2048, 0, 8192, 32767, 0, 65536, 0, 262144, 1048575, 2097151, 4194303, 8388607]
theorem spec_TwoMul.tab1 : rtab .any (opsOf Tryd.f104 1) = spec_TwoMul.T1 := by kernel_rfl
theorem spec_TwoMul.bits1 : waitsOk spec_TwoMul.T1.2 spec_TwoMul.B1 = true := by kernel_rfl
set_option maxHeartbeats 8000000 in
set_option maxRecDepth 100000 in
theorem spec_TwoMul.calls (a0_0 : Int) (a0_1 : Int) (a1_0 : Int) (a1_1 : Int) (r1 : Int) (r2 : Int) (w : World) (h : spec_TwoMul.f a0_0 a0_1 a1_0 a1_1 = some (r1, r2)) :
  Calls Tryd.prog 104 #[.agg #[.int .i64 a0_0, .int .i64 a0_1], .agg #[.int .i64 a1_0, .int .i64 a1_1]] w fun e w' => e = .returned (.agg #[.int .i64 r1, .int .i64 r2]) ∧ Below w.heap.size w w' := by
 have hu80 := Tryd.underlying80
 have HB := Aside0.mk (Below.refl w.heap.size w)
 have H : ((spec_FpMul.f a0_0 a1_0).bind fun t506 => ((spec_FpMul.f a0_1 a1_1).bind fun t507 => ((spec_FpSub.f t506 t507).bind fun t508 => ((spec_FpMul.f a0_0 a1_1).bind fun t509 => ((spec_FpMul.f a0_1 a1_0).bind fun t510 => ((spec_FpAdd.f t509 t510).bind fun t511 => (some (t508, t511)))))))) = some (r1, r2) := h
 clear h
 replace H := Option.bind_eq_some_iff.mp H
 obtain ⟨t506, A30, H⟩ := H
 have A3 := Aside0.mk A30
 clear A30
 replace H := Option.bind_eq_some_iff.mp H
 obtain ⟨t507, A40, H⟩ := H
 have A4 := Aside0.mk A40
 clear A40
 replace H := Option.bind_eq_some_iff.mp H
 obtain ⟨t508, A50, H⟩ := H
 have A5 := Aside0.mk A50
 clear A50
 replace H := Option.bind_eq_some_iff.mp H
 obtain ⟨t509, A60, H⟩ := H
 have A6 := Aside0.mk A60
 clear A60
 replace H := Option.bind_eq_some_iff.mp H
 obtain ⟨t510, A70, H⟩ := H
 have A7 := Aside0.mk A70
 clear A70
 replace H := Option.bind_eq_some_iff.mp H
 obtain ⟨t511, A80, H⟩ := H
 have A8 := Aside0.mk A80
 clear A80
 simp only [Option.some.injEq, Prod.mk.injEq] at H
 obtain ⟨rfl, rfl⟩ := H
 go_enter Tryd.func104, Tryd.ntmps104
 try go_wp2_with (first | ((with_reducible refine gate_dst (N := 2) rfl ?_); refine bE 2 #[.int .i64 a0_0, .int .i64 a0_1] 80 ?_; intro gb503 hg w9 hbox hb; have BK503 := Aside0.mk (hbox); have GW503 := bG HB hg; have GE503 := bG HB hg; replace HB := bS HB hb; clear hb hbox hg) | ((with_reducible refine gate_dst (N := 3) rfl ?_); refine bE 3 #[.int .i64 a1_0, .int .i64 a1_1] 80 ?_; intro gb504 hg w10 hbox hb; have BK504 := Aside0.mk (hbox); have GW504 := bG HB hg; have GE504 := bG HB hg; replace HB := bS HB hb; have NB503_504 := bL BK503 hg; have NB504_503 := bR BK503 hg; replace BK503 := bB BK503 hb; clear hb hbox hg) | ((with_reducible refine gate_dst (N := 4) rfl ?_); refine bE 4 #[.int .i64 0, .int .i64 0] 80 ?_; intro gb505 hg w11 hbox hb; have BK505 := Aside0.mk (hbox); have GW505 := bG HB hg; have GE505 := bG HB hg; replace HB := bS HB hb; have NB503_505 := bL BK503 hg; have NB505_503 := bR BK503 hg; replace BK503 := bB BK503 hb; have NB504_505 := bL BK504 hg; have NB505_504 := bR BK504 hg; replace BK504 := bB BK504 hb; clear hb hbox hg))
 replace BK503 := Aside0.mk (blk_drew BK503.out)
 replace BK504 := Aside0.mk (blk_drew BK504.out)
 replace BK505 := Aside0.mk (blk_drew BK505.out)
 replace HB := Aside0.mk (below_drew1 HB.out)
 refine start_ (n := 24) (S := fun w' => w'.cell? ⟨gb503, 0, none⟩ = some (.int .i64 a0_0) ∧ w'.cell? ⟨gb503, 1, none⟩ = some (.int .i64 a0_1) ∧ w'.cell? ⟨gb504, 0, none⟩ = some (.int .i64 a1_0) ∧ w'.cell? ⟨gb504, 1, none⟩ = some (.int .i64 a1_1)) (ds := []) #[false, false, false, false, false, false, false, false, false, false, false, false, false, false, false, false, false, false, false, false, false, false, false, false] (by kernel_rfl) rfl rfl ⟨bc BK503 0, bc BK503 1, bc BK504 0, bc BK504 1⟩ (fun hHeld => ?_); refine with_tabW spec_TwoMul.tab1 spec_TwoMul.bits1 (fun HT_ HW_ => ?_)
 generalize w11.drew = w12 at BK503 BK504 BK505 HB hHeld ⊢
 refine pI 0 (some 5) HT_.out ?_
 refine pI 2 (some 7) HT_.out ?_
 refine pI 5 (some 10) HT_.out ?_
 refine pI 7 (some 12) HT_.out ?_
 refine pI 11 (some 16) HT_.out ?_
 refine pI 13 (some 18) HT_.out ?_
 refine pI 16 (some 21) HT_.out ?_
 refine pI 18 (some 23) HT_.out ?_
 refine tI4 1 (some 6) HT_.out HW_.out hHeld ?_
 refine tI4 3 (some 8) HT_.out HW_.out hHeld ?_
 refine tI4 6 (some 11) HT_.out HW_.out hHeld ?_
 refine tI4 8 (some 13) HT_.out HW_.out hHeld ?_
 refine tI4 12 (some 17) HT_.out HW_.out hHeld ?_
 refine tI4 14 (some 19) HT_.out HW_.out hHeld ?_
 refine tI4 17 (some 22) HT_.out HW_.out hHeld ?_
 refine tI4 19 (some 24) HT_.out HW_.out hHeld ?_
 refine oI 4 (some 9) HT_.out (fun K hK => ?_)
 refine gO Tryd.func84 #[.int .i64 a0_0, .int .i64 a1_0] ?_
 with_reducible refine (spec_FpMul.calls a0_0 a1_0 t506 _ A3.out).mono ?_
 rintro e w' ⟨rfl, ⟨nd, rfl⟩⟩
 refine ⟨_, rfl, ?_⟩
 refine hK.out _ _ ⟨bc BK503 0, bc BK503 1, bc BK504 0, bc BK504 1⟩ (fun hHeld => ?_)
 clear hK K
 refine nO (some 9) ?_
 refine oI 9 (some 14) HT_.out (fun K hK => ?_)
 refine gO Tryd.func84 #[.int .i64 a0_1, .int .i64 a1_1] ?_
 with_reducible refine (spec_FpMul.calls a0_1 a1_1 t507 _ A4.out).mono ?_
 rintro e w' ⟨rfl, ⟨nd, rfl⟩⟩
 refine ⟨_, rfl, ?_⟩
 refine hK.out _ _ ⟨bc BK503 0, bc BK503 1, bc BK504 0, bc BK504 1⟩ (fun hHeld => ?_)
 clear hK K
 refine nO (some 14) ?_
 refine oI 10 (some 15) HT_.out (fun K hK => ?_)
 refine gO Tryd.func85 #[.int .i64 t506, .int .i64 t507] ?_
 with_reducible refine (spec_FpSub.calls t506 t507 t508 _ A5.out).mono ?_
 rintro e w' ⟨rfl, ⟨nd, rfl⟩⟩
 refine ⟨_, rfl, ?_⟩
 refine hK.out _ _ ⟨bc BK503 0, bc BK503 1, bc BK504 0, bc BK504 1⟩ (fun hHeld => ?_)
 clear hK K
 refine nO (some 15) ?_
 refine oI 15 (some 20) HT_.out (fun K hK => ?_)
 refine gO Tryd.func84 #[.int .i64 a0_0, .int .i64 a1_1] ?_
 with_reducible refine (spec_FpMul.calls a0_0 a1_1 t509 _ A6.out).mono ?_
 rintro e w' ⟨rfl, ⟨nd, rfl⟩⟩
 refine ⟨_, rfl, ?_⟩
 refine hK.out _ _ ⟨bc BK503 0, bc BK503 1, bc BK504 0, bc BK504 1⟩ (fun hHeld => ?_)
 clear hK K
 refine nO (some 20) ?_
 refine oI 20 (some 25) HT_.out (fun K hK => ?_)
 refine gO Tryd.func84 #[.int .i64 a0_1, .int .i64 a1_0] ?_
 with_reducible refine (spec_FpMul.calls a0_1 a1_0 t510 _ A7.out).mono ?_
 rintro e w' ⟨rfl, ⟨nd, rfl⟩⟩
 refine ⟨_, rfl, ?_⟩
 refine hK.out _ _ ⟨bc BK503 0, bc BK503 1, bc BK504 0, bc BK504 1⟩ (fun hHeld => ?_)
 clear hK K
 refine nO (some 25) ?_
 refine oI 21 (some 26) HT_.out (fun K hK => ?_)
 refine gO Tryd.func86 #[.int .i64 t509, .int .i64 t510] ?_
 with_reducible refine (spec_FpAdd.calls t509 t510 t511 _ A8.out).mono ?_
 rintro e w' ⟨rfl, ⟨nd, rfl⟩⟩
 refine ⟨_, rfl, ?_⟩
 refine hK.out _ _ ⟨bc BK503 0, bc BK503 1, bc BK504 0, bc BK504 1⟩ (fun hHeld => ?_)
 clear hK K
 refine nO (some 26) ?_
 refine pI 22 (some 27) HT_.out ?_
 refine oI 23 (none) HT_.out (fun K hK => ?_)
 have hs13 : w12.cell? ⟨gb505, 0, none⟩ = some (.int .i64 0) := bc BK505 0
 have hfs13 := blk_frozen BK505.out 0
 have hns13_0 := NB503_505.out
 have hns13_1 := NB504_505.out
 have hms13_0 := NB505_503.out
 have hms13_1 := NB505_504.out
 have hs14 : w12.cell? ⟨gb505, 1, none⟩ = some (.int .i64 0) := bc BK505 1
 have hfs14 := blk_frozen BK505.out 1
 have hns14_0 := NB503_505.out
 have hns14_1 := NB504_505.out
 have hms14_0 := NB505_503.out
 have hms14_1 := NB505_504.out
 refine skip_ (w1 := ?_) (by rfl) rfl ?_ ?_
 rotate_left
 ·go_simp
  rfl
 refine hK.out _ _ ⟨((cell_far (p := ⟨gb505, _, none⟩) NB503_505.out _).trans (((cell_far (p := ⟨gb505, _, none⟩) NB503_505.out _).trans (hHeld.1)))), ((cell_far (p := ⟨gb505, _, none⟩) NB503_505.out _).trans (((cell_far (p := ⟨gb505, _, none⟩) NB503_505.out _).trans (hHeld.2.1)))), ((cell_far (p := ⟨gb505, _, none⟩) NB504_505.out _).trans (((cell_far (p := ⟨gb505, _, none⟩) NB504_505.out _).trans (hHeld.2.2.1)))), ((cell_far (p := ⟨gb505, _, none⟩) NB504_505.out _).trans (((cell_far (p := ⟨gb505, _, none⟩) NB504_505.out _).trans (hHeld.2.2.2))))⟩ (fun hHeld => ?_)
 clear hK K
 refine done_ (done_of HT_.out (by kernel_rfl)) ?_
 try go_wp2
 refine rC gb505 80 #[.int .i64 t508, .int .i64 t511] (bU BK505) Tryd.underlying80 ?_
 exact ⟨rR, bZ HB⟩
/-! ### spec_PointAdd: function 115 -/
def spec_PointAdd.j0 : Nat → Bool → Int → Int → Bool → Int → Int → Bool → Option (Int × Int × Bool)
 | 0, _, _, _, _, _, _, _ => none
 | k + 1, x12, x513000, x513001, x513002, x514000, x514001, x514002 => if x12 = true then ((spec_l07Zero.f).bind fun bt517 => (some (bt517.1, bt517.2.1, bt517.2.2))) else ((spec_l07Add.f k x513000 x513001 x513002 x514000 x514001 x514002).bind fun bt520 => (some (bt520.1, bt520.2.1, bt520.2.2)))
def spec_PointAdd.f (k : Nat) (a0_0 : Int) (a0_1 : Int) (a0_2 : Bool) (a1_0 : Int) (a1_1 : Int) (a1_2 : Bool) : Option (Int × Int × Bool) := (spec_PointOk.f a0_0 a0_1 a0_2).bind fun t515 => (if t515 = true then ((spec_PointOk.f a1_0 a1_1 a1_2).bind fun t516 => (spec_PointAdd.j0 k (!t516) a0_0 a0_1 a0_2 a1_0 a1_1 a1_2)) else (spec_PointAdd.j0 k true a0_0 a0_1 a0_2 a1_0 a1_1 a1_2))
theorem spec_PointAdd.mono_l : ∀ k, (∀ y0 y1 y2 y3 y4 y5 y6, LeO (spec_PointAdd.j0 k y0 y1 y2 y3 y4 y5 y6) (spec_PointAdd.j0 (k + 1) y0 y1 y2 y3 y4 y5 y6))
 | 0 => fun _ _ _ _ _ _ _ r h => by simp [spec_PointAdd.j0] at h
 | k + 1 => by
  have ih0 := spec_PointAdd.mono_l k
  ·intro y0 y1 y2 y3 y4 y5 y6
   unfold spec_PointAdd.j0
   repeat' first
   | (with_reducible exact ih0 _ _ _ _ _ _ _)
   | (with_reducible exact spec_l07Add.mono _ _ _ _ _ _ _)
   | (with_reducible exact LeO.refl _)
   | (with_reducible exact LeO.none _)
   | (with_reducible refine LeO.ite ?_ ?_)
   | (with_reducible refine LeO.bind ?_ (fun _ => ?_))
   | exact ih0 _ _ _ _ _ _ _
   | exact spec_l07Add.mono _ _ _ _ _ _ _
   | exact LeO.none _
   | refine LeO.ite ?_ ?_
   | refine LeO.bind ?_ (fun _ => ?_)
theorem spec_PointAdd.mono : ∀ a0 a1 a2 a3 a4 a5 k, LeO (spec_PointAdd.f k a0 a1 a2 a3 a4 a5) (spec_PointAdd.f (k + 1) a0 a1 a2 a3 a4 a5) := by
 intro a0 a1 a2 a3 a4 a5 k
 have ih0 := spec_PointAdd.mono_l k
 unfold spec_PointAdd.f
 repeat' first
   | (with_reducible exact ih0 _ _ _ _ _ _ _)
   | (with_reducible exact spec_l07Add.mono _ _ _ _ _ _ _)
   | (with_reducible exact LeO.refl _)
   | (with_reducible exact LeO.none _)
   | (with_reducible refine LeO.ite ?_ ?_)
   | (with_reducible refine LeO.bind ?_ (fun _ => ?_))
   | exact ih0 _ _ _ _ _ _ _
   | exact spec_l07Add.mono _ _ _ _ _ _ _
   | exact LeO.none _
   | refine LeO.ite ?_ ?_
   | refine LeO.bind ?_ (fun _ => ?_)
set_option maxHeartbeats 8000000 in
set_option maxRecDepth 100000 in
theorem spec_PointAdd.calls (k : Nat) (a0_0 : Int) (a0_1 : Int) (a0_2 : Bool) (a1_0 : Int) (a1_1 : Int) (a1_2 : Bool) (r1 : Int) (r2 : Int) (r3 : Bool) (w : World) (h : spec_PointAdd.f k a0_0 a0_1 a0_2 a1_0 a1_1 a1_2 = some (r1, r2, r3)) :
  Calls Tryd.prog 115 #[.agg #[.int .i64 a0_0, .int .i64 a0_1, .bool a0_2], .agg #[.int .i64 a1_0, .int .i64 a1_1, .bool a1_2]] w fun e w' => e = .returned (.agg #[.int .i64 r1, .int .i64 r2, .bool r3]) ∧ Below w.heap.size w w' := by
 have hu23 := Tryd.underlying23
 have HB := Aside0.mk (Below.refl w.heap.size w)
 have H : ((spec_PointOk.f a0_0 a0_1 a0_2).bind fun t515 => (if t515 = true then ((spec_PointOk.f a1_0 a1_1 a1_2).bind fun t516 => (spec_PointAdd.j0 k (!t516) a0_0 a0_1 a0_2 a1_0 a1_1 a1_2)) else (spec_PointAdd.j0 k true a0_0 a0_1 a0_2 a1_0 a1_1 a1_2))) = some (r1, r2, r3) := h
 clear h
 have HC3 := Aside0.mk H
 clear H
 go_enter Tryd.func115, Tryd.ntmps115
 go_upto_region 1 with (first | ((with_reducible refine gate_dst (N := 2) rfl ?_); refine bE 2 #[.int .i64 a0_0, .int .i64 a0_1, .bool a0_2] 23 ?_; intro gb512 hg w4 hbox hb; have BK512 := Aside0.mk (hbox); have GW512 := bG HB hg; have GE512 := bG HB hg; replace HB := bS HB hb; clear hb hbox hg) | ((with_reducible refine gate_dst (N := 3) rfl ?_); refine bE 3 #[.int .i64 a1_0, .int .i64 a1_1, .bool a1_2] 23 ?_; intro gb513 hg w5 hbox hb; have BK513 := Aside0.mk (hbox); have GW513 := bG HB hg; have GE513 := bG HB hg; replace HB := bS HB hb; have NB512_513 := bL BK512 hg; have NB513_512 := bR BK512 hg; replace BK512 := bB BK512 hb; clear hb hbox hg) | ((with_reducible refine gate_dst (N := 4) rfl ?_); refine bE 4 #[.int .i64 0, .int .i64 0, .bool false] 23 ?_; intro gb514 hg w6 hbox hb; have BK514 := Aside0.mk (hbox); have GW514 := bG HB hg; have GE514 := bG HB hg; replace HB := bS HB hb; have NB512_514 := bL BK512 hg; have NB514_512 := bR BK512 hg; replace BK512 := bB BK512 hb; have NB513_514 := bL BK513 hg; have NB514_513 := bR BK513 hg; replace BK513 := bB BK513 hb; clear hb hbox hg))
 (try simp only [Act.put, List.setIfInBounds_toArray, List.set_cons_zero, List.set_cons_succ])
 go_cut [12] (fun v12 wc => ∃ (kq : Nat) (x12_2 : Bool), v12 = .bool x12_2 ∧ Aside0 (spec_PointAdd.j0 kq x12_2 a0_0 a0_1 a0_2 a1_0 a1_1 a1_2 = some (r1, r2, r3)) ∧ Aside0 (kq ≤ k) ∧ Aside0 (wc.heap[gb512]? = some (.cells #[.int .i64 a0_0, .int .i64 a0_1, .bool a0_2] 23 (0, 0))) ∧ Aside0 (wc.heap[gb513]? = some (.cells #[.int .i64 a1_0, .int .i64 a1_1, .bool a1_2] 23 (0, 0))) ∧ Aside0 (wc.heap[gb514]? = some (.cells #[.int .i64 0, .int .i64 0, .bool false] 23 (0, 0))) ∧ Aside0 (Below w.heap.size w wc))
 case first =>
  have H := HC3.out
  clear HC3
  replace H := Option.bind_eq_some_iff.mp H
  obtain ⟨t515, A70, H⟩ := H
  have A7 := Aside0.mk A70
  clear A70
  by_cases c8 : t515 = true
  ·subst c8
   rw [if_pos rfl] at H
   replace H := Option.bind_eq_some_iff.mp H
   obtain ⟨t516, A90, H⟩ := H
   have A9 := Aside0.mk A90
   clear A90
   have H' := Aside0.mk H
   clear H
   have hnb10 := NB512_513.out
   have hnc10 := NB513_512.out
   have hnb11 := NB512_514.out
   have hnc11 := NB514_512.out
   obtain ⟨hcz12_0, hcz12_1, hcz12_2, hfz12_0, hfz12_1, hfz12_2⟩ := bK3 (w := w6) BK512
   go_wp2_with (first | ((with_reducible refine gate_callee (f := 87) rfl ?_); refine gL (some 6) Tryd.func87 #[.agg #[.int .i64 a0_0, .int .i64 a0_1, .bool a0_2]] ?_; (with_reducible refine (spec_PointOk.calls a0_0 a0_1 a0_2 true _ A7.out).mono ?_); rintro e w13 ⟨rfl, hb⟩; refine ⟨_, rfl, ?_⟩; replace BK512 := bB BK512 hb; replace BK513 := bB BK513 hb; replace BK514 := bB BK514 hb; replace HB := bS HB hb; (try clear hb); have hnb14 := NB513_514.out; have hnc14 := NB514_513.out; obtain ⟨hcz15_0, hcz15_1, hcz15_2, hfz15_0, hfz15_1, hfz15_2⟩ := bK3 (w := w13) BK513) | (go_at_call 87; (with_reducible refine (spec_PointOk.calls a1_0 a1_1 a1_2 t516 _ A9.out).mono ?_); rintro e w16 ⟨rfl, hb⟩; replace BK512 := bB BK512 hb; replace BK513 := bB BK513 hb; replace BK514 := bB BK514 hb; replace HB := bS HB hb; (try clear hb)))
   go_meet
   case rel => exact ⟨_, (!t516), rS, H', ⟨by first | omega | exact Nat.le_refl _⟩, ⟨bP BK512⟩, ⟨bP BK513⟩, ⟨bP BK514⟩, ⟨bZ HB⟩⟩
  ·replace c8 := Bool.eq_false_iff.mpr c8
   subst c8
   rw [if_neg (show ¬ (false = true) by decide)] at H
   have H' := Aside0.mk H
   clear H
   have hnb17 := NB512_513.out
   have hnc17 := NB513_512.out
   have hnb18 := NB512_514.out
   have hnc18 := NB514_512.out
   obtain ⟨hcz19_0, hcz19_1, hcz19_2, hfz19_0, hfz19_1, hfz19_2⟩ := bK3 (w := w6) BK512
   go_wp2_with (first | ((with_reducible refine gate_callee (f := 87) rfl ?_); refine gL (some 6) Tryd.func87 #[.agg #[.int .i64 a0_0, .int .i64 a0_1, .bool a0_2]] ?_; (with_reducible refine (spec_PointOk.calls a0_0 a0_1 a0_2 false _ A7.out).mono ?_); rintro e w20 ⟨rfl, hb⟩; refine ⟨_, rfl, ?_⟩; replace BK512 := bB BK512 hb; replace BK513 := bB BK513 hb; replace BK514 := bB BK514 hb; replace HB := bS HB hb; (try clear hb)))
   go_meet
   case rel => exact ⟨_, (true), rS, H', ⟨by first | omega | exact Nat.le_refl _⟩, ⟨bP BK512⟩, ⟨bP BK513⟩, ⟨bP BK514⟩, ⟨bZ HB⟩⟩
 case rest =>
  clear HC3
  try clear c1
  try clear p2
  try clear c8
  try clear c10
  try clear c11
  try clear c14
  try clear c17
  try clear c18
  try clear hcz12_0
  try clear hcz12_1
  try clear hcz12_2
  try clear hcz15_0
  try clear hcz15_1
  try clear hcz15_2
  try clear hcz19_0
  try clear hcz19_1
  try clear hcz19_2
  try clear hfz12_0
  try clear hfz12_1
  try clear hfz12_2
  try clear hfz15_0
  try clear hfz15_1
  try clear hfz15_2
  try clear hfz19_0
  try clear hfz19_1
  try clear hfz19_2
  obtain ⟨kq, x12_2, rfl, HA, HJ2, BK512, BK513, BK514, HB⟩ := hcut
  cases kq with
  | zero => exact absurd HA.out (by simp [spec_PointAdd.j0])
  | succ kj2 =>
   have H := HA.out
   clear HA
   simp only [spec_PointAdd.j0] at H
   by_cases c21 : x12_2 = true
   ·subst c21
    rw [if_pos rfl] at H
    replace H := Option.bind_eq_some_iff.mp H
    obtain ⟨⟨t517, t518, t519⟩, A220, H⟩ := H
    have A22 := Aside0.mk A220
    clear A220
    simp only [Option.some.injEq, Prod.mk.injEq] at H
    obtain ⟨rfl, rfl, rfl⟩ := H
    go_wp2_with (first | ((with_reducible refine gate_callee (f := 56) rfl ?_); refine gL (some 13) Tryd.func56 #[] ?_; (with_reducible refine (spec_l07Zero.calls  t517 t518 t519 _ A22.out).mono ?_); rintro e w23 ⟨rfl, hb⟩; refine ⟨_, rfl, ?_⟩; replace BK512 := bB BK512 hb; replace BK513 := bB BK513 hb; replace BK514 := bB BK514 hb; replace HB := bS HB hb; (try clear hb); have hnb24 := NB514_512.out; have hnc24 := NB512_514.out; have hnb25 := NB514_513.out; have hnc25 := NB513_514.out; obtain ⟨hcz26_0, hcz26_1, hcz26_2, hfz26_0, hfz26_1, hfz26_2⟩ := bK3 (w := w23) BK514))
    refine rC gb514 23 #[.int .i64 t517, .int .i64 t518, .bool t519] (bU BK514) Tryd.underlying23 ?_
    exact ⟨rR, bZ HB⟩
   ·replace c21 := Bool.eq_false_iff.mpr c21
    subst c21
    rw [if_neg (show ¬ (false = true) by decide)] at H
    replace H := Option.bind_eq_some_iff.mp H
    obtain ⟨⟨t520, t521, t522⟩, A270, H⟩ := H
    have A27 := Aside0.mk A270
    clear A270
    simp only [Option.some.injEq, Prod.mk.injEq] at H
    obtain ⟨rfl, rfl, rfl⟩ := H
    have hnb28 := NB512_513.out
    have hnc28 := NB513_512.out
    have hnb29 := NB512_514.out
    have hnc29 := NB514_512.out
    obtain ⟨hcz30_0, hcz30_1, hcz30_2, hfz30_0, hfz30_1, hfz30_2⟩ := bK3 (w := wc) BK512
    have hnb31 := NB513_514.out
    have hnc31 := NB514_513.out
    obtain ⟨hcz32_0, hcz32_1, hcz32_2, hfz32_0, hfz32_1, hfz32_2⟩ := bK3 (w := wc) BK513
    go_wp2_with (first | ((with_reducible refine gate_callee (f := 89) rfl ?_); refine gL (some 16) Tryd.func89 #[.agg #[.int .i64 a0_0, .int .i64 a0_1, .bool a0_2], .agg #[.int .i64 a1_0, .int .i64 a1_1, .bool a1_2]] ?_; (with_reducible refine (spec_l07Add.calls kj2 a0_0 a0_1 a0_2 a1_0 a1_1 a1_2 t520 t521 t522 _ A27.out).mono ?_); rintro e w33 ⟨rfl, hb⟩; refine ⟨_, rfl, ?_⟩; replace BK512 := bB BK512 hb; replace BK513 := bB BK513 hb; replace BK514 := bB BK514 hb; replace HB := bS HB hb; (try clear hb); obtain ⟨hcz34_0, hcz34_1, hcz34_2, hfz34_0, hfz34_1, hfz34_2⟩ := bK3 (w := w33) BK514))
    refine rC gb514 23 #[.int .i64 t520, .int .i64 t521, .bool t522] (bU BK514) Tryd.underlying23 ?_
    exact ⟨rR, bZ HB⟩
/-! ### spec_PairLine: function 130 -/
def spec_PairLine.j0 : Nat → Bool → Int → Int → Bool → Int → Int → Bool → Int → Int → Bool → Int → Int → Option (Int × Int)
 | 0, _, _, _, _, _, _, _, _, _, _, _, _ => none
 | k + 1, x36, x524000, x524001, x524002, x525000, x525001, x525002, x526000, x526001, x526002, x528000, x528001 => if x36 = true then (some (x528000, x528001)) else ((spec_l07Slope.f k x524000 x524001 x524002 x525000 x525001 x525002).bind fun bt531 => (if bt531.2 = true then ((spec_FpSub.f 0 x526000).bind fun t533 => ((spec_FpSub.f t533 x524000).bind fun t534 => ((spec_FpSub.f 0 x524001).bind fun t535 => ((spec_FpMul.f bt531.1 t534).bind fun t536 => ((spec_FpSub.f t535 t536).bind fun t537 => (some (t537, x526001))))))) else (some (x528000, x528001))))
def spec_PairLine.f (k : Nat) (a0_0 : Int) (a0_1 : Int) (a0_2 : Bool) (a1_0 : Int) (a1_1 : Int) (a1_2 : Bool) (a2_0 : Int) (a2_1 : Int) (a2_2 : Bool) : Option (Int × Int) := if a0_2 = true then (spec_PairLine.j0 k true a0_0 a0_1 a0_2 a1_0 a1_1 a1_2 a2_0 a2_1 a2_2 1 0) else (if a1_2 = true then (spec_PairLine.j0 k true a0_0 a0_1 a0_2 a1_0 a1_1 a1_2 a2_0 a2_1 a2_2 1 0) else (if a2_2 = true then (spec_PairLine.j0 k true a0_0 a0_1 a0_2 a1_0 a1_1 a1_2 a2_0 a2_1 a2_2 1 0) else ((spec_PointOk.f a0_0 a0_1 a0_2).bind fun t528 => (if t528 = true then ((spec_PointOk.f a1_0 a1_1 a1_2).bind fun t529 => (if t529 = true then ((spec_PointOk.f a2_0 a2_1 a2_2).bind fun t530 => (spec_PairLine.j0 k (!t530) a0_0 a0_1 a0_2 a1_0 a1_1 a1_2 a2_0 a2_1 a2_2 1 0)) else (spec_PairLine.j0 k true a0_0 a0_1 a0_2 a1_0 a1_1 a1_2 a2_0 a2_1 a2_2 1 0))) else (spec_PairLine.j0 k true a0_0 a0_1 a0_2 a1_0 a1_1 a1_2 a2_0 a2_1 a2_2 1 0)))))
theorem spec_PairLine.mono_l : ∀ k, (∀ y0 y1 y2 y3 y4 y5 y6 y7 y8 y9 y10 y11, LeO (spec_PairLine.j0 k y0 y1 y2 y3 y4 y5 y6 y7 y8 y9 y10 y11) (spec_PairLine.j0 (k + 1) y0 y1 y2 y3 y4 y5 y6 y7 y8 y9 y10 y11))
 | 0 => fun _ _ _ _ _ _ _ _ _ _ _ _ r h => by simp [spec_PairLine.j0] at h
 | k + 1 => by
  have ih0 := spec_PairLine.mono_l k
  ·intro y0 y1 y2 y3 y4 y5 y6 y7 y8 y9 y10 y11
   unfold spec_PairLine.j0
   repeat' first
   | (with_reducible exact ih0 _ _ _ _ _ _ _ _ _ _ _ _)
   | (with_reducible exact spec_l07Slope.mono _ _ _ _ _ _ _)
   | (with_reducible exact LeO.refl _)
   | (with_reducible exact LeO.none _)
   | (with_reducible refine LeO.ite ?_ ?_)
   | (with_reducible refine LeO.bind ?_ (fun _ => ?_))
   | exact ih0 _ _ _ _ _ _ _ _ _ _ _ _
   | exact spec_l07Slope.mono _ _ _ _ _ _ _
   | exact LeO.none _
   | refine LeO.ite ?_ ?_
   | refine LeO.bind ?_ (fun _ => ?_)
theorem spec_PairLine.mono : ∀ a0 a1 a2 a3 a4 a5 a6 a7 a8 k, LeO (spec_PairLine.f k a0 a1 a2 a3 a4 a5 a6 a7 a8) (spec_PairLine.f (k + 1) a0 a1 a2 a3 a4 a5 a6 a7 a8) := by
 intro a0 a1 a2 a3 a4 a5 a6 a7 a8 k
 have ih0 := spec_PairLine.mono_l k
 unfold spec_PairLine.f
 repeat' first
   | (with_reducible exact ih0 _ _ _ _ _ _ _ _ _ _ _ _)
   | (with_reducible exact spec_l07Slope.mono _ _ _ _ _ _ _)
   | (with_reducible exact LeO.refl _)
   | (with_reducible exact LeO.none _)
   | (with_reducible refine LeO.ite ?_ ?_)
   | (with_reducible refine LeO.bind ?_ (fun _ => ?_))
   | exact ih0 _ _ _ _ _ _ _ _ _ _ _ _
   | exact spec_l07Slope.mono _ _ _ _ _ _ _
   | exact LeO.none _
   | refine LeO.ite ?_ ?_
   | refine LeO.bind ?_ (fun _ => ?_)
def spec_PairLine.T8 : Bool × List (List Nat × List Nat) := (true, [([], []), ([0], [0]), ([1], [1]), ([], []), ([], []), ([3, 4, 2], [3, 4]), ([2, 5, 5], [2, 5]), ([], []), ([7], [7]), ([6, 8], [6, 8]), ([9, 6, 0, 1, 2, 3, 4, 5, 6, 7, 8, 9], [9])])
def spec_PairLine.B8 : List Nat := [0, 1, 3, 0, 0, 31, 63, 0, 128, 511, 1023]
theorem spec_PairLine.tab8 : rtab .any (opsOf Tryd.f130 8) = spec_PairLine.T8 := by kernel_rfl
theorem spec_PairLine.bits8 : waitsOk spec_PairLine.T8.2 spec_PairLine.B8 = true := by kernel_rfl
set_option maxHeartbeats 8000000 in
set_option maxRecDepth 100000 in
theorem spec_PairLine.calls (k : Nat) (a0_0 : Int) (a0_1 : Int) (a0_2 : Bool) (a1_0 : Int) (a1_1 : Int) (a1_2 : Bool) (a2_0 : Int) (a2_1 : Int) (a2_2 : Bool) (r1 : Int) (r2 : Int) (w : World) (h : spec_PairLine.f k a0_0 a0_1 a0_2 a1_0 a1_1 a1_2 a2_0 a2_1 a2_2 = some (r1, r2)) :
  Calls Tryd.prog 130 #[.agg #[.int .i64 a0_0, .int .i64 a0_1, .bool a0_2], .agg #[.int .i64 a1_0, .int .i64 a1_1, .bool a1_2], .agg #[.int .i64 a2_0, .int .i64 a2_1, .bool a2_2]] w fun e w' => e = .returned (.agg #[.int .i64 r1, .int .i64 r2]) ∧ Below w.heap.size w w' := by
 have hu23 := Tryd.underlying23
 have hu80 := Tryd.underlying80
 have HB := Aside0.mk (Below.refl w.heap.size w)
 have H : (if a0_2 = true then (spec_PairLine.j0 k true a0_0 a0_1 a0_2 a1_0 a1_1 a1_2 a2_0 a2_1 a2_2 1 0) else (if a1_2 = true then (spec_PairLine.j0 k true a0_0 a0_1 a0_2 a1_0 a1_1 a1_2 a2_0 a2_1 a2_2 1 0) else (if a2_2 = true then (spec_PairLine.j0 k true a0_0 a0_1 a0_2 a1_0 a1_1 a1_2 a2_0 a2_1 a2_2 1 0) else ((spec_PointOk.f a0_0 a0_1 a0_2).bind fun t528 => (if t528 = true then ((spec_PointOk.f a1_0 a1_1 a1_2).bind fun t529 => (if t529 = true then ((spec_PointOk.f a2_0 a2_1 a2_2).bind fun t530 => (spec_PairLine.j0 k (!t530) a0_0 a0_1 a0_2 a1_0 a1_1 a1_2 a2_0 a2_1 a2_2 1 0)) else (spec_PairLine.j0 k true a0_0 a0_1 a0_2 a1_0 a1_1 a1_2 a2_0 a2_1 a2_2 1 0))) else (spec_PairLine.j0 k true a0_0 a0_1 a0_2 a1_0 a1_1 a1_2 a2_0 a2_1 a2_2 1 0)))))) = some (r1, r2) := h
 clear h
 have HC4 := Aside0.mk H
 clear H
 go_enter Tryd.func130, Tryd.ntmps130
 go_upto_region 2 with (first | ((with_reducible refine gate_dst (N := 3) rfl ?_); refine bE 3 #[.int .i64 a0_0, .int .i64 a0_1, .bool a0_2] 23 ?_; intro gb523 hg w5 hbox hb; have BK523 := Aside0.mk (hbox); have GW523 := bG HB hg; have GE523 := bG HB hg; replace HB := bS HB hb; clear hb hbox hg) | ((with_reducible refine gate_dst (N := 4) rfl ?_); refine bE 4 #[.int .i64 a1_0, .int .i64 a1_1, .bool a1_2] 23 ?_; intro gb524 hg w6 hbox hb; have BK524 := Aside0.mk (hbox); have GW524 := bG HB hg; have GE524 := bG HB hg; replace HB := bS HB hb; have NB523_524 := bL BK523 hg; have NB524_523 := bR BK523 hg; replace BK523 := bB BK523 hb; clear hb hbox hg) | ((with_reducible refine gate_dst (N := 5) rfl ?_); refine bE 5 #[.int .i64 a2_0, .int .i64 a2_1, .bool a2_2] 23 ?_; intro gb525 hg w7 hbox hb; have BK525 := Aside0.mk (hbox); have GW525 := bG HB hg; have GE525 := bG HB hg; replace HB := bS HB hb; have NB523_525 := bL BK523 hg; have NB525_523 := bR BK523 hg; replace BK523 := bB BK523 hb; have NB524_525 := bL BK524 hg; have NB525_524 := bR BK524 hg; replace BK524 := bB BK524 hb; clear hb hbox hg) | ((with_reducible refine gate_dst (N := 6) rfl ?_); refine bE 6 #[.int .i64 0, .int .i64 0] 80 ?_; intro gb526 hg w8 hbox hb; have BK526 := Aside0.mk (hbox); have GW526 := bG HB hg; have GE526 := bG HB hg; replace HB := bS HB hb; have NB523_526 := bL BK523 hg; have NB526_523 := bR BK523 hg; replace BK523 := bB BK523 hb; have NB524_526 := bL BK524 hg; have NB526_524 := bR BK524 hg; replace BK524 := bB BK524 hb; have NB525_526 := bL BK525 hg; have NB526_525 := bR BK525 hg; replace BK525 := bB BK525 hb; clear hb hbox hg) | ((with_reducible refine gate_dst (N := 7) rfl ?_); refine bE 7 #[.int .i64 0, .int .i64 0] 80 ?_; intro gb527 hg w9 hbox hb; have BK527 := Aside0.mk (hbox); have GW527 := bG HB hg; have GE527 := bG HB hg; replace HB := bS HB hb; have NB523_527 := bL BK523 hg; have NB527_523 := bR BK523 hg; replace BK523 := bB BK523 hb; have NB524_527 := bL BK524 hg; have NB527_524 := bR BK524 hg; replace BK524 := bB BK524 hb; have NB525_527 := bL BK525 hg; have NB527_525 := bR BK525 hg; replace BK525 := bB BK525 hb; have NB526_527 := bL BK526 hg; have NB527_526 := bR BK526 hg; replace BK526 := bB BK526 hb; clear hb hbox hg; have hnb10 := NB527_523.out; have hnc10 := NB523_527.out; have hnb11 := NB527_524.out; have hnc11 := NB524_527.out; have hnb12 := NB527_525.out; have hnc12 := NB525_527.out; have hnb13 := NB527_526.out; have hnc13 := NB526_527.out; obtain ⟨hcz14_0, hcz14_1, hfz14_0, hfz14_1⟩ := bK2 (w := w9) BK527))
 (try simp only [Act.put, List.setIfInBounds_toArray, List.set_cons_zero, List.set_cons_succ])
 go_cut [36] (fun v36 wc => ∃ (kq : Nat) (x36_3 : Bool), v36 = .bool x36_3 ∧ Aside0 (spec_PairLine.j0 kq x36_3 a0_0 a0_1 a0_2 a1_0 a1_1 a1_2 a2_0 a2_1 a2_2 1 0 = some (r1, r2)) ∧ Aside0 (kq ≤ k) ∧ Aside0 (wc.heap[gb523]? = some (.cells #[.int .i64 a0_0, .int .i64 a0_1, .bool a0_2] 23 (0, 0))) ∧ Aside0 (wc.heap[gb524]? = some (.cells #[.int .i64 a1_0, .int .i64 a1_1, .bool a1_2] 23 (0, 0))) ∧ Aside0 (wc.heap[gb525]? = some (.cells #[.int .i64 a2_0, .int .i64 a2_1, .bool a2_2] 23 (0, 0))) ∧ Aside0 (wc.heap[gb526]? = some (.cells #[.int .i64 0, .int .i64 0] 80 (0, 0))) ∧ Aside0 (wc.heap[gb527]? = some (.cells #[.int .i64 1, .int .i64 0] 80 (0, 0))) ∧ Aside0 (Below w.heap.size w wc))
 case first =>
  have H := HC4.out
  clear HC4
  by_cases c15 : a0_2 = true
  ·subst c15
   rw [if_pos rfl] at H
   have H' := Aside0.mk H
   clear H
   have hnb16 := NB523_524.out
   have hnc16 := NB524_523.out
   have hnb17 := NB523_525.out
   have hnc17 := NB525_523.out
   have hnb18 := NB523_526.out
   have hnc18 := NB526_523.out
   have hnb19 := NB523_527.out
   have hnc19 := NB527_523.out
   obtain ⟨hcz20_0, hcz20_1, hcz20_2, hfz20_0, hfz20_1, hfz20_2⟩ := bK3 (w := w9) BK523
   go_wp2
   go_meet
   case rel => exact ⟨_, (true), rS, H', ⟨by first | omega | exact Nat.le_refl _⟩, ⟨bP BK523⟩, ⟨bP BK524⟩, ⟨bP BK525⟩, ⟨bP BK526⟩, ⟨bU BK527⟩, ⟨bZ HB⟩⟩
  ·replace c15 := Bool.eq_false_iff.mpr c15
   subst c15
   rw [if_neg (show ¬ (false = true) by decide)] at H
   by_cases c21 : a1_2 = true
   ·subst c21
    rw [if_pos rfl] at H
    have H' := Aside0.mk H
    clear H
    have hnb22 := NB523_524.out
    have hnc22 := NB524_523.out
    have hnb23 := NB523_525.out
    have hnc23 := NB525_523.out
    have hnb24 := NB523_526.out
    have hnc24 := NB526_523.out
    have hnb25 := NB523_527.out
    have hnc25 := NB527_523.out
    obtain ⟨hcz26_0, hcz26_1, hcz26_2, hfz26_0, hfz26_1, hfz26_2⟩ := bK3 (w := w9) BK523
    have hnb27 := NB524_525.out
    have hnc27 := NB525_524.out
    have hnb28 := NB524_526.out
    have hnc28 := NB526_524.out
    have hnb29 := NB524_527.out
    have hnc29 := NB527_524.out
    obtain ⟨hcz30_0, hcz30_1, hcz30_2, hfz30_0, hfz30_1, hfz30_2⟩ := bK3 (w := w9) BK524
    go_wp2
    go_meet
    case rel => exact ⟨_, (true), rS, H', ⟨by first | omega | exact Nat.le_refl _⟩, ⟨bP BK523⟩, ⟨bP BK524⟩, ⟨bP BK525⟩, ⟨bP BK526⟩, ⟨bU BK527⟩, ⟨bZ HB⟩⟩
   ·replace c21 := Bool.eq_false_iff.mpr c21
    subst c21
    rw [if_neg (show ¬ (false = true) by decide)] at H
    by_cases c31 : a2_2 = true
    ·subst c31
     rw [if_pos rfl] at H
     have H' := Aside0.mk H
     clear H
     have hnb32 := NB523_524.out
     have hnc32 := NB524_523.out
     have hnb33 := NB523_525.out
     have hnc33 := NB525_523.out
     have hnb34 := NB523_526.out
     have hnc34 := NB526_523.out
     have hnb35 := NB523_527.out
     have hnc35 := NB527_523.out
     obtain ⟨hcz36_0, hcz36_1, hcz36_2, hfz36_0, hfz36_1, hfz36_2⟩ := bK3 (w := w9) BK523
     have hnb37 := NB524_525.out
     have hnc37 := NB525_524.out
     have hnb38 := NB524_526.out
     have hnc38 := NB526_524.out
     have hnb39 := NB524_527.out
     have hnc39 := NB527_524.out
     obtain ⟨hcz40_0, hcz40_1, hcz40_2, hfz40_0, hfz40_1, hfz40_2⟩ := bK3 (w := w9) BK524
     have hnb41 := NB525_526.out
     have hnc41 := NB526_525.out
     have hnb42 := NB525_527.out
     have hnc42 := NB527_525.out
     obtain ⟨hcz43_0, hcz43_1, hcz43_2, hfz43_0, hfz43_1, hfz43_2⟩ := bK3 (w := w9) BK525
     go_wp2
     go_meet
     case rel => exact ⟨_, (true), rS, H', ⟨by first | omega | exact Nat.le_refl _⟩, ⟨bP BK523⟩, ⟨bP BK524⟩, ⟨bP BK525⟩, ⟨bP BK526⟩, ⟨bU BK527⟩, ⟨bZ HB⟩⟩
    ·replace c31 := Bool.eq_false_iff.mpr c31
     subst c31
     rw [if_neg (show ¬ (false = true) by decide)] at H
     replace H := Option.bind_eq_some_iff.mp H
     obtain ⟨t528, A440, H⟩ := H
     have A44 := Aside0.mk A440
     clear A440
     by_cases c45 : t528 = true
     ·subst c45
      rw [if_pos rfl] at H
      replace H := Option.bind_eq_some_iff.mp H
      obtain ⟨t529, A460, H⟩ := H
      have A46 := Aside0.mk A460
      clear A460
      by_cases c47 : t529 = true
      ·subst c47
       rw [if_pos rfl] at H
       replace H := Option.bind_eq_some_iff.mp H
       obtain ⟨t530, A480, H⟩ := H
       have A48 := Aside0.mk A480
       clear A480
       have H' := Aside0.mk H
       clear H
       have hnb49 := NB523_524.out
       have hnc49 := NB524_523.out
       have hnb50 := NB523_525.out
       have hnc50 := NB525_523.out
       have hnb51 := NB523_526.out
       have hnc51 := NB526_523.out
       have hnb52 := NB523_527.out
       have hnc52 := NB527_523.out
       obtain ⟨hcz53_0, hcz53_1, hcz53_2, hfz53_0, hfz53_1, hfz53_2⟩ := bK3 (w := w9) BK523
       have hnb54 := NB524_525.out
       have hnc54 := NB525_524.out
       have hnb55 := NB524_526.out
       have hnc55 := NB526_524.out
       have hnb56 := NB524_527.out
       have hnc56 := NB527_524.out
       obtain ⟨hcz57_0, hcz57_1, hcz57_2, hfz57_0, hfz57_1, hfz57_2⟩ := bK3 (w := w9) BK524
       have hnb58 := NB525_526.out
       have hnc58 := NB526_525.out
       have hnb59 := NB525_527.out
       have hnc59 := NB527_525.out
       obtain ⟨hcz60_0, hcz60_1, hcz60_2, hfz60_0, hfz60_1, hfz60_2⟩ := bK3 (w := w9) BK525
       go_wp2_with (first | (go_at_call 87; (with_reducible refine (spec_PointOk.calls a0_0 a0_1 false true _ A44.out).mono ?_); rintro e w61 ⟨rfl, hb⟩; replace BK523 := bB BK523 hb; replace BK524 := bB BK524 hb; replace BK525 := bB BK525 hb; replace BK526 := bB BK526 hb; replace BK527 := bV 80 #[.int .i64 1, .int .i64 0] BK527 hb; replace HB := bS HB hb; (try clear hb); obtain ⟨hcz62_0, hcz62_1, hcz62_2, hfz62_0, hfz62_1, hfz62_2⟩ := bK3 (w := w61) BK524) | (go_at_call 87; (with_reducible refine (spec_PointOk.calls a1_0 a1_1 false true _ A46.out).mono ?_); rintro e w63 ⟨rfl, hb⟩; replace BK523 := bB BK523 hb; replace BK524 := bB BK524 hb; replace BK525 := bB BK525 hb; replace BK526 := bB BK526 hb; replace BK527 := bB BK527 hb; replace HB := bS HB hb; (try clear hb); obtain ⟨hcz64_0, hcz64_1, hcz64_2, hfz64_0, hfz64_1, hfz64_2⟩ := bK3 (w := w63) BK525) | (go_at_call 87; (with_reducible refine (spec_PointOk.calls a2_0 a2_1 false t530 _ A48.out).mono ?_); rintro e w65 ⟨rfl, hb⟩; replace BK523 := bB BK523 hb; replace BK524 := bB BK524 hb; replace BK525 := bB BK525 hb; replace BK526 := bB BK526 hb; replace BK527 := bB BK527 hb; replace HB := bS HB hb; (try clear hb)))
       go_meet
       case rel => exact ⟨_, (!t530), rS, H', ⟨by first | omega | exact Nat.le_refl _⟩, ⟨bP BK523⟩, ⟨bP BK524⟩, ⟨bP BK525⟩, ⟨bP BK526⟩, ⟨bP BK527⟩, ⟨bZ HB⟩⟩
      ·replace c47 := Bool.eq_false_iff.mpr c47
       subst c47
       rw [if_neg (show ¬ (false = true) by decide)] at H
       have H' := Aside0.mk H
       clear H
       have hnb66 := NB523_524.out
       have hnc66 := NB524_523.out
       have hnb67 := NB523_525.out
       have hnc67 := NB525_523.out
       have hnb68 := NB523_526.out
       have hnc68 := NB526_523.out
       have hnb69 := NB523_527.out
       have hnc69 := NB527_523.out
       obtain ⟨hcz70_0, hcz70_1, hcz70_2, hfz70_0, hfz70_1, hfz70_2⟩ := bK3 (w := w9) BK523
       have hnb71 := NB524_525.out
       have hnc71 := NB525_524.out
       have hnb72 := NB524_526.out
       have hnc72 := NB526_524.out
       have hnb73 := NB524_527.out
       have hnc73 := NB527_524.out
       obtain ⟨hcz74_0, hcz74_1, hcz74_2, hfz74_0, hfz74_1, hfz74_2⟩ := bK3 (w := w9) BK524
       have hnb75 := NB525_526.out
       have hnc75 := NB526_525.out
       have hnb76 := NB525_527.out
       have hnc76 := NB527_525.out
       obtain ⟨hcz77_0, hcz77_1, hcz77_2, hfz77_0, hfz77_1, hfz77_2⟩ := bK3 (w := w9) BK525
       go_wp2_with (first | (go_at_call 87; (with_reducible refine (spec_PointOk.calls a0_0 a0_1 false true _ A44.out).mono ?_); rintro e w78 ⟨rfl, hb⟩; replace BK523 := bB BK523 hb; replace BK524 := bB BK524 hb; replace BK525 := bB BK525 hb; replace BK526 := bB BK526 hb; replace BK527 := bV 80 #[.int .i64 1, .int .i64 0] BK527 hb; replace HB := bS HB hb; (try clear hb); obtain ⟨hcz79_0, hcz79_1, hcz79_2, hfz79_0, hfz79_1, hfz79_2⟩ := bK3 (w := w78) BK524) | (go_at_call 87; (with_reducible refine (spec_PointOk.calls a1_0 a1_1 false false _ A46.out).mono ?_); rintro e w80 ⟨rfl, hb⟩; replace BK523 := bB BK523 hb; replace BK524 := bB BK524 hb; replace BK525 := bB BK525 hb; replace BK526 := bB BK526 hb; replace BK527 := bB BK527 hb; replace HB := bS HB hb; (try clear hb)))
       go_meet
       case rel => exact ⟨_, (true), rS, H', ⟨by first | omega | exact Nat.le_refl _⟩, ⟨bP BK523⟩, ⟨bP BK524⟩, ⟨bP BK525⟩, ⟨bP BK526⟩, ⟨bP BK527⟩, ⟨bZ HB⟩⟩
     ·replace c45 := Bool.eq_false_iff.mpr c45
      subst c45
      rw [if_neg (show ¬ (false = true) by decide)] at H
      have H' := Aside0.mk H
      clear H
      have hnb81 := NB523_524.out
      have hnc81 := NB524_523.out
      have hnb82 := NB523_525.out
      have hnc82 := NB525_523.out
      have hnb83 := NB523_526.out
      have hnc83 := NB526_523.out
      have hnb84 := NB523_527.out
      have hnc84 := NB527_523.out
      obtain ⟨hcz85_0, hcz85_1, hcz85_2, hfz85_0, hfz85_1, hfz85_2⟩ := bK3 (w := w9) BK523
      have hnb86 := NB524_525.out
      have hnc86 := NB525_524.out
      have hnb87 := NB524_526.out
      have hnc87 := NB526_524.out
      have hnb88 := NB524_527.out
      have hnc88 := NB527_524.out
      obtain ⟨hcz89_0, hcz89_1, hcz89_2, hfz89_0, hfz89_1, hfz89_2⟩ := bK3 (w := w9) BK524
      have hnb90 := NB525_526.out
      have hnc90 := NB526_525.out
      have hnb91 := NB525_527.out
      have hnc91 := NB527_525.out
      obtain ⟨hcz92_0, hcz92_1, hcz92_2, hfz92_0, hfz92_1, hfz92_2⟩ := bK3 (w := w9) BK525
      go_wp2_with (first | (go_at_call 87; (with_reducible refine (spec_PointOk.calls a0_0 a0_1 false false _ A44.out).mono ?_); rintro e w93 ⟨rfl, hb⟩; replace BK523 := bB BK523 hb; replace BK524 := bB BK524 hb; replace BK525 := bB BK525 hb; replace BK526 := bB BK526 hb; replace BK527 := bV 80 #[.int .i64 1, .int .i64 0] BK527 hb; replace HB := bS HB hb; (try clear hb)))
      go_meet
      case rel => exact ⟨_, (true), rS, H', ⟨by first | omega | exact Nat.le_refl _⟩, ⟨bP BK523⟩, ⟨bP BK524⟩, ⟨bP BK525⟩, ⟨bP BK526⟩, ⟨bP BK527⟩, ⟨bZ HB⟩⟩
 case rest =>
  clear HC4
  try clear c1
  try clear c2
  try clear p2
  try clear c3
  try clear c4
  try clear c5
  try clear c6
  try clear c7
  try clear c8
  try clear c9
  try clear c10
  try clear c11
  try clear c12
  try clear c13
  try clear c15
  try clear c16
  try clear c17
  try clear c18
  try clear c19
  try clear c21
  try clear c22
  try clear c23
  try clear c24
  try clear c25
  try clear c27
  try clear c28
  try clear c29
  try clear c31
  try clear c32
  try clear c33
  try clear c34
  try clear c35
  try clear c37
  try clear c38
  try clear c39
  try clear c41
  try clear c42
  try clear c45
  try clear c47
  try clear c49
  try clear c50
  try clear c51
  try clear c52
  try clear c54
  try clear c55
  try clear c56
  try clear c58
  try clear c59
  try clear c66
  try clear c67
  try clear c68
  try clear c69
  try clear c71
  try clear c72
  try clear c73
  try clear c75
  try clear c76
  try clear c81
  try clear c82
  try clear c83
  try clear c84
  try clear c86
  try clear c87
  try clear c88
  try clear c90
  try clear c91
  try clear hcz14_0
  try clear hcz14_1
  try clear hcz20_0
  try clear hcz20_1
  try clear hcz20_2
  try clear hcz26_0
  try clear hcz26_1
  try clear hcz26_2
  try clear hcz30_0
  try clear hcz30_1
  try clear hcz30_2
  try clear hcz36_0
  try clear hcz36_1
  try clear hcz36_2
  try clear hcz40_0
  try clear hcz40_1
  try clear hcz40_2
  try clear hcz43_0
  try clear hcz43_1
  try clear hcz43_2
  try clear hcz53_0
  try clear hcz53_1
  try clear hcz53_2
  try clear hcz57_0
  try clear hcz57_1
  try clear hcz57_2
  try clear hcz60_0
  try clear hcz60_1
  try clear hcz60_2
  try clear hcz62_0
  try clear hcz62_1
  try clear hcz62_2
  try clear hcz64_0
  try clear hcz64_1
  try clear hcz64_2
  try clear hcz70_0
  try clear hcz70_1
  try clear hcz70_2
  try clear hcz74_0
  try clear hcz74_1
  try clear hcz74_2
  try clear hcz77_0
  try clear hcz77_1
  try clear hcz77_2
  try clear hcz79_0
  try clear hcz79_1
  try clear hcz79_2
  try clear hcz85_0
  try clear hcz85_1
  try clear hcz85_2
  try clear hcz89_0
  try clear hcz89_1
  try clear hcz89_2
  try clear hcz92_0
  try clear hcz92_1
  try clear hcz92_2
  try clear hfz14_0
  try clear hfz14_1
  try clear hfz20_0
  try clear hfz20_1
  try clear hfz20_2
  try clear hfz26_0
  try clear hfz26_1
  try clear hfz26_2
  try clear hfz30_0
  try clear hfz30_1
  try clear hfz30_2
  try clear hfz36_0
  try clear hfz36_1
  try clear hfz36_2
  try clear hfz40_0
  try clear hfz40_1
  try clear hfz40_2
  try clear hfz43_0
  try clear hfz43_1
  try clear hfz43_2
  try clear hfz53_0
  try clear hfz53_1
  try clear hfz53_2
  try clear hfz57_0
  try clear hfz57_1
  try clear hfz57_2
  try clear hfz60_0
  try clear hfz60_1
  try clear hfz60_2
  try clear hfz62_0
  try clear hfz62_1
  try clear hfz62_2
  try clear hfz64_0
  try clear hfz64_1
  try clear hfz64_2
  try clear hfz70_0
  try clear hfz70_1
  try clear hfz70_2
  try clear hfz74_0
  try clear hfz74_1
  try clear hfz74_2
  try clear hfz77_0
  try clear hfz77_1
  try clear hfz77_2
  try clear hfz79_0
  try clear hfz79_1
  try clear hfz79_2
  try clear hfz85_0
  try clear hfz85_1
  try clear hfz85_2
  try clear hfz89_0
  try clear hfz89_1
  try clear hfz89_2
  try clear hfz92_0
  try clear hfz92_1
  try clear hfz92_2
  obtain ⟨kq, x36_3, rfl, HA, HJ3, BK523, BK524, BK525, BK526, BK527, HB⟩ := hcut
  cases kq with
  | zero => exact absurd HA.out (by simp [spec_PairLine.j0])
  | succ kj3 =>
   have H := HA.out
   clear HA
   simp only [spec_PairLine.j0] at H
   by_cases c94 : x36_3 = true
   ·subst c94
    rw [if_pos rfl] at H
    simp only [Option.some.injEq, Prod.mk.injEq] at H
    obtain ⟨rfl, rfl⟩ := H
    have hnb95 := NB527_523.out
    have hnc95 := NB523_527.out
    have hnb96 := NB527_524.out
    have hnc96 := NB524_527.out
    have hnb97 := NB527_525.out
    have hnc97 := NB525_527.out
    have hnb98 := NB527_526.out
    have hnc98 := NB526_527.out
    obtain ⟨hcz99_0, hcz99_1, hfz99_0, hfz99_1⟩ := bK2 (w := wc) BK527
    have hnb100 := NB526_523.out
    have hnc100 := NB523_526.out
    have hnb101 := NB526_524.out
    have hnc101 := NB524_526.out
    have hnb102 := NB526_525.out
    have hnc102 := NB525_526.out
    obtain ⟨hcz103_0, hcz103_1, hfz103_0, hfz103_1⟩ := bK2 (w := wc) BK526
    go_wp2
    refine rC gb526 80 #[.int .i64 1, .int .i64 0] (bU BK526) Tryd.underlying80 ?_
    exact ⟨rR, bZ HB⟩
   ·replace c94 := Bool.eq_false_iff.mpr c94
    subst c94
    rw [if_neg (show ¬ (false = true) by decide)] at H
    replace H := Option.bind_eq_some_iff.mp H
    obtain ⟨⟨t531, t532⟩, A1040, H⟩ := H
    have A104 := Aside0.mk A1040
    clear A1040
    by_cases c105 : t532 = true
    ·subst c105
     rw [if_pos rfl] at H
     replace H := Option.bind_eq_some_iff.mp H
     obtain ⟨t533, A1060, H⟩ := H
     have A106 := Aside0.mk A1060
     clear A1060
     replace H := Option.bind_eq_some_iff.mp H
     obtain ⟨t534, A1070, H⟩ := H
     have A107 := Aside0.mk A1070
     clear A1070
     replace H := Option.bind_eq_some_iff.mp H
     obtain ⟨t535, A1080, H⟩ := H
     have A108 := Aside0.mk A1080
     clear A1080
     replace H := Option.bind_eq_some_iff.mp H
     obtain ⟨t536, A1090, H⟩ := H
     have A109 := Aside0.mk A1090
     clear A1090
     replace H := Option.bind_eq_some_iff.mp H
     obtain ⟨t537, A1100, H⟩ := H
     have A110 := Aside0.mk A1100
     clear A1100
     simp only [Option.some.injEq, Prod.mk.injEq] at H
     obtain ⟨rfl, rfl⟩ := H
     have hnb111 := NB523_524.out
     have hnc111 := NB524_523.out
     have hnb112 := NB523_525.out
     have hnc112 := NB525_523.out
     have hnb113 := NB523_526.out
     have hnc113 := NB526_523.out
     have hnb114 := NB523_527.out
     have hnc114 := NB527_523.out
     obtain ⟨hcz115_0, hcz115_1, hcz115_2, hfz115_0, hfz115_1, hfz115_2⟩ := bK3 (w := wc) BK523
     have hnb116 := NB524_525.out
     have hnc116 := NB525_524.out
     have hnb117 := NB524_526.out
     have hnc117 := NB526_524.out
     have hnb118 := NB524_527.out
     have hnc118 := NB527_524.out
     obtain ⟨hcz119_0, hcz119_1, hcz119_2, hfz119_0, hfz119_1, hfz119_2⟩ := bK3 (w := wc) BK524
     try go_wp2_with (first | ((with_reducible refine gate_callee (f := 120) rfl ?_); refine gL (some 41) Tryd.func120 #[.agg #[.int .i64 a0_0, .int .i64 a0_1, .bool a0_2], .agg #[.int .i64 a1_0, .int .i64 a1_1, .bool a1_2]] ?_; (with_reducible refine (spec_l07Slope.calls kj3 a0_0 a0_1 a0_2 a1_0 a1_1 a1_2 t531 true _ A104.out).mono ?_); rintro e w120 ⟨rfl, hb⟩; refine ⟨_, rfl, ?_⟩; replace BK523 := bB BK523 hb; replace BK524 := bB BK524 hb; replace BK525 := bB BK525 hb; replace BK526 := bB BK526 hb; replace BK527 := bB BK527 hb; replace HB := bS HB hb; (try clear hb)))
     replace BK523 := Aside0.mk (blk_drew BK523.out)
     replace BK524 := Aside0.mk (blk_drew BK524.out)
     replace BK525 := Aside0.mk (blk_drew BK525.out)
     replace BK526 := Aside0.mk (blk_drew BK526.out)
     replace BK527 := Aside0.mk (blk_drew BK527.out)
     replace HB := Aside0.mk (below_drew1 HB.out)
     refine start_ (n := 7) (S := fun w' => w'.cell? ⟨gb525, 0, none⟩ = some (.int .i64 a2_0) ∧ w'.cell? ⟨gb525, 1, none⟩ = some (.int .i64 a2_1) ∧ w'.cell? ⟨gb525, 2, none⟩ = some (.bool a2_2) ∧ w'.cell? ⟨gb523, 0, none⟩ = some (.int .i64 a0_0) ∧ w'.cell? ⟨gb523, 1, none⟩ = some (.int .i64 a0_1) ∧ w'.cell? ⟨gb523, 2, none⟩ = some (.bool a0_2)) (ds := []) #[false, false, false, false, false, false, false] (by kernel_rfl) rfl rfl ⟨bc BK525 0, bc BK525 1, bc BK525 2, bc BK523 0, bc BK523 1, bc BK523 2⟩ (fun hHeld => ?_)
     generalize w120.drew = w121 at BK523 BK524 BK525 BK526 BK527 HB hHeld ⊢
     refine pure_ (i := 0) (N := some 47) (v := ?_) (a' := ?_) #[true, false, false, false, false, false, false] rfl rfl (by kernel_rfl) (fun _ _ _ h => h) (Or.inl ⟨by rfl, ?_⟩) ?_ ?_
     rotate_left
     ·intro w'
      go_simp
      with_reducible rfl
     rotate_left
     ·simp only [Act.put, List.setIfInBounds_toArray, List.set_cons_zero, List.set_cons_succ, i64_w, i32_w]
      rfl
     refine pure_ (i := 3) (N := some 50) (v := ?_) (a' := ?_) #[true, false, false, true, false, false, false] rfl rfl (by kernel_rfl) (fun _ _ _ h => h) (Or.inl ⟨by rfl, ?_⟩) ?_ ?_
     rotate_left
     ·intro w'
      go_simp
      with_reducible rfl
     rotate_left
     ·simp only [Act.put, List.setIfInBounds_toArray, List.set_cons_zero, List.set_cons_succ, i64_w, i32_w]
      rfl
     refine take_ (i := 1) (N := some 48) (v := ?_) (a' := ?_) #[true, true, false, true, false, false, false] rfl rfl (by kernel_rfl) (fun _ _ _ h => h) (Or.inl ⟨by rfl, ?_⟩) hHeld ?_ ?_
     rotate_left
     ·rintro w' ⟨s0, s1, s2, s3, s4, s5⟩
      go_simp
      with_reducible rfl
     rotate_left
     ·simp only [Act.put, List.setIfInBounds_toArray, List.set_cons_zero, List.set_cons_succ, i64_w, i32_w]
      rfl
     refine take_ (i := 4) (N := some 51) (v := ?_) (a' := ?_) #[true, true, false, true, true, false, false] rfl rfl (by kernel_rfl) (fun _ _ _ h => h) (Or.inl ⟨by rfl, ?_⟩) hHeld ?_ ?_
     rotate_left
     ·rintro w' ⟨s0, s1, s2, s3, s4, s5⟩
      go_simp
      with_reducible rfl
     rotate_left
     ·simp only [Act.put, List.setIfInBounds_toArray, List.set_cons_zero, List.set_cons_succ, i64_w, i32_w]
      rfl
     refine one_ (i := 2) (N := some 49) #[true, true, true, true, true, false, false] rfl rfl (by kernel_rfl) (by decide) (fun K hK => ?_)
     refine gO Tryd.func85 #[.int .i64 0, .int .i64 a2_0] ?_
     with_reducible refine (spec_FpSub.calls 0 a2_0 t533 _ A106.out).mono ?_
     rintro e w' ⟨rfl, ⟨nd, rfl⟩⟩
     refine ⟨_, rfl, ?_⟩
     refine hK.out _ _ ⟨bc BK525 0, bc BK525 1, bc BK525 2, bc BK523 0, bc BK523 1, bc BK523 2⟩ (fun hHeld => ?_)
     clear hK K
     refine nO (some 49) ?_
     refine one_ (i := 5) (N := some 52) #[true, true, true, true, true, true, false] rfl rfl (by kernel_rfl) (by decide) (fun K hK => ?_)
     refine gO Tryd.func85 #[.int .i64 t533, .int .i64 a0_0] ?_
     with_reducible refine (spec_FpSub.calls t533 a0_0 t534 _ A107.out).mono ?_
     rintro e w' ⟨rfl, ⟨nd, rfl⟩⟩
     refine ⟨_, rfl, ?_⟩
     refine hK.out _ _ ⟨bc BK525 0, bc BK525 1, bc BK525 2, bc BK523 0, bc BK523 1, bc BK523 2⟩ (fun hHeld => ?_)
     clear hK K
     refine nO (some 52) ?_
     refine pure_ (i := 6) (N := some 10) (v := ?_) (a' := ?_) #[true, true, true, true, true, true, true] rfl rfl (by kernel_rfl) (fun _ _ _ h => h) (Or.inl ⟨by rfl, ?_⟩) ?_ ?_
     rotate_left
     ·intro w'
      go_simp
      with_reducible rfl
     rotate_left
     ·simp only [Act.put, List.setIfInBounds_toArray, List.set_cons_zero, List.set_cons_succ, i64_w, i32_w]
      rfl
     refine done_ (by kernel_rfl) ?_
     try go_wp2
     (try simp only [World.drewN_drewN]); (try (rw [drewN_self w121]; generalize hq_ : World.drewN w121 _ = w121; replace BK523 : Aside0 (w121.heap[gb523]? = some (.cells #[.int .i64 a0_0, .int .i64 a0_1, .bool a0_2] 23 (0, 0))) := ⟨by rw [← hq_]; exact (bP BK523)⟩; replace BK524 : Aside0 (w121.heap[gb524]? = some (.cells #[.int .i64 a1_0, .int .i64 a1_1, .bool a1_2] 23 (0, 0))) := ⟨by rw [← hq_]; exact (bP BK524)⟩; replace BK525 : Aside0 (w121.heap[gb525]? = some (.cells #[.int .i64 a2_0, .int .i64 a2_1, .bool a2_2] 23 (0, 0))) := ⟨by rw [← hq_]; exact (bP BK525)⟩; replace BK526 : Aside0 (w121.heap[gb526]? = some (.cells #[.int .i64 0, .int .i64 0] 80 (0, 0))) := ⟨by rw [← hq_]; exact (bP BK526)⟩; replace BK527 : Aside0 (w121.heap[gb527]? = some (.cells #[.int .i64 1, .int .i64 0] 80 (0, 0))) := ⟨by rw [← hq_]; exact (bP BK527)⟩; replace HB : Aside0 (Below w.heap.size w w121) := ⟨by rw [← hq_]; exact (bZ HB)⟩; clear hq_))
     replace BK523 := Aside0.mk (blk_drew BK523.out)
     replace BK524 := Aside0.mk (blk_drew BK524.out)
     replace BK525 := Aside0.mk (blk_drew BK525.out)
     replace BK526 := Aside0.mk (blk_drew BK526.out)
     replace BK527 := Aside0.mk (blk_drew BK527.out)
     replace HB := Aside0.mk (below_drew1 HB.out)
     refine start_ (n := 11) (S := fun w' => w'.cell? ⟨gb523, 0, none⟩ = some (.int .i64 a0_0) ∧ w'.cell? ⟨gb523, 1, none⟩ = some (.int .i64 a0_1) ∧ w'.cell? ⟨gb523, 2, none⟩ = some (.bool a0_2) ∧ w'.cell? ⟨gb525, 0, none⟩ = some (.int .i64 a2_0) ∧ w'.cell? ⟨gb525, 1, none⟩ = some (.int .i64 a2_1) ∧ w'.cell? ⟨gb525, 2, none⟩ = some (.bool a2_2)) (ds := []) #[false, false, false, false, false, false, false, false, false, false, false] (by kernel_rfl) rfl rfl ⟨bc BK523 0, bc BK523 1, bc BK523 2, bc BK525 0, bc BK525 1, bc BK525 2⟩ (fun hHeld => ?_); refine with_tabW spec_PairLine.tab8 spec_PairLine.bits8 (fun HT_ HW_ => ?_)
     generalize w121.drew = w122 at BK523 BK524 BK525 BK526 BK527 HB hHeld ⊢
     refine pI 0 (some 53) HT_.out ?_
     refine pI 3 (some 56) HT_.out ?_
     refine pI 4 (some 57) HT_.out ?_
     refine pI 7 (some 60) HT_.out ?_
     refine tI6 1 (some 54) HT_.out HW_.out hHeld ?_
     refine tI6 8 (some 61) HT_.out HW_.out hHeld ?_
     refine oI 2 (some 55) HT_.out (fun K hK => ?_)
     refine gO Tryd.func85 #[.int .i64 0, .int .i64 a0_1] ?_
     with_reducible refine (spec_FpSub.calls 0 a0_1 t535 _ A108.out).mono ?_
     rintro e w' ⟨rfl, ⟨nd, rfl⟩⟩
     refine ⟨_, rfl, ?_⟩
     refine hK.out _ _ ⟨bc BK523 0, bc BK523 1, bc BK523 2, bc BK525 0, bc BK525 1, bc BK525 2⟩ (fun hHeld => ?_)
     clear hK K
     refine nO (some 55) ?_
     refine oI 5 (some 58) HT_.out (fun K hK => ?_)
     refine gO Tryd.func84 #[.int .i64 t531, .int .i64 t534] ?_
     with_reducible refine (spec_FpMul.calls t531 t534 t536 _ A109.out).mono ?_
     rintro e w' ⟨rfl, ⟨nd, rfl⟩⟩
     refine ⟨_, rfl, ?_⟩
     refine hK.out _ _ ⟨bc BK523 0, bc BK523 1, bc BK523 2, bc BK525 0, bc BK525 1, bc BK525 2⟩ (fun hHeld => ?_)
     clear hK K
     refine nO (some 58) ?_
     refine oI 6 (some 59) HT_.out (fun K hK => ?_)
     refine gO Tryd.func85 #[.int .i64 t535, .int .i64 t536] ?_
     with_reducible refine (spec_FpSub.calls t535 t536 t537 _ A110.out).mono ?_
     rintro e w' ⟨rfl, ⟨nd, rfl⟩⟩
     refine ⟨_, rfl, ?_⟩
     refine hK.out _ _ ⟨bc BK523 0, bc BK523 1, bc BK523 2, bc BK525 0, bc BK525 1, bc BK525 2⟩ (fun hHeld => ?_)
     clear hK K
     refine nO (some 59) ?_
     refine pI 9 (some 62) HT_.out ?_
     refine oI 10 (none) HT_.out (fun K hK => ?_)
     have hs123 : w122.cell? ⟨gb526, 0, none⟩ = some (.int .i64 0) := bc BK526 0
     have hfs123 := blk_frozen BK526.out 0
     have hns123_0 := NB523_526.out
     have hns123_1 := NB524_526.out
     have hns123_2 := NB525_526.out
     have hns123_4 := NB527_526.out
     have hms123_0 := NB526_523.out
     have hms123_1 := NB526_524.out
     have hms123_2 := NB526_525.out
     have hms123_4 := NB526_527.out
     have hs124 : w122.cell? ⟨gb526, 1, none⟩ = some (.int .i64 0) := bc BK526 1
     have hfs124 := blk_frozen BK526.out 1
     have hns124_0 := NB523_526.out
     have hns124_1 := NB524_526.out
     have hns124_2 := NB525_526.out
     have hns124_4 := NB527_526.out
     have hms124_0 := NB526_523.out
     have hms124_1 := NB526_524.out
     have hms124_2 := NB526_525.out
     have hms124_4 := NB526_527.out
     refine skip_ (w1 := ?_) (by rfl) rfl ?_ ?_
     rotate_left
     ·go_simp
      rfl
     refine hK.out _ _ ⟨((cell_far (p := ⟨gb526, _, none⟩) NB523_526.out _).trans (((cell_far (p := ⟨gb526, _, none⟩) NB523_526.out _).trans (hHeld.1)))), ((cell_far (p := ⟨gb526, _, none⟩) NB523_526.out _).trans (((cell_far (p := ⟨gb526, _, none⟩) NB523_526.out _).trans (hHeld.2.1)))), ((cell_far (p := ⟨gb526, _, none⟩) NB523_526.out _).trans (((cell_far (p := ⟨gb526, _, none⟩) NB523_526.out _).trans (hHeld.2.2.1)))), ((cell_far (p := ⟨gb526, _, none⟩) NB525_526.out _).trans (((cell_far (p := ⟨gb526, _, none⟩) NB525_526.out _).trans (hHeld.2.2.2.1)))), ((cell_far (p := ⟨gb526, _, none⟩) NB525_526.out _).trans (((cell_far (p := ⟨gb526, _, none⟩) NB525_526.out _).trans (hHeld.2.2.2.2.1)))), ((cell_far (p := ⟨gb526, _, none⟩) NB525_526.out _).trans (((cell_far (p := ⟨gb526, _, none⟩) NB525_526.out _).trans (hHeld.2.2.2.2.2))))⟩ (fun hHeld => ?_)
     clear hK K
     refine done_ (done_of HT_.out (by kernel_rfl)) ?_
     try go_wp2
     refine rC gb526 80 #[.int .i64 t537, .int .i64 a2_1] (bU BK526) Tryd.underlying80 ?_
     exact ⟨rR, bZ HB⟩
    ·replace c105 := Bool.eq_false_iff.mpr c105
     subst c105
     rw [if_neg (show ¬ (false = true) by decide)] at H
     simp only [Option.some.injEq, Prod.mk.injEq] at H
     obtain ⟨rfl, rfl⟩ := H
     have hnb125 := NB523_524.out
     have hnc125 := NB524_523.out
     have hnb126 := NB523_525.out
     have hnc126 := NB525_523.out
     have hnb127 := NB523_526.out
     have hnc127 := NB526_523.out
     have hnb128 := NB523_527.out
     have hnc128 := NB527_523.out
     obtain ⟨hcz129_0, hcz129_1, hcz129_2, hfz129_0, hfz129_1, hfz129_2⟩ := bK3 (w := wc) BK523
     have hnb130 := NB524_525.out
     have hnc130 := NB525_524.out
     have hnb131 := NB524_526.out
     have hnc131 := NB526_524.out
     have hnb132 := NB524_527.out
     have hnc132 := NB527_524.out
     obtain ⟨hcz133_0, hcz133_1, hcz133_2, hfz133_0, hfz133_1, hfz133_2⟩ := bK3 (w := wc) BK524
     go_wp2_with (first | ((with_reducible refine gate_callee (f := 120) rfl ?_); refine gL (some 41) Tryd.func120 #[.agg #[.int .i64 a0_0, .int .i64 a0_1, .bool a0_2], .agg #[.int .i64 a1_0, .int .i64 a1_1, .bool a1_2]] ?_; (with_reducible refine (spec_l07Slope.calls kj3 a0_0 a0_1 a0_2 a1_0 a1_1 a1_2 t531 false _ A104.out).mono ?_); rintro e w134 ⟨rfl, hb⟩; refine ⟨_, rfl, ?_⟩; replace BK523 := bB BK523 hb; replace BK524 := bB BK524 hb; replace BK525 := bB BK525 hb; replace BK526 := bB BK526 hb; replace BK527 := bB BK527 hb; replace HB := bS HB hb; (try clear hb); have hnb135 := NB527_525.out; have hnc135 := NB525_527.out; have hnb136 := NB527_526.out; have hnc136 := NB526_527.out; obtain ⟨hcz137_0, hcz137_1, hfz137_0, hfz137_1⟩ := bK2 (w := w134) BK527; have hnb138 := NB526_525.out; have hnc138 := NB525_526.out; obtain ⟨hcz139_0, hcz139_1, hfz139_0, hfz139_1⟩ := bK2 (w := w134) BK526))
     refine rC gb526 80 #[.int .i64 1, .int .i64 0] (bU BK526) Tryd.underlying80 ?_
     exact ⟨rR, bZ HB⟩
/-! ### spec_Miller: function 102 -/
def spec_Miller.l0 : Nat → Int → Int → Int → Bool → Int → Int → Bool → Int → Int → Int → Int → Bool → Option (Int × Int)
 | 0, _, _, _, _, _, _, _, _, _, _, _, _ => none
 | k + 1, x7, x539000, x539001, x539002, x540000, x540001, x540002, x542000, x542001, x543000, x543001, x543002 => if x7 ≥ 0 then ((spec_TwoMul.f x542000 x542001 x542000 x542001).bind fun bt543 => ((spec_PairLine.f k x543000 x543001 x543002 x543000 x543001 x543002 x540000 x540001 x540002).bind fun bt545 => ((spec_TwoMul.f bt543.1 bt543.2 bt545.1 bt545.2).bind fun bt547 => ((spec_PointAdd.f k x543000 x543001 x543002 x543000 x543001 x543002).bind fun bt549 => (if 0 ≤ (IntKind.u64.wrap (x7)) then (if ((shr .i64 1009 (IntKind.u64.wrap (x7))) % 2) = 1 then ((spec_PairLine.f k bt549.1 bt549.2.1 bt549.2.2 x539000 x539001 x539002 x540000 x540001 x540002).bind fun bt552 => ((spec_TwoMul.f bt547.1 bt547.2 bt552.1 bt552.2).bind fun bt554 => ((spec_PointAdd.f k bt549.1 bt549.2.1 bt549.2.2 x539000 x539001 x539002).bind fun bt556 => (spec_Miller.l0 k (wrap64 (x7 - 1)) x539000 x539001 x539002 x540000 x540001 x540002 bt554.1 bt554.2 bt556.1 bt556.2.1 bt556.2.2)))) else (spec_Miller.l0 k (wrap64 (x7 - 1)) x539000 x539001 x539002 x540000 x540001 x540002 bt547.1 bt547.2 bt549.1 bt549.2.1 bt549.2.2)) else (none)))))) else (some (x542000, x542001))
def spec_Miller.f (k : Nat) (a0_0 : Int) (a0_1 : Int) (a0_2 : Bool) (a1_0 : Int) (a1_1 : Int) (a1_2 : Bool) : Option (Int × Int) := spec_Miller.l0 k 8 a0_0 a0_1 a0_2 a1_0 a1_1 a1_2 1 0 a0_0 a0_1 a0_2
theorem spec_Miller.mono_l : ∀ k, (∀ y0 y1 y2 y3 y4 y5 y6 y7 y8 y9 y10 y11, LeO (spec_Miller.l0 k y0 y1 y2 y3 y4 y5 y6 y7 y8 y9 y10 y11) (spec_Miller.l0 (k + 1) y0 y1 y2 y3 y4 y5 y6 y7 y8 y9 y10 y11))
 | 0 => fun _ _ _ _ _ _ _ _ _ _ _ _ r h => by simp [spec_Miller.l0] at h
 | k + 1 => by
  have ih0 := spec_Miller.mono_l k
  ·intro y0 y1 y2 y3 y4 y5 y6 y7 y8 y9 y10 y11
   unfold spec_Miller.l0
   repeat' first
   | (with_reducible exact ih0 _ _ _ _ _ _ _ _ _ _ _ _)
   | (with_reducible exact spec_PairLine.mono _ _ _ _ _ _ _ _ _ _)
   | (with_reducible exact spec_PointAdd.mono _ _ _ _ _ _ _)
   | (with_reducible exact LeO.refl _)
   | (with_reducible exact LeO.none _)
   | (with_reducible refine LeO.ite ?_ ?_)
   | (with_reducible refine LeO.bind ?_ (fun _ => ?_))
   | exact ih0 _ _ _ _ _ _ _ _ _ _ _ _
   | exact spec_PairLine.mono _ _ _ _ _ _ _ _ _ _
   | exact spec_PointAdd.mono _ _ _ _ _ _ _
   | exact LeO.none _
   | refine LeO.ite ?_ ?_
   | refine LeO.bind ?_ (fun _ => ?_)
theorem spec_Miller.mono : ∀ a0 a1 a2 a3 a4 a5 k, LeO (spec_Miller.f k a0 a1 a2 a3 a4 a5) (spec_Miller.f (k + 1) a0 a1 a2 a3 a4 a5) := by
 intro a0 a1 a2 a3 a4 a5 k
 have ih0 := spec_Miller.mono_l k
 unfold spec_Miller.f
 repeat' first
   | (with_reducible exact ih0 _ _ _ _ _ _ _ _ _ _ _ _)
   | (with_reducible exact spec_PairLine.mono _ _ _ _ _ _ _ _ _ _)
   | (with_reducible exact spec_PointAdd.mono _ _ _ _ _ _ _)
   | (with_reducible exact LeO.refl _)
   | (with_reducible exact LeO.none _)
   | (with_reducible refine LeO.ite ?_ ?_)
   | (with_reducible refine LeO.bind ?_ (fun _ => ?_))
   | exact ih0 _ _ _ _ _ _ _ _ _ _ _ _
   | exact spec_PairLine.mono _ _ _ _ _ _ _ _ _ _
   | exact spec_PointAdd.mono _ _ _ _ _ _ _
   | exact LeO.none _
   | refine LeO.ite ?_ ?_
   | refine LeO.bind ?_ (fun _ => ?_)
def spec_Miller.T6 : Bool × List (List Nat × List Nat) := (true, [([], []), ([], []), ([0, 1], [0, 1]), ([], []), ([], []), ([], []), ([3, 4, 5, 2], [3, 4, 5]), ([2, 6, 6], [2, 6]), ([7, 7, 0, 1, 2, 3, 4, 5, 6, 7], [7])])
def spec_Miller.B6 : List Nat := [0, 0, 3, 0, 0, 0, 63, 127, 255]
theorem spec_Miller.tab6 : rtab .any (opsOf Tryd.f102 6) = spec_Miller.T6 := by kernel_rfl
theorem spec_Miller.bits6 : waitsOk spec_Miller.T6.2 spec_Miller.B6 = true := by kernel_rfl
set_option maxHeartbeats 8000000 in
set_option maxRecDepth 100000 in
theorem spec_Miller.calls (k : Nat) (a0_0 : Int) (a0_1 : Int) (a0_2 : Bool) (a1_0 : Int) (a1_1 : Int) (a1_2 : Bool) (r1 : Int) (r2 : Int) (w : World) (h : spec_Miller.f k a0_0 a0_1 a0_2 a1_0 a1_1 a1_2 = some (r1, r2)) :
  Calls Tryd.prog 102 #[.agg #[.int .i64 a0_0, .int .i64 a0_1, .bool a0_2], .agg #[.int .i64 a1_0, .int .i64 a1_1, .bool a1_2]] w fun e w' => e = .returned (.agg #[.int .i64 r1, .int .i64 r2]) ∧ Below w.heap.size w w' := by
 have hu23 := Tryd.underlying23
 have hu80 := Tryd.underlying80
 have HB := Aside0.mk (Below.refl w.heap.size w)
 have H : (spec_Miller.l0 k 8 a0_0 a0_1 a0_2 a1_0 a1_1 a1_2 1 0 a0_0 a0_1 a0_2) = some (r1, r2) := h
 clear h
 have H' := Aside0.mk H
 clear H
 go_enter Tryd.func102, Tryd.ntmps102
 go_wp2_with (first | ((with_reducible refine gate_dst (N := 2) rfl ?_); refine bE 2 #[.int .i64 a0_0, .int .i64 a0_1, .bool a0_2] 23 ?_; intro gb538 hg w3 hbox hb; have BK538 := Aside0.mk (hbox); have GW538 := bG HB hg; have GE538 := bG HB hg; replace HB := bS HB hb; clear hb hbox hg) | ((with_reducible refine gate_dst (N := 3) rfl ?_); refine bE 3 #[.int .i64 a1_0, .int .i64 a1_1, .bool a1_2] 23 ?_; intro gb539 hg w4 hbox hb; have BK539 := Aside0.mk (hbox); have GW539 := bG HB hg; have GE539 := bG HB hg; replace HB := bS HB hb; have NB538_539 := bL BK538 hg; have NB539_538 := bR BK538 hg; replace BK538 := bB BK538 hb; clear hb hbox hg) | ((with_reducible refine gate_dst (N := 4) rfl ?_); refine bE 4 #[.int .i64 0, .int .i64 0] 80 ?_; intro gb540 hg w5 hbox hb; have BK540 := Aside0.mk (hbox); have GW540 := bG HB hg; have GE540 := bG HB hg; replace HB := bS HB hb; have NB538_540 := bL BK538 hg; have NB540_538 := bR BK538 hg; replace BK538 := bB BK538 hb; have NB539_540 := bL BK539 hg; have NB540_539 := bR BK539 hg; replace BK539 := bB BK539 hb; clear hb hbox hg) | ((with_reducible refine gate_dst (N := 5) rfl ?_); refine bE 5 #[.int .i64 0, .int .i64 0] 80 ?_; intro gb541 hg w6 hbox hb; have BK541 := Aside0.mk (hbox); have GW541 := bG HB hg; have GE541 := bG HB hg; replace HB := bS HB hb; have NB538_541 := bL BK538 hg; have NB541_538 := bR BK538 hg; replace BK538 := bB BK538 hb; have NB539_541 := bL BK539 hg; have NB541_539 := bR BK539 hg; replace BK539 := bB BK539 hb; have NB540_541 := bL BK540 hg; have NB541_540 := bR BK540 hg; replace BK540 := bB BK540 hb; clear hb hbox hg; have hnb7 := NB541_538.out; have hnc7 := NB538_541.out; have hnb8 := NB541_539.out; have hnc8 := NB539_541.out; have hnb9 := NB541_540.out; have hnc9 := NB540_541.out; obtain ⟨hcz10_0, hcz10_1, hfz10_0, hfz10_1⟩ := bK2 (w := w6) BK541; have hnb11 := NB538_539.out; have hnc11 := NB539_538.out; have hnb12 := NB538_540.out; have hnc12 := NB540_538.out; obtain ⟨hcz13_0, hcz13_1, hcz13_2, hfz13_0, hfz13_1, hfz13_2⟩ := bK3 (w := w6) BK538) | ((with_reducible refine gate_dst (N := 6) rfl ?_); refine bE 6 #[.int .i64 0, .int .i64 0, .bool false] 23 ?_; intro gb542 hg w14 hbox hb; have BK542 := Aside0.mk (hbox); have GW542 := bG HB hg; have GE542 := bG HB hg; replace HB := bS HB hb; have NB538_542 := bL BK538 hg; have NB542_538 := bR BK538 hg; replace BK538 := bB BK538 hb; have NB539_542 := bL BK539 hg; have NB542_539 := bR BK539 hg; replace BK539 := bB BK539 hb; have NB540_542 := bL BK540 hg; have NB542_540 := bR BK540 hg; replace BK540 := bB BK540 hb; have NB541_542 := Aside0.mk ((by rw [hg]; exact Nat.ne_of_lt (blk_lt (g := gb541) (o := .cells #[.int .i64 1, .int .i64 0] 80 (0, 0)) (bU BK541)) : gb541 ≠ gb542)); have NB542_541 := Aside0.mk ((by rw [hg]; exact Nat.ne_of_gt (blk_lt (g := gb541) (o := .cells #[.int .i64 1, .int .i64 0] 80 (0, 0)) (bU BK541)) : gb542 ≠ gb541)); replace BK541 := bV 80 #[.int .i64 1, .int .i64 0] BK541 hb; clear hb hbox hg; have hnb15 := NB542_538.out; have hnc15 := NB538_542.out; have hnb16 := NB542_539.out; have hnc16 := NB539_542.out; have hnb17 := NB542_540.out; have hnc17 := NB540_542.out; have hnb18 := NB542_541.out; have hnc18 := NB541_542.out; obtain ⟨hcz19_0, hcz19_1, hcz19_2, hfz19_0, hfz19_1, hfz19_2⟩ := bK3 (w := w14) BK542))
 go_loopg [7] k (fun kq v7 w' => ∃ (x7_1 : Int) (x542000_1 : Int) (x542001_1 : Int) (x543000_1 : Int) (x543001_1 : Int) (x543002_1 : Bool), v7 = .int .i64 x7_1 ∧ Aside0 (spec_Miller.l0 kq x7_1 a0_0 a0_1 a0_2 a1_0 a1_1 a1_2 x542000_1 x542001_1 x543000_1 x543001_1 x543002_1 = some (r1, r2)) ∧ Aside0 (kq ≤ k) ∧ Aside0 (w'.heap[gb538]? = some (.cells #[.int .i64 a0_0, .int .i64 a0_1, .bool a0_2] 23 (0, 0))) ∧ Aside0 (w'.heap[gb539]? = some (.cells #[.int .i64 a1_0, .int .i64 a1_1, .bool a1_2] 23 (0, 0))) ∧ Aside0 (w'.heap[gb540]? = some (.cells #[.int .i64 0, .int .i64 0] 80 (0, 0))) ∧ Aside0 (w'.heap[gb541]? = some (.cells #[.int .i64 x542000_1, .int .i64 x542001_1] 80 (0, 0))) ∧ Aside0 (w'.heap[gb542]? = some (.cells #[.int .i64 x543000_1, .int .i64 x543001_1, .bool x543002_1] 23 (0, 0))) ∧ Aside0 (Below w.heap.size w w'))
 case atStart => exact ⟨(8), (1), (0), (a0_0), (a0_1), (a0_2), rS, H', ⟨Nat.le_refl _⟩, ⟨bP BK538⟩, ⟨bP BK539⟩, ⟨bP BK540⟩, ⟨bP BK541⟩, ⟨bU BK542⟩, ⟨bZ HB⟩⟩
 case round =>
  clear H'
  try clear c1
  try clear p2
  try clear c7
  try clear c8
  try clear c9
  try clear c10
  try clear c11
  try clear c12
  try clear c15
  try clear c16
  try clear c17
  try clear c18
  try clear hcz10_0
  try clear hcz10_1
  try clear hcz13_0
  try clear hcz13_1
  try clear hcz13_2
  try clear hcz19_0
  try clear hcz19_1
  try clear hcz19_2
  try clear hfz10_0
  try clear hfz10_1
  try clear hfz13_0
  try clear hfz13_1
  try clear hfz13_2
  try clear hfz19_0
  try clear hfz19_1
  try clear hfz19_2
  obtain ⟨x7_1, x542000_1, x542001_1, x543000_1, x543001_1, x543002_1, rfl, HA, HK1, BK538, BK539, BK540, BK541, BK542, HB⟩ := hrel
  cases gk with
  | zero => exact absurd HA.out (by simp [spec_Miller.l0])
  | succ k1 =>
   have H := HA.out
   clear HA
   simp only [spec_Miller.l0] at H
   by_cases c20 : x7_1 ≥ 0
   ·rw [if_pos c20] at H
    have c20b0 : decide (0 ≤ x7_1) = true := decide_eq_true c20
    clear c20
    replace H := Option.bind_eq_some_iff.mp H
    obtain ⟨⟨t543, t544⟩, A210, H⟩ := H
    have A21 := Aside0.mk A210
    clear A210
    replace H := Option.bind_eq_some_iff.mp H
    obtain ⟨⟨t545, t546⟩, A220, H⟩ := H
    have A22 := Aside0.mk A220
    clear A220
    replace H := Option.bind_eq_some_iff.mp H
    obtain ⟨⟨t547, t548⟩, A230, H⟩ := H
    have A23 := Aside0.mk A230
    clear A230
    replace H := Option.bind_eq_some_iff.mp H
    obtain ⟨⟨t549, t550, t551⟩, A240, H⟩ := H
    have A24 := Aside0.mk A240
    clear A240
    obtain ⟨ji25, hji25⟩ : ∃ j_ : Int, (IntKind.u64.wrap (x7_1)) = j_ := ⟨_, rfl⟩
    replace H : (if 0 ≤ (ji25) then (if ((shr .i64 1009 (ji25)) % 2) = 1 then ((spec_PairLine.f k1 t549 t550 t551 a0_0 a0_1 a0_2 a1_0 a1_1 a1_2).bind fun bt552 => ((spec_TwoMul.f t547 t548 bt552.1 bt552.2).bind fun bt554 => ((spec_PointAdd.f k1 t549 t550 t551 a0_0 a0_1 a0_2).bind fun bt556 => (spec_Miller.l0 k1 (wrap64 (x7_1 - 1)) a0_0 a0_1 a0_2 a1_0 a1_1 a1_2 bt554.1 bt554.2 bt556.1 bt556.2.1 bt556.2.2)))) else (spec_Miller.l0 k1 (wrap64 (x7_1 - 1)) a0_0 a0_1 a0_2 a1_0 a1_1 a1_2 t547 t548 t549 t550 t551)) else (none)) = some (r1, r2) := by first | (rw [hji25] at H; exact H) | (simp only [hji25] at H ⊢; exact H)
    (try rw [hji25] at A21)
    (try rw [hji25] at A22)
    (try rw [hji25] at A23)
    (try rw [hji25] at A24)
    by_cases c26 : 0 ≤ (ji25)
    ·rw [if_pos c26] at H
     have c26b0 := eq_true c26
     have c26b1 : decide (0 ≤ (ji25)) = true := decide_eq_true c26
     clear c26
     obtain ⟨ji27, hji27⟩ : ∃ j_ : Int, (shr .i64 1009 (ji25)) = j_ := ⟨_, rfl⟩
     replace H : (if ((ji27) % 2) = 1 then ((spec_PairLine.f k1 t549 t550 t551 a0_0 a0_1 a0_2 a1_0 a1_1 a1_2).bind fun bt552 => ((spec_TwoMul.f t547 t548 bt552.1 bt552.2).bind fun bt554 => ((spec_PointAdd.f k1 t549 t550 t551 a0_0 a0_1 a0_2).bind fun bt556 => (spec_Miller.l0 k1 (wrap64 (x7_1 - 1)) a0_0 a0_1 a0_2 a1_0 a1_1 a1_2 bt554.1 bt554.2 bt556.1 bt556.2.1 bt556.2.2)))) else (spec_Miller.l0 k1 (wrap64 (x7_1 - 1)) a0_0 a0_1 a0_2 a1_0 a1_1 a1_2 t547 t548 t549 t550 t551)) = some (r1, r2) := by first | (rw [hji27] at H; exact H) | (simp only [hji27] at H ⊢; exact H)
     (try rw [hji27] at A21)
     (try rw [hji27] at A22)
     (try rw [hji27] at A23)
     (try rw [hji27] at A24)
     have hji27_ : (1009 / 2 ^ min (ji25).toNat 64) = ji27 := hji27
     have hji27z : (ji25) ≤ 64 → (1009 / 2 ^ (ji25).toNat) = ji27 := shr_small hji27
     have hji27t : ∀ m_ : Int, Int.tmod ji27 m_ = ji27 % m_ := fun m_ => Int.tmod_eq_emod_of_nonneg (by rw [← hji27_]; exact Int.ediv_nonneg (by decide) (Int.le_of_lt (Int.pow_pos (by decide))))
     by_cases c28 : ((ji27) % 2) = 1
     ·rw [if_pos c28] at H
      have c28b0 : (((ji27) % 2) == 1) = true := beq_iff_eq.mpr c28
      have c28b1 : (((ji27) % 2) != 1) = false := bne_eq_false_iff_eq.mpr c28
      clear c28
      replace H := Option.bind_eq_some_iff.mp H
      obtain ⟨⟨t552, t553⟩, A290, H⟩ := H
      have A29 := Aside0.mk A290
      clear A290
      replace H := Option.bind_eq_some_iff.mp H
      obtain ⟨⟨t554, t555⟩, A300, H⟩ := H
      have A30 := Aside0.mk A300
      clear A300
      replace H := Option.bind_eq_some_iff.mp H
      obtain ⟨⟨t556, t557, t558⟩, A310, H⟩ := H
      have A31 := Aside0.mk A310
      clear A310
      have H' := Aside0.mk H
      clear H
      try go_wp2
      replace BK538 := Aside0.mk (blk_drew BK538.out)
      replace BK539 := Aside0.mk (blk_drew BK539.out)
      replace BK540 := Aside0.mk (blk_drew BK540.out)
      replace BK541 := Aside0.mk (blk_drew BK541.out)
      replace BK542 := Aside0.mk (blk_drew BK542.out)
      replace HB := Aside0.mk (below_drew1 HB.out)
      refine start_ (n := 9) (S := fun w' => w'.cell? ⟨gb541, 0, none⟩ = some (.int .i64 x542000_1) ∧ w'.cell? ⟨gb541, 1, none⟩ = some (.int .i64 x542001_1) ∧ w'.cell? ⟨gb542, 0, none⟩ = some (.int .i64 x543000_1) ∧ w'.cell? ⟨gb542, 1, none⟩ = some (.int .i64 x543001_1) ∧ w'.cell? ⟨gb542, 2, none⟩ = some (.bool x543002_1) ∧ w'.cell? ⟨gb539, 0, none⟩ = some (.int .i64 a1_0) ∧ w'.cell? ⟨gb539, 1, none⟩ = some (.int .i64 a1_1) ∧ w'.cell? ⟨gb539, 2, none⟩ = some (.bool a1_2)) (ds := [8]) #[false, false, false, false, false, false, false, false, false] (by kernel_rfl) rfl rfl ⟨bc BK541 0, bc BK541 1, bc BK542 0, bc BK542 1, bc BK542 2, bc BK539 0, bc BK539 1, bc BK539 2⟩ (fun hHeld => ?_); refine with_tabW spec_Miller.tab6 spec_Miller.bits6 (fun HT_ HW_ => ?_)
      generalize wr.drew = w32 at BK538 BK539 BK540 BK541 BK542 HB hHeld ⊢
      refine tI8 0 (some 14) HT_.out HW_.out hHeld ?_
      refine tI8 1 (some 15) HT_.out HW_.out hHeld ?_
      refine tI8 3 (some 17) HT_.out HW_.out hHeld ?_
      refine tI8 4 (some 18) HT_.out HW_.out hHeld ?_
      refine tI8 5 (some 19) HT_.out HW_.out hHeld ?_
      refine oI 2 (some 16) HT_.out (fun K hK => ?_)
      refine gO Tryd.func104 #[.agg #[.int .i64 x542000_1, .int .i64 x542001_1], .agg #[.int .i64 x542000_1, .int .i64 x542001_1]] ?_
      with_reducible refine (spec_TwoMul.calls x542000_1 x542001_1 x542000_1 x542001_1 t543 t544 _ A21.out).mono ?_
      rintro e w33 ⟨rfl, hb⟩
      refine ⟨_, rfl, ?_⟩
      replace BK538 := bB BK538 hb
      replace BK539 := bB BK539 hb
      replace BK540 := bB BK540 hb
      replace BK541 := bB BK541 hb
      replace BK542 := bB BK542 hb
      replace HB := bS HB hb
      (try clear hb)
      refine hK.out _ _ ⟨bc BK541 0, bc BK541 1, bc BK542 0, bc BK542 1, bc BK542 2, bc BK539 0, bc BK539 1, bc BK539 2⟩ (fun hHeld => ?_)
      clear hK K
      refine nO (some 16) ?_
      refine oI 6 (some 20) HT_.out (fun K hK => ?_)
      refine gO Tryd.func130 #[.agg #[.int .i64 x543000_1, .int .i64 x543001_1, .bool x543002_1], .agg #[.int .i64 x543000_1, .int .i64 x543001_1, .bool x543002_1], .agg #[.int .i64 a1_0, .int .i64 a1_1, .bool a1_2]] ?_
      with_reducible refine (spec_PairLine.calls k1 x543000_1 x543001_1 x543002_1 x543000_1 x543001_1 x543002_1 a1_0 a1_1 a1_2 t545 t546 _ A22.out).mono ?_
      rintro e w34 ⟨rfl, hb⟩
      refine ⟨_, rfl, ?_⟩
      replace BK538 := bB BK538 hb
      replace BK539 := bB BK539 hb
      replace BK540 := bB BK540 hb
      replace BK541 := bB BK541 hb
      replace BK542 := bB BK542 hb
      replace HB := bS HB hb
      (try clear hb)
      refine hK.out _ _ ⟨bc BK541 0, bc BK541 1, bc BK542 0, bc BK542 1, bc BK542 2, bc BK539 0, bc BK539 1, bc BK539 2⟩ (fun hHeld => ?_)
      clear hK K
      refine nO (some 20) ?_
      refine oI 7 (some 21) HT_.out (fun K hK => ?_)
      refine gO Tryd.func104 #[.agg #[.int .i64 t543, .int .i64 t544], .agg #[.int .i64 t545, .int .i64 t546]] ?_
      with_reducible refine (spec_TwoMul.calls t543 t544 t545 t546 t547 t548 _ A23.out).mono ?_
      rintro e w35 ⟨rfl, hb⟩
      refine ⟨_, rfl, ?_⟩
      replace BK538 := bB BK538 hb
      replace BK539 := bB BK539 hb
      replace BK540 := bB BK540 hb
      replace BK541 := bB BK541 hb
      replace BK542 := bB BK542 hb
      replace HB := bS HB hb
      (try clear hb)
      refine hK.out _ _ ⟨bc BK541 0, bc BK541 1, bc BK542 0, bc BK542 1, bc BK542 2, bc BK539 0, bc BK539 1, bc BK539 2⟩ (fun hHeld => ?_)
      clear hK K
      refine nO (some 21) ?_
      refine last_ (i := 8) (N := none) #[true, true, true, true, true, true, true, true, true] rfl rfl (one_of HT_.out (by kernel_rfl)) (by decide) (fun K hK => ?_)
      have hs36 : w35.cell? ⟨gb541, 0, none⟩ = some (.int .i64 x542000_1) := bc BK541 0
      have hfs36 := blk_frozen BK541.out 0
      have hns36_0 := NB538_541.out
      have hns36_1 := NB539_541.out
      have hns36_2 := NB540_541.out
      have hns36_4 := NB542_541.out
      have hms36_0 := NB541_538.out
      have hms36_1 := NB541_539.out
      have hms36_2 := NB541_540.out
      have hms36_4 := NB541_542.out
      have hs37 : w35.cell? ⟨gb541, 1, none⟩ = some (.int .i64 x542001_1) := bc BK541 1
      have hfs37 := blk_frozen BK541.out 1
      have hns37_0 := NB538_541.out
      have hns37_1 := NB539_541.out
      have hns37_2 := NB540_541.out
      have hns37_4 := NB542_541.out
      have hms37_0 := NB541_538.out
      have hms37_1 := NB541_539.out
      have hms37_2 := NB541_540.out
      have hms37_4 := NB541_542.out
      refine skip_ (w1 := ?_) (by rfl) rfl ?_ ?_
      rotate_left
      ·go_simp
       rfl
      refine hK.out _ _ ?_
      clear hK K
      refine done_ (done_of HT_.out (by kernel_rfl)) ?_
      have hnb38 := NB542_538.out
      have hnc38 := NB538_542.out
      have hnb39 := NB542_539.out
      have hnc39 := NB539_542.out
      have hnb40 := NB542_540.out
      have hnc40 := NB540_542.out
      have hnb41 := NB542_541.out
      have hnc41 := NB541_542.out
      obtain ⟨hcz42_0, hcz42_1, hcz42_2, hfz42_0, hfz42_1, hfz42_2⟩ := bK3 (w := w35) BK542
      try go_wp2_with (first | ((with_reducible refine gate_callee (f := 115) rfl ?_); refine gL (some 24) Tryd.func115 #[.agg #[.int .i64 x543000_1, .int .i64 x543001_1, .bool x543002_1], .agg #[.int .i64 x543000_1, .int .i64 x543001_1, .bool x543002_1]] ?_; (with_reducible refine (spec_PointAdd.calls k1 x543000_1 x543001_1 x543002_1 x543000_1 x543001_1 x543002_1 t549 t550 t551 _ A24.out).mono ?_); rintro e w43 ⟨rfl, hb⟩; refine ⟨_, rfl, ?_⟩; replace BK538 := bB BK538 hb; replace BK539 := bB BK539 hb; replace BK540 := bB BK540 hb; replace BK541 := bV 80 #[.int .i64 t547, .int .i64 t548] BK541 hb; replace BK542 := bB BK542 hb; replace HB := bS HB hb; (try clear hb); obtain ⟨hcz44_0, hcz44_1, hcz44_2, hfz44_0, hfz44_1, hfz44_2⟩ := bK3 (w := w43) BK542))
      have n0_ : Aside0 ((((w43.setCell ⟨gb542, 0, none⟩ (.int .i64 t549)).setCell ⟨gb542, 1, none⟩ (.int .i64 t550)).setCell ⟨gb542, 2, none⟩ (.bool t551)).heap[gb538]? = some (.cells #[.int .i64 a0_0, .int .i64 a0_1, .bool a0_2] 23 (0, 0))) := ⟨bP BK538⟩
      have n1_ : Aside0 ((((w43.setCell ⟨gb542, 0, none⟩ (.int .i64 t549)).setCell ⟨gb542, 1, none⟩ (.int .i64 t550)).setCell ⟨gb542, 2, none⟩ (.bool t551)).heap[gb539]? = some (.cells #[.int .i64 a1_0, .int .i64 a1_1, .bool a1_2] 23 (0, 0))) := ⟨bP BK539⟩
      have n2_ : Aside0 ((((w43.setCell ⟨gb542, 0, none⟩ (.int .i64 t549)).setCell ⟨gb542, 1, none⟩ (.int .i64 t550)).setCell ⟨gb542, 2, none⟩ (.bool t551)).heap[gb540]? = some (.cells #[.int .i64 0, .int .i64 0] 80 (0, 0))) := ⟨bP BK540⟩
      have n3_ : Aside0 ((((w43.setCell ⟨gb542, 0, none⟩ (.int .i64 t549)).setCell ⟨gb542, 1, none⟩ (.int .i64 t550)).setCell ⟨gb542, 2, none⟩ (.bool t551)).heap[gb541]? = some (.cells #[.int .i64 t547, .int .i64 t548] 80 (0, 0))) := ⟨bP BK541⟩
      have n4_ : Aside0 ((((w43.setCell ⟨gb542, 0, none⟩ (.int .i64 t549)).setCell ⟨gb542, 1, none⟩ (.int .i64 t550)).setCell ⟨gb542, 2, none⟩ (.bool t551)).heap[gb542]? = some (.cells #[.int .i64 t549, .int .i64 t550, .bool t551] 23 (0, 0))) := ⟨bU BK542⟩
      have n5_ : Aside0 (Below w.heap.size w (((w43.setCell ⟨gb542, 0, none⟩ (.int .i64 t549)).setCell ⟨gb542, 1, none⟩ (.int .i64 t550)).setCell ⟨gb542, 2, none⟩ (.bool t551))) := ⟨bZ HB⟩
      (try clear BK538)
      (try clear BK539)
      (try clear BK540)
      (try clear BK541)
      (try clear BK542)
      (try clear HB)
      generalize (((w43.setCell ⟨gb542, 0, none⟩ (.int .i64 t549)).setCell ⟨gb542, 1, none⟩ (.int .i64 t550)).setCell ⟨gb542, 2, none⟩ (.bool t551)) = w45 at n0_ n1_ n2_ n3_ n4_ n5_ ⊢
      have BK538 := n0_
      have BK539 := n1_
      have BK540 := n2_
      have BK541 := n3_
      have BK542 := n4_
      have HB := n5_
      clear n0_ n1_ n2_ n3_ n4_ n5_
      replace BK538 := Aside0.mk (blk_drew BK538.out)
      replace BK539 := Aside0.mk (blk_drew BK539.out)
      replace BK540 := Aside0.mk (blk_drew BK540.out)
      replace BK541 := Aside0.mk (blk_drew BK541.out)
      replace BK542 := Aside0.mk (blk_drew BK542.out)
      replace HB := Aside0.mk (below_drew1 HB.out)
      refine start_ (n := 7) (S := fun w' => w'.cell? ⟨gb541, 0, none⟩ = some (.int .i64 t547) ∧ w'.cell? ⟨gb541, 1, none⟩ = some (.int .i64 t548) ∧ w'.cell? ⟨gb542, 0, none⟩ = some (.int .i64 t549) ∧ w'.cell? ⟨gb542, 1, none⟩ = some (.int .i64 t550) ∧ w'.cell? ⟨gb542, 2, none⟩ = some (.bool t551) ∧ w'.cell? ⟨gb538, 0, none⟩ = some (.int .i64 a0_0) ∧ w'.cell? ⟨gb538, 1, none⟩ = some (.int .i64 a0_1) ∧ w'.cell? ⟨gb538, 2, none⟩ = some (.bool a0_2) ∧ w'.cell? ⟨gb539, 0, none⟩ = some (.int .i64 a1_0) ∧ w'.cell? ⟨gb539, 1, none⟩ = some (.int .i64 a1_1) ∧ w'.cell? ⟨gb539, 2, none⟩ = some (.bool a1_2)) (ds := [6]) #[false, false, false, false, false, false, false] (by kernel_rfl) rfl rfl ⟨bc BK541 0, bc BK541 1, bc BK542 0, bc BK542 1, bc BK542 2, bc BK538 0, bc BK538 1, bc BK538 2, bc BK539 0, bc BK539 1, bc BK539 2⟩ (fun hHeld => ?_)
      generalize w45.drew = w46 at BK538 BK539 BK540 BK541 BK542 HB hHeld ⊢
      refine take_ (i := 0) (N := some 30) (v := ?_) (a' := ?_) #[true, false, false, false, false, false, false] rfl rfl (by kernel_rfl) (fun _ _ _ h => h) (Or.inl ⟨by rfl, ?_⟩) hHeld ?_ ?_
      rotate_left
      ·rintro w' ⟨s0, s1, s2, s3, s4, s5, s6, s7, s8, s9, s10⟩
       go_simp
       with_reducible rfl
      rotate_left
      ·simp only [Act.put, List.setIfInBounds_toArray, List.set_cons_zero, List.set_cons_succ, i64_w, i32_w]
       rfl
      refine take_ (i := 1) (N := some 31) (v := ?_) (a' := ?_) #[true, true, false, false, false, false, false] rfl rfl (by kernel_rfl) (fun _ _ _ h => h) (Or.inl ⟨by rfl, ?_⟩) hHeld ?_ ?_
      rotate_left
      ·rintro w' ⟨s0, s1, s2, s3, s4, s5, s6, s7, s8, s9, s10⟩
       go_simp
       with_reducible rfl
      rotate_left
      ·simp only [Act.put, List.setIfInBounds_toArray, List.set_cons_zero, List.set_cons_succ, i64_w, i32_w]
       rfl
      refine take_ (i := 2) (N := some 32) (v := ?_) (a' := ?_) #[true, true, true, false, false, false, false] rfl rfl (by kernel_rfl) (fun _ _ _ h => h) (Or.inl ⟨by rfl, ?_⟩) hHeld ?_ ?_
      rotate_left
      ·rintro w' ⟨s0, s1, s2, s3, s4, s5, s6, s7, s8, s9, s10⟩
       go_simp
       with_reducible rfl
      rotate_left
      ·simp only [Act.put, List.setIfInBounds_toArray, List.set_cons_zero, List.set_cons_succ, i64_w, i32_w]
       rfl
      refine take_ (i := 3) (N := some 33) (v := ?_) (a' := ?_) #[true, true, true, true, false, false, false] rfl rfl (by kernel_rfl) (fun _ _ _ h => h) (Or.inl ⟨by rfl, ?_⟩) hHeld ?_ ?_
      rotate_left
      ·rintro w' ⟨s0, s1, s2, s3, s4, s5, s6, s7, s8, s9, s10⟩
       go_simp
       with_reducible rfl
      rotate_left
      ·simp only [Act.put, List.setIfInBounds_toArray, List.set_cons_zero, List.set_cons_succ, i64_w, i32_w]
       rfl
      refine one_ (i := 4) (N := some 34) #[true, true, true, true, true, false, false] rfl rfl (by kernel_rfl) (by decide) (fun K hK => ?_)
      refine gO Tryd.func130 #[.agg #[.int .i64 t549, .int .i64 t550, .bool t551], .agg #[.int .i64 a0_0, .int .i64 a0_1, .bool a0_2], .agg #[.int .i64 a1_0, .int .i64 a1_1, .bool a1_2]] ?_
      with_reducible refine (spec_PairLine.calls k1 t549 t550 t551 a0_0 a0_1 a0_2 a1_0 a1_1 a1_2 t552 t553 _ A29.out).mono ?_
      rintro e w47 ⟨rfl, hb⟩
      refine ⟨_, rfl, ?_⟩
      replace BK538 := bB BK538 hb
      replace BK539 := bB BK539 hb
      replace BK540 := bB BK540 hb
      replace BK541 := bB BK541 hb
      replace BK542 := bB BK542 hb
      replace HB := bS HB hb
      (try clear hb)
      refine hK.out _ _ ⟨bc BK541 0, bc BK541 1, bc BK542 0, bc BK542 1, bc BK542 2, bc BK538 0, bc BK538 1, bc BK538 2, bc BK539 0, bc BK539 1, bc BK539 2⟩ (fun hHeld => ?_)
      clear hK K
      refine nO (some 34) ?_
      refine one_ (i := 5) (N := some 35) #[true, true, true, true, true, true, false] rfl rfl (by kernel_rfl) (by decide) (fun K hK => ?_)
      refine gO Tryd.func104 #[.agg #[.int .i64 t547, .int .i64 t548], .agg #[.int .i64 t552, .int .i64 t553]] ?_
      with_reducible refine (spec_TwoMul.calls t547 t548 t552 t553 t554 t555 _ A30.out).mono ?_
      rintro e w48 ⟨rfl, hb⟩
      refine ⟨_, rfl, ?_⟩
      replace BK538 := bB BK538 hb
      replace BK539 := bB BK539 hb
      replace BK540 := bB BK540 hb
      replace BK541 := bB BK541 hb
      replace BK542 := bB BK542 hb
      replace HB := bS HB hb
      (try clear hb)
      refine hK.out _ _ ⟨bc BK541 0, bc BK541 1, bc BK542 0, bc BK542 1, bc BK542 2, bc BK538 0, bc BK538 1, bc BK538 2, bc BK539 0, bc BK539 1, bc BK539 2⟩ (fun hHeld => ?_)
      clear hK K
      refine nO (some 35) ?_
      refine last_ (i := 6) (N := none) #[true, true, true, true, true, true, true] rfl rfl (by kernel_rfl) (by decide) (fun K hK => ?_)
      have hs49 : w48.cell? ⟨gb541, 0, none⟩ = some (.int .i64 t547) := bc BK541 0
      have hfs49 := blk_frozen BK541.out 0
      have hns49_0 := NB538_541.out
      have hns49_1 := NB539_541.out
      have hns49_2 := NB540_541.out
      have hns49_4 := NB542_541.out
      have hms49_0 := NB541_538.out
      have hms49_1 := NB541_539.out
      have hms49_2 := NB541_540.out
      have hms49_4 := NB541_542.out
      have hs50 : w48.cell? ⟨gb541, 1, none⟩ = some (.int .i64 t548) := bc BK541 1
      have hfs50 := blk_frozen BK541.out 1
      have hns50_0 := NB538_541.out
      have hns50_1 := NB539_541.out
      have hns50_2 := NB540_541.out
      have hns50_4 := NB542_541.out
      have hms50_0 := NB541_538.out
      have hms50_1 := NB541_539.out
      have hms50_2 := NB541_540.out
      have hms50_4 := NB541_542.out
      refine skip_ (w1 := ?_) (by rfl) rfl ?_ ?_
      rotate_left
      ·go_simp
       rfl
      refine hK.out _ _ ?_
      clear hK K
      refine done_ (by kernel_rfl) ?_
      obtain ⟨hcz51_0, hcz51_1, hcz51_2, hfz51_0, hfz51_1, hfz51_2⟩ := bK3 (w := w48) BK542
      have hnb52 := NB538_539.out
      have hnc52 := NB539_538.out
      have hnb53 := NB538_540.out
      have hnc53 := NB540_538.out
      have hnb54 := NB538_541.out
      have hnc54 := NB541_538.out
      obtain ⟨hcz55_0, hcz55_1, hcz55_2, hfz55_0, hfz55_1, hfz55_2⟩ := bK3 (w := w48) BK538
      try go_wp2_with (first | ((with_reducible refine gate_callee (f := 115) rfl ?_); refine gL (some 38) Tryd.func115 #[.agg #[.int .i64 t549, .int .i64 t550, .bool t551], .agg #[.int .i64 a0_0, .int .i64 a0_1, .bool a0_2]] ?_; (with_reducible refine (spec_PointAdd.calls k1 t549 t550 t551 a0_0 a0_1 a0_2 t556 t557 t558 _ A31.out).mono ?_); rintro e w56 ⟨rfl, hb⟩; refine ⟨_, rfl, ?_⟩; replace BK538 := bB BK538 hb; replace BK539 := bB BK539 hb; replace BK540 := bB BK540 hb; replace BK541 := bV 80 #[.int .i64 t554, .int .i64 t555] BK541 hb; replace BK542 := bB BK542 hb; replace HB := bS HB hb; (try clear hb); obtain ⟨hcz57_0, hcz57_1, hcz57_2, hfz57_0, hfz57_1, hfz57_2⟩ := bK3 (w := w56) BK542))
      go_roundg k1
      case measure => have := HK1.out; omega
      case rel => exact ⟨(wrap64 (x7_1 - 1)), (t554), (t555), (t556), (t557), (t558), rS, H', ⟨by have := HK1.out; omega⟩, ⟨bP BK538⟩, ⟨bP BK539⟩, ⟨bP BK540⟩, ⟨bP BK541⟩, ⟨bU BK542⟩, ⟨bZ HB⟩⟩
     ·rw [if_neg c28] at H
      have c28b0 : (((ji27) % 2) == 1) = false := beq_eq_false_iff_ne.mpr c28
      have c28b1 : (((ji27) % 2) != 1) = true := bne_iff_ne.mpr c28
      have H' := Aside0.mk H
      clear H
      try go_wp2
      replace BK538 := Aside0.mk (blk_drew BK538.out)
      replace BK539 := Aside0.mk (blk_drew BK539.out)
      replace BK540 := Aside0.mk (blk_drew BK540.out)
      replace BK541 := Aside0.mk (blk_drew BK541.out)
      replace BK542 := Aside0.mk (blk_drew BK542.out)
      replace HB := Aside0.mk (below_drew1 HB.out)
      refine start_ (n := 9) (S := fun w' => w'.cell? ⟨gb541, 0, none⟩ = some (.int .i64 x542000_1) ∧ w'.cell? ⟨gb541, 1, none⟩ = some (.int .i64 x542001_1) ∧ w'.cell? ⟨gb542, 0, none⟩ = some (.int .i64 x543000_1) ∧ w'.cell? ⟨gb542, 1, none⟩ = some (.int .i64 x543001_1) ∧ w'.cell? ⟨gb542, 2, none⟩ = some (.bool x543002_1) ∧ w'.cell? ⟨gb539, 0, none⟩ = some (.int .i64 a1_0) ∧ w'.cell? ⟨gb539, 1, none⟩ = some (.int .i64 a1_1) ∧ w'.cell? ⟨gb539, 2, none⟩ = some (.bool a1_2)) (ds := [8]) #[false, false, false, false, false, false, false, false, false] (by kernel_rfl) rfl rfl ⟨bc BK541 0, bc BK541 1, bc BK542 0, bc BK542 1, bc BK542 2, bc BK539 0, bc BK539 1, bc BK539 2⟩ (fun hHeld => ?_); refine with_tabW spec_Miller.tab6 spec_Miller.bits6 (fun HT_ HW_ => ?_)
      generalize wr.drew = w58 at BK538 BK539 BK540 BK541 BK542 HB hHeld ⊢
      refine tI8 0 (some 14) HT_.out HW_.out hHeld ?_
      refine tI8 1 (some 15) HT_.out HW_.out hHeld ?_
      refine tI8 3 (some 17) HT_.out HW_.out hHeld ?_
      refine tI8 4 (some 18) HT_.out HW_.out hHeld ?_
      refine tI8 5 (some 19) HT_.out HW_.out hHeld ?_
      refine oI 2 (some 16) HT_.out (fun K hK => ?_)
      refine gO Tryd.func104 #[.agg #[.int .i64 x542000_1, .int .i64 x542001_1], .agg #[.int .i64 x542000_1, .int .i64 x542001_1]] ?_
      with_reducible refine (spec_TwoMul.calls x542000_1 x542001_1 x542000_1 x542001_1 t543 t544 _ A21.out).mono ?_
      rintro e w59 ⟨rfl, hb⟩
      refine ⟨_, rfl, ?_⟩
      replace BK538 := bB BK538 hb
      replace BK539 := bB BK539 hb
      replace BK540 := bB BK540 hb
      replace BK541 := bB BK541 hb
      replace BK542 := bB BK542 hb
      replace HB := bS HB hb
      (try clear hb)
      refine hK.out _ _ ⟨bc BK541 0, bc BK541 1, bc BK542 0, bc BK542 1, bc BK542 2, bc BK539 0, bc BK539 1, bc BK539 2⟩ (fun hHeld => ?_)
      clear hK K
      refine nO (some 16) ?_
      refine oI 6 (some 20) HT_.out (fun K hK => ?_)
      refine gO Tryd.func130 #[.agg #[.int .i64 x543000_1, .int .i64 x543001_1, .bool x543002_1], .agg #[.int .i64 x543000_1, .int .i64 x543001_1, .bool x543002_1], .agg #[.int .i64 a1_0, .int .i64 a1_1, .bool a1_2]] ?_
      with_reducible refine (spec_PairLine.calls k1 x543000_1 x543001_1 x543002_1 x543000_1 x543001_1 x543002_1 a1_0 a1_1 a1_2 t545 t546 _ A22.out).mono ?_
      rintro e w60 ⟨rfl, hb⟩
      refine ⟨_, rfl, ?_⟩
      replace BK538 := bB BK538 hb
      replace BK539 := bB BK539 hb
      replace BK540 := bB BK540 hb
      replace BK541 := bB BK541 hb
      replace BK542 := bB BK542 hb
      replace HB := bS HB hb
      (try clear hb)
      refine hK.out _ _ ⟨bc BK541 0, bc BK541 1, bc BK542 0, bc BK542 1, bc BK542 2, bc BK539 0, bc BK539 1, bc BK539 2⟩ (fun hHeld => ?_)
      clear hK K
      refine nO (some 20) ?_
      refine oI 7 (some 21) HT_.out (fun K hK => ?_)
      refine gO Tryd.func104 #[.agg #[.int .i64 t543, .int .i64 t544], .agg #[.int .i64 t545, .int .i64 t546]] ?_
      with_reducible refine (spec_TwoMul.calls t543 t544 t545 t546 t547 t548 _ A23.out).mono ?_
      rintro e w61 ⟨rfl, hb⟩
      refine ⟨_, rfl, ?_⟩
      replace BK538 := bB BK538 hb
      replace BK539 := bB BK539 hb
      replace BK540 := bB BK540 hb
      replace BK541 := bB BK541 hb
      replace BK542 := bB BK542 hb
      replace HB := bS HB hb
      (try clear hb)
      refine hK.out _ _ ⟨bc BK541 0, bc BK541 1, bc BK542 0, bc BK542 1, bc BK542 2, bc BK539 0, bc BK539 1, bc BK539 2⟩ (fun hHeld => ?_)
      clear hK K
      refine nO (some 21) ?_
      refine last_ (i := 8) (N := none) #[true, true, true, true, true, true, true, true, true] rfl rfl (one_of HT_.out (by kernel_rfl)) (by decide) (fun K hK => ?_)
      have hs62 : w61.cell? ⟨gb541, 0, none⟩ = some (.int .i64 x542000_1) := bc BK541 0
      have hfs62 := blk_frozen BK541.out 0
      have hns62_0 := NB538_541.out
      have hns62_1 := NB539_541.out
      have hns62_2 := NB540_541.out
      have hns62_4 := NB542_541.out
      have hms62_0 := NB541_538.out
      have hms62_1 := NB541_539.out
      have hms62_2 := NB541_540.out
      have hms62_4 := NB541_542.out
      have hs63 : w61.cell? ⟨gb541, 1, none⟩ = some (.int .i64 x542001_1) := bc BK541 1
      have hfs63 := blk_frozen BK541.out 1
      have hns63_0 := NB538_541.out
      have hns63_1 := NB539_541.out
      have hns63_2 := NB540_541.out
      have hns63_4 := NB542_541.out
      have hms63_0 := NB541_538.out
      have hms63_1 := NB541_539.out
      have hms63_2 := NB541_540.out
      have hms63_4 := NB541_542.out
      refine skip_ (w1 := ?_) (by rfl) rfl ?_ ?_
      rotate_left
      ·go_simp
       rfl
      refine hK.out _ _ ?_
      clear hK K
      refine done_ (done_of HT_.out (by kernel_rfl)) ?_
      have hnb64 := NB542_538.out
      have hnc64 := NB538_542.out
      have hnb65 := NB542_539.out
      have hnc65 := NB539_542.out
      have hnb66 := NB542_540.out
      have hnc66 := NB540_542.out
      have hnb67 := NB542_541.out
      have hnc67 := NB541_542.out
      obtain ⟨hcz68_0, hcz68_1, hcz68_2, hfz68_0, hfz68_1, hfz68_2⟩ := bK3 (w := w61) BK542
      try go_wp2_with (first | ((with_reducible refine gate_callee (f := 115) rfl ?_); refine gL (some 24) Tryd.func115 #[.agg #[.int .i64 x543000_1, .int .i64 x543001_1, .bool x543002_1], .agg #[.int .i64 x543000_1, .int .i64 x543001_1, .bool x543002_1]] ?_; (with_reducible refine (spec_PointAdd.calls k1 x543000_1 x543001_1 x543002_1 x543000_1 x543001_1 x543002_1 t549 t550 t551 _ A24.out).mono ?_); rintro e w69 ⟨rfl, hb⟩; refine ⟨_, rfl, ?_⟩; replace BK538 := bB BK538 hb; replace BK539 := bB BK539 hb; replace BK540 := bB BK540 hb; replace BK541 := bV 80 #[.int .i64 t547, .int .i64 t548] BK541 hb; replace BK542 := bB BK542 hb; replace HB := bS HB hb; (try clear hb); obtain ⟨hcz70_0, hcz70_1, hcz70_2, hfz70_0, hfz70_1, hfz70_2⟩ := bK3 (w := w69) BK542))
      go_roundg k1
      case measure => have := HK1.out; omega
      case rel => exact ⟨(wrap64 (x7_1 - 1)), (t547), (t548), (t549), (t550), (t551), rS, H', ⟨by have := HK1.out; omega⟩, ⟨bP BK538⟩, ⟨bP BK539⟩, ⟨bP BK540⟩, ⟨bP BK541⟩, ⟨bU BK542⟩, ⟨bZ HB⟩⟩
    ·rw [if_neg c26] at H
     exact absurd H (by simp)
   ·rw [if_neg c20] at H
    have c20b0 : decide (0 ≤ x7_1) = false := decide_eq_false c20
    clear c20
    simp only [Option.some.injEq, Prod.mk.injEq] at H
    obtain ⟨rfl, rfl⟩ := H
    have hnb71 := NB541_538.out
    have hnc71 := NB538_541.out
    have hnb72 := NB541_539.out
    have hnc72 := NB539_541.out
    have hnb73 := NB541_540.out
    have hnc73 := NB540_541.out
    have hnb74 := NB541_542.out
    have hnc74 := NB542_541.out
    obtain ⟨hcz75_0, hcz75_1, hfz75_0, hfz75_1⟩ := bK2 (w := wr) BK541
    have hnb76 := NB540_538.out
    have hnc76 := NB538_540.out
    have hnb77 := NB540_539.out
    have hnc77 := NB539_540.out
    have hnb78 := NB540_542.out
    have hnc78 := NB542_540.out
    obtain ⟨hcz79_0, hcz79_1, hfz79_0, hfz79_1⟩ := bK2 (w := wr) BK540
    go_wp2
    refine rC gb540 80 #[.int .i64 x542000_1, .int .i64 x542001_1] (bU BK540) Tryd.underlying80 ?_
    exact ⟨rR, bZ HB⟩
/-! ### spec_TwoPow: function 103 -/
def spec_TwoPow.l0 : Nat → Int → Int → Int → Int → Int → Option (Int × Int)
 | 0, _, _, _, _, _ => none
 | k + 1, x1, x562000, x562001, x565000, x565001 => if x1 > 0 then (if (Int.tmod x1 2) = 1 then ((spec_TwoMul.f x562000 x562001 x565000 x565001).bind fun bt565 => ((spec_TwoMul.f x565000 x565001 x565000 x565001).bind fun bt567 => (spec_TwoPow.l0 k (wrap64 (Int.tdiv x1 2)) bt565.1 bt565.2 bt567.1 bt567.2))) else ((spec_TwoMul.f x565000 x565001 x565000 x565001).bind fun bt569 => (spec_TwoPow.l0 k (wrap64 (Int.tdiv x1 2)) x562000 x562001 bt569.1 bt569.2))) else (some (x562000, x562001))
def spec_TwoPow.f (k : Nat) (a0_0 : Int) (a0_1 : Int) (a1 : Int) : Option (Int × Int) := if a1 < 0 then (some (0, 0)) else ((spec_FpOf.f a0_0).bind fun t562 => ((spec_FpOf.f a0_1).bind fun t563 => (spec_TwoPow.l0 k a1 1 0 t562 t563)))
theorem spec_TwoPow.mono_l : ∀ k, (∀ y0 y1 y2 y3 y4, LeO (spec_TwoPow.l0 k y0 y1 y2 y3 y4) (spec_TwoPow.l0 (k + 1) y0 y1 y2 y3 y4))
 | 0 => fun _ _ _ _ _ r h => by simp [spec_TwoPow.l0] at h
 | k + 1 => by
  have ih0 := spec_TwoPow.mono_l k
  ·intro y0 y1 y2 y3 y4
   unfold spec_TwoPow.l0
   repeat' first
   | (with_reducible exact ih0 _ _ _ _ _)
   | (with_reducible exact LeO.refl _)
   | (with_reducible exact LeO.none _)
   | (with_reducible refine LeO.ite ?_ ?_)
   | (with_reducible refine LeO.bind ?_ (fun _ => ?_))
   | exact ih0 _ _ _ _ _
   | exact LeO.none _
   | refine LeO.ite ?_ ?_
   | refine LeO.bind ?_ (fun _ => ?_)
theorem spec_TwoPow.mono : ∀ a0 a1 a2 k, LeO (spec_TwoPow.f k a0 a1 a2) (spec_TwoPow.f (k + 1) a0 a1 a2) := by
 intro a0 a1 a2 k
 have ih0 := spec_TwoPow.mono_l k
 unfold spec_TwoPow.f
 repeat' first
   | (with_reducible exact ih0 _ _ _ _ _)
   | (with_reducible exact LeO.refl _)
   | (with_reducible exact LeO.none _)
   | (with_reducible refine LeO.ite ?_ ?_)
   | (with_reducible refine LeO.bind ?_ (fun _ => ?_))
   | exact ih0 _ _ _ _ _
   | exact LeO.none _
   | refine LeO.ite ?_ ?_
   | refine LeO.bind ?_ (fun _ => ?_)
def spec_TwoPow.T4 : Bool × List (List Nat × List Nat) := (true, [([], []), ([0], [0]), ([1], [1]), ([], []), ([3], [3]), ([4, 2], [4]), ([2, 5], [2, 5]), ([], []), ([7, 6, 5, 0, 1, 2, 3, 4, 5, 6, 7], [6, 7])])
def spec_TwoPow.B4 : List Nat := [0, 1, 3, 0, 8, 31, 63, 0, 255]
theorem spec_TwoPow.tab4 : rtab .any (opsOf Tryd.f103 4) = spec_TwoPow.T4 := by kernel_rfl
theorem spec_TwoPow.bits4 : waitsOk spec_TwoPow.T4.2 spec_TwoPow.B4 = true := by kernel_rfl
set_option maxHeartbeats 8000000 in
set_option maxRecDepth 100000 in
theorem spec_TwoPow.calls (k : Nat) (a0_0 : Int) (a0_1 : Int) (a1 : Int) (r1 : Int) (r2 : Int) (w : World) (h : spec_TwoPow.f k a0_0 a0_1 a1 = some (r1, r2)) :
  Calls Tryd.prog 103 #[.agg #[.int .i64 a0_0, .int .i64 a0_1], .int .i64 a1] w fun e w' => e = .returned (.agg #[.int .i64 r1, .int .i64 r2]) ∧ Below w.heap.size w w' := by
 have hu80 := Tryd.underlying80
 have HB := Aside0.mk (Below.refl w.heap.size w)
 have H : (if a1 < 0 then (some (0, 0)) else ((spec_FpOf.f a0_0).bind fun t562 => ((spec_FpOf.f a0_1).bind fun t563 => (spec_TwoPow.l0 k a1 1 0 t562 t563)))) = some (r1, r2) := h
 clear h
 by_cases c3 : a1 < 0
 ·rw [if_pos c3] at H
  have c3b0 : decide (a1 < 0) = true := decide_eq_true c3
  clear c3
  simp only [Option.some.injEq, Prod.mk.injEq] at H
  obtain ⟨rfl, rfl⟩ := H
  go_enter Tryd.func103, Tryd.ntmps103
  go_wp2_with (first | ((with_reducible refine gate_dst (N := 2) rfl ?_); refine bE 2 #[.int .i64 a0_0, .int .i64 a0_1] 80 ?_; intro gb559 hg w4 hbox hb; have BK559 := Aside0.mk (hbox); have GW559 := bG HB hg; have GE559 := bG HB hg; replace HB := bS HB hb; clear hb hbox hg) | ((with_reducible refine gate_dst (N := 4) rfl ?_); refine bE 4 #[.int .i64 0, .int .i64 0] 80 ?_; intro gb560 hg w5 hbox hb; have BK560 := Aside0.mk (hbox); have GW560 := bG HB hg; have GE560 := bG HB hg; replace HB := bS HB hb; have NB559_560 := bL BK559 hg; have NB560_559 := bR BK559 hg; replace BK559 := bB BK559 hb; clear hb hbox hg; have hnb6 := NB560_559.out; have hnc6 := NB559_560.out; obtain ⟨hcz7_0, hcz7_1, hfz7_0, hfz7_1⟩ := bK2 (w := w5) BK560))
  refine rC gb560 80 #[.int .i64 0, .int .i64 0] (bU BK560) Tryd.underlying80 ?_
  exact ⟨rR, bZ HB⟩
 ·rw [if_neg c3] at H
  have c3b0 : decide (a1 < 0) = false := decide_eq_false c3
  clear c3
  replace H := Option.bind_eq_some_iff.mp H
  obtain ⟨t562, A80, H⟩ := H
  have A8 := Aside0.mk A80
  clear A80
  replace H := Option.bind_eq_some_iff.mp H
  obtain ⟨t563, A90, H⟩ := H
  have A9 := Aside0.mk A90
  clear A90
  have H' := Aside0.mk H
  clear H
  go_enter Tryd.func103, Tryd.ntmps103
  try go_wp2_with (first | ((with_reducible refine gate_dst (N := 2) rfl ?_); refine bE 2 #[.int .i64 a0_0, .int .i64 a0_1] 80 ?_; intro gb559 hg w10 hbox hb; have BK559 := Aside0.mk (hbox); have GW559 := bG HB hg; have GE559 := bG HB hg; replace HB := bS HB hb; clear hb hbox hg) | ((with_reducible refine gate_dst (N := 4) rfl ?_); refine bE 4 #[.int .i64 0, .int .i64 0] 80 ?_; intro gb560 hg w11 hbox hb; have BK560 := Aside0.mk (hbox); have GW560 := bG HB hg; have GE560 := bG HB hg; replace HB := bS HB hb; have NB559_560 := bL BK559 hg; have NB560_559 := bR BK559 hg; replace BK559 := bB BK559 hb; clear hb hbox hg) | ((with_reducible refine gate_dst (N := 5) rfl ?_); refine bE 5 #[.int .i64 0, .int .i64 0] 80 ?_; intro gb561 hg w12 hbox hb; have BK561 := Aside0.mk (hbox); have GW561 := bG HB hg; have GE561 := bG HB hg; replace HB := bS HB hb; have NB559_561 := bL BK559 hg; have NB561_559 := bR BK559 hg; replace BK559 := bB BK559 hb; have NB560_561 := bL BK560 hg; have NB561_560 := bR BK560 hg; replace BK560 := bB BK560 hb; clear hb hbox hg; have hnb13 := NB561_559.out; have hnc13 := NB559_561.out; have hnb14 := NB561_560.out; have hnc14 := NB560_561.out; obtain ⟨hcz15_0, hcz15_1, hfz15_0, hfz15_1⟩ := bK2 (w := w12) BK561))
  have n0_ : Aside0 (((w12.setCell ⟨gb561, 0, none⟩ (.int .i64 1)).setCell ⟨gb561, 1, none⟩ (.int .i64 0)).heap[gb559]? = some (.cells #[.int .i64 a0_0, .int .i64 a0_1] 80 (0, 0))) := ⟨bP BK559⟩
  have n1_ : Aside0 (((w12.setCell ⟨gb561, 0, none⟩ (.int .i64 1)).setCell ⟨gb561, 1, none⟩ (.int .i64 0)).heap[gb560]? = some (.cells #[.int .i64 0, .int .i64 0] 80 (0, 0))) := ⟨bP BK560⟩
  have n2_ : Aside0 (((w12.setCell ⟨gb561, 0, none⟩ (.int .i64 1)).setCell ⟨gb561, 1, none⟩ (.int .i64 0)).heap[gb561]? = some (.cells #[.int .i64 1, .int .i64 0] 80 (0, 0))) := ⟨bU BK561⟩
  have n3_ : Aside0 (Below w.heap.size w ((w12.setCell ⟨gb561, 0, none⟩ (.int .i64 1)).setCell ⟨gb561, 1, none⟩ (.int .i64 0))) := ⟨bZ HB⟩
  (try clear BK559)
  (try clear BK560)
  (try clear BK561)
  (try clear HB)
  generalize ((w12.setCell ⟨gb561, 0, none⟩ (.int .i64 1)).setCell ⟨gb561, 1, none⟩ (.int .i64 0)) = w16 at n0_ n1_ n2_ n3_ ⊢
  have BK559 := n0_
  have BK560 := n1_
  have BK561 := n2_
  have HB := n3_
  clear n0_ n1_ n2_ n3_
  replace BK559 := Aside0.mk (blk_drew BK559.out)
  replace BK560 := Aside0.mk (blk_drew BK560.out)
  replace BK561 := Aside0.mk (blk_drew BK561.out)
  replace HB := Aside0.mk (below_drew1 HB.out)
  refine start_ (n := 9) (S := fun w' => w'.cell? ⟨gb559, 0, none⟩ = some (.int .i64 a0_0) ∧ w'.cell? ⟨gb559, 1, none⟩ = some (.int .i64 a0_1)) (ds := []) #[false, false, false, false, false, false, false, false, false] (by kernel_rfl) rfl rfl ⟨bc BK559 0, bc BK559 1⟩ (fun hHeld => ?_); refine with_tabW spec_TwoPow.tab4 spec_TwoPow.bits4 (fun HT_ HW_ => ?_)
  generalize w16.drew = w17 at BK559 BK560 BK561 HB hHeld ⊢
  refine pI 0 (some 11) HT_.out ?_
  refine pI 3 (some 14) HT_.out ?_
  refine tI2 1 (some 12) HT_.out HW_.out hHeld ?_
  refine tI2 4 (some 15) HT_.out HW_.out hHeld ?_
  refine join_ (σ := Nat) 1 #[true, true, true, true, true, true, true, true, false] (fun s_ => [(13, .int .i64 t562), (16, .int .i64 t563), (6, .pointer (some ⟨s_, 0, none⟩)), (17, .agg #[.int .i64 t562, .int .i64 t563])]) (fun s_ w' => (w'.cell? ⟨gb559, 0, none⟩ = some (.int .i64 a0_0) ∧ w'.cell? ⟨gb559, 1, none⟩ = some (.int .i64 a0_1)) ∧ (w'.heap[gb559]? = some (.cells #[.int .i64 a0_0, .int .i64 a0_1] 80 (0, 0))) ∧ (w'.heap[gb560]? = some (.cells #[.int .i64 0, .int .i64 0] 80 (0, 0))) ∧ (w'.heap[gb561]? = some (.cells #[.int .i64 1, .int .i64 0] 80 (0, 0))) ∧ (w'.heap[s_]? = some (.cells #[.int .i64 0, .int .i64 0] 80 (0, 0))) ∧ (w.heap.size ≤ s_) ∧ (w.heap.size ≤ s_) ∧ (gb559 ≠ s_) ∧ (s_ ≠ gb559) ∧ (gb560 ≠ s_) ∧ (s_ ≠ gb560) ∧ (gb561 ≠ s_) ∧ (s_ ≠ gb561) ∧ (Below w.heap.size w w')) ?_ ?_
  rotate_left
  ·intro hCont
   refine two_ (i := 2) (j := 7) (Ni := some 13) (Nj := some 6) #[true, true, true, true, true, false, false, false, false] #[true, true, false, true, true, false, false, true, false] rfl rfl rfl rfl (two_of HT_.out (by kernel_rfl)) (by decide) (by decide) (fun K hK => ?_) (fun K hK => ?_)
   ·skip
    refine gO Tryd.func42 #[.int .i64 a0_0] ?_
    with_reducible refine (spec_FpOf.calls a0_0 t562 _ A8.out).mono ?_
    rintro e w' ⟨rfl, ⟨nd, rfl⟩⟩
    refine ⟨_, rfl, ?_⟩
    refine hK.out _ _ ⟨bc BK559 0, bc BK559 1⟩ (fun hHeld => ?_)
    clear hK K
    refine nO (some 13) ?_
    refine two_ (i := 5) (j := 7) (Ni := some 16) (Nj := some 6) #[true, true, true, true, true, true, false, false, false] #[true, true, true, true, true, false, false, true, false] rfl rfl rfl rfl (two_of HT_.out (by kernel_rfl)) (by decide) (by decide) (fun K hK => ?_) (fun K hK => ?_)
    ·skip
     refine gO Tryd.func42 #[.int .i64 a0_1] ?_
     with_reducible refine (spec_FpOf.calls a0_1 t563 _ A9.out).mono ?_
     rintro e w' ⟨rfl, ⟨nd, rfl⟩⟩
     refine ⟨_, rfl, ?_⟩
     refine hK.out _ _ ⟨bc BK559 0, bc BK559 1⟩ (fun hHeld => ?_)
     clear hK K
     refine nO (some 16) ?_
     refine pI 6 (some 17) HT_.out ?_
     refine oI 7 (some 6) HT_.out (fun K hK => ?_)
     refine box_step ?hg (N := 6) ?hd (cs := #[.int .i64 0, .int .i64 0]) (t := 80) ?hr ?_; (case hd => rfl); (case hg => rfl); (case hr => first | (go_simp; done) | (go_simp; rfl))
     intro gb564 hg w18 hbox hb
     have BK564 := Aside0.mk (hbox)
     have GW564 := bG HB hg
     have GE564 := bG HB hg
     replace HB := bS HB hb
     have NB559_564 := bL BK559 hg
     have NB564_559 := bR BK559 hg
     replace BK559 := bB BK559 hb
     have NB560_564 := bL BK560 hg
     have NB564_560 := bR BK560 hg
     replace BK560 := bB BK560 hb
     have NB561_564 := bL BK561 hg
     have NB564_561 := bR BK561 hg
     replace BK561 := bB BK561 hb
     clear hb hbox hg
     refine hK.out _ _ ⟨bc BK559 0, bc BK559 1⟩ (fun hHeld => ?_)
     clear hK K
     refine nO (some 6) ?_
     exact norm_ (by simp only [putAll, Act.put, List.setIfInBounds_toArray, List.set_cons_zero, List.set_cons_succ]) (hCont (gb564) _ ⟨hHeld, (bP BK559), (bP BK560), (bP BK561), (bP BK564), GW564.out, GE564.out, NB559_564.out, NB564_559.out, NB560_564.out, NB564_560.out, NB561_564.out, NB564_561.out, (bZ HB)⟩)
    ·skip
     refine box_step ?hg (N := 6) ?hd (cs := #[.int .i64 0, .int .i64 0]) (t := 80) ?hr ?_; (case hd => rfl); (case hg => rfl); (case hr => first | (go_simp; done) | (go_simp; rfl))
     intro gb564 hg w18 hbox hb
     have BK564 := Aside0.mk (hbox)
     have GW564 := bG HB hg
     have GE564 := bG HB hg
     replace HB := bS HB hb
     have NB559_564 := bL BK559 hg
     have NB564_559 := bR BK559 hg
     replace BK559 := bB BK559 hb
     have NB560_564 := bL BK560 hg
     have NB564_560 := bR BK560 hg
     replace BK560 := bB BK560 hb
     have NB561_564 := bL BK561 hg
     have NB564_561 := bR BK561 hg
     replace BK561 := bB BK561 hb
     clear hb hbox hg
     refine hK.out _ _ ⟨bc BK559 0, bc BK559 1⟩ (fun hHeld => ?_)
     clear hK K
     refine nO (some 6) ?_
     refine oI 5 (some 16) HT_.out (fun K hK => ?_)
     refine gO Tryd.func42 #[.int .i64 a0_1] ?_
     with_reducible refine (spec_FpOf.calls a0_1 t563 _ A9.out).mono ?_
     rintro e w' ⟨rfl, ⟨nd, rfl⟩⟩
     refine ⟨_, rfl, ?_⟩
     refine hK.out _ _ ⟨bc BK559 0, bc BK559 1⟩ (fun hHeld => ?_)
     clear hK K
     refine nO (some 16) ?_
     refine pI 6 (some 17) HT_.out ?_
     exact norm_ (by simp only [putAll, Act.put, List.setIfInBounds_toArray, List.set_cons_zero, List.set_cons_succ]) (hCont (gb564) _ ⟨hHeld, (bP BK559), (bP BK560), (bP BK561), (bP BK564), GW564.out, GE564.out, NB559_564.out, NB564_559.out, NB560_564.out, NB564_560.out, NB561_564.out, NB564_561.out, (bZ HB)⟩)
   ·skip
    refine box_step ?hg (N := 6) ?hd (cs := #[.int .i64 0, .int .i64 0]) (t := 80) ?hr ?_; (case hd => rfl); (case hg => rfl); (case hr => first | (go_simp; done) | (go_simp; rfl))
    intro gb564 hg w18 hbox hb
    have BK564 := Aside0.mk (hbox)
    have GW564 := bG HB hg
    have GE564 := bG HB hg
    replace HB := bS HB hb
    have NB559_564 := bL BK559 hg
    have NB564_559 := bR BK559 hg
    replace BK559 := bB BK559 hb
    have NB560_564 := bL BK560 hg
    have NB564_560 := bR BK560 hg
    replace BK560 := bB BK560 hb
    have NB561_564 := bL BK561 hg
    have NB564_561 := bR BK561 hg
    replace BK561 := bB BK561 hb
    clear hb hbox hg
    refine hK.out _ _ ⟨bc BK559 0, bc BK559 1⟩ (fun hHeld => ?_)
    clear hK K
    refine nO (some 6) ?_
    refine oI 2 (some 13) HT_.out (fun K hK => ?_)
    refine gO Tryd.func42 #[.int .i64 a0_0] ?_
    with_reducible refine (spec_FpOf.calls a0_0 t562 _ A8.out).mono ?_
    rintro e w' ⟨rfl, ⟨nd, rfl⟩⟩
    refine ⟨_, rfl, ?_⟩
    refine hK.out _ _ ⟨bc BK559 0, bc BK559 1⟩ (fun hHeld => ?_)
    clear hK K
    refine nO (some 13) ?_
    refine oI 5 (some 16) HT_.out (fun K hK => ?_)
    refine gO Tryd.func42 #[.int .i64 a0_1] ?_
    with_reducible refine (spec_FpOf.calls a0_1 t563 _ A9.out).mono ?_
    rintro e w' ⟨rfl, ⟨nd, rfl⟩⟩
    refine ⟨_, rfl, ?_⟩
    refine hK.out _ _ ⟨bc BK559 0, bc BK559 1⟩ (fun hHeld => ?_)
    clear hK K
    refine nO (some 16) ?_
    refine pI 6 (some 17) HT_.out ?_
    exact norm_ (by simp only [putAll, Act.put, List.setIfInBounds_toArray, List.set_cons_zero, List.set_cons_succ]) (hCont (gb564) _ ⟨hHeld, (bP BK559), (bP BK560), (bP BK561), (bP BK564), GW564.out, GE564.out, NB559_564.out, NB564_559.out, NB560_564.out, NB564_560.out, NB561_564.out, NB564_561.out, (bZ HB)⟩)
  rintro gb564 w19 ⟨hS_, h0_, h1_, h2_, h3_, h4_, h5_, h6_, h7_, h8_, h9_, h10_, h11_, h12_⟩
  replace BK559 : Aside0 (w19.heap[gb559]? = some (.cells #[.int .i64 a0_0, .int .i64 a0_1] 80 (0, 0))) := ⟨h0_⟩
  replace BK560 : Aside0 (w19.heap[gb560]? = some (.cells #[.int .i64 0, .int .i64 0] 80 (0, 0))) := ⟨h1_⟩
  replace BK561 : Aside0 (w19.heap[gb561]? = some (.cells #[.int .i64 1, .int .i64 0] 80 (0, 0))) := ⟨h2_⟩
  have BK564 : Aside0 (w19.heap[gb564]? = some (.cells #[.int .i64 0, .int .i64 0] 80 (0, 0))) := ⟨h3_⟩
  have GW564 : Aside0 (w.heap.size ≤ gb564) := ⟨h4_⟩
  have GE564 : Aside0 (w.heap.size ≤ gb564) := ⟨h5_⟩
  have NB559_564 : Aside0 (gb559 ≠ gb564) := ⟨h6_⟩
  have NB564_559 : Aside0 (gb564 ≠ gb559) := ⟨h7_⟩
  have NB560_564 : Aside0 (gb560 ≠ gb564) := ⟨h8_⟩
  have NB564_560 : Aside0 (gb564 ≠ gb560) := ⟨h9_⟩
  have NB561_564 : Aside0 (gb561 ≠ gb564) := ⟨h10_⟩
  have NB564_561 : Aside0 (gb564 ≠ gb561) := ⟨h11_⟩
  replace HB : Aside0 (Below w.heap.size w w19) := ⟨h12_⟩
  clear h0_ h1_ h2_ h3_ h4_ h5_ h6_ h7_ h8_ h9_ h10_ h11_ h12_
  have hHeld : w19.cell? ⟨gb559, 0, none⟩ = some (.int .i64 a0_0) ∧ w19.cell? ⟨gb559, 1, none⟩ = some (.int .i64 a0_1) := hS_
  refine norm_ (a' := ?_) ?_ ?_
  rotate_left
  ·simp only [putAll, Act.put, List.setIfInBounds_toArray, List.set_cons_zero, List.set_cons_succ]
   rfl
  refine oI 8 (none) HT_.out (fun K hK => ?_)
  have hs20 : w19.cell? ⟨gb564, 0, none⟩ = some (.int .i64 0) := bc BK564 0
  have hfs20 := blk_frozen BK564.out 0
  have hns20_0 := NB559_564.out
  have hns20_1 := NB560_564.out
  have hns20_2 := NB561_564.out
  have hms20_0 := NB564_559.out
  have hms20_1 := NB564_560.out
  have hms20_2 := NB564_561.out
  have hs21 : w19.cell? ⟨gb564, 1, none⟩ = some (.int .i64 0) := bc BK564 1
  have hfs21 := blk_frozen BK564.out 1
  have hns21_0 := NB559_564.out
  have hns21_1 := NB560_564.out
  have hns21_2 := NB561_564.out
  have hms21_0 := NB564_559.out
  have hms21_1 := NB564_560.out
  have hms21_2 := NB564_561.out
  refine skip_ (w1 := ?_) (by rfl) rfl ?_ ?_
  rotate_left
  ·go_simp
   rfl
  refine hK.out _ _ ⟨((cell_far (p := ⟨gb564, _, none⟩) NB559_564.out _).trans (((cell_far (p := ⟨gb564, _, none⟩) NB559_564.out _).trans (hHeld.1)))), ((cell_far (p := ⟨gb564, _, none⟩) NB559_564.out _).trans (((cell_far (p := ⟨gb564, _, none⟩) NB559_564.out _).trans (hHeld.2))))⟩ (fun hHeld => ?_)
  clear hK K
  refine done_ (done_of HT_.out (by kernel_rfl)) ?_
  try go_wp2
  go_loopg [1] k (fun kq v1 w' => ∃ (x1_1 : Int) (x562000_1 : Int) (x562001_1 : Int) (x565000_1 : Int) (x565001_1 : Int), v1 = .int .i64 x1_1 ∧ Aside0 (spec_TwoPow.l0 kq x1_1 x562000_1 x562001_1 x565000_1 x565001_1 = some (r1, r2)) ∧ Aside0 (kq ≤ k) ∧ Aside0 (w'.heap[gb559]? = some (.cells #[.int .i64 a0_0, .int .i64 a0_1] 80 (0, 0))) ∧ Aside0 (w'.heap[gb560]? = some (.cells #[.int .i64 0, .int .i64 0] 80 (0, 0))) ∧ Aside0 (w'.heap[gb561]? = some (.cells #[.int .i64 x562000_1, .int .i64 x562001_1] 80 (0, 0))) ∧ Aside0 (w'.heap[gb564]? = some (.cells #[.int .i64 x565000_1, .int .i64 x565001_1] 80 (0, 0))) ∧ Aside0 (Below w.heap.size w w'))
  case atStart => exact ⟨(a1), (1), (0), (t562), (t563), rS, H', ⟨Nat.le_refl _⟩, ⟨bP BK559⟩, ⟨bP BK560⟩, ⟨bP BK561⟩, ⟨bU BK564⟩, ⟨bZ HB⟩⟩
  case round =>
   clear H'
   try clear c1
   try clear p2
   try clear c3
   try clear c3b0
   try clear c4
   try clear c6
   try clear c10
   try clear c13
   try clear c14
   try clear hcz15_0
   try clear hcz15_1
   try clear hcz7_0
   try clear hcz7_1
   try clear hfz15_0
   try clear hfz15_1
   try clear hfz7_0
   try clear hfz7_1
   obtain ⟨x1_1, x562000_1, x562001_1, x565000_1, x565001_1, rfl, HA, HK1, BK559, BK560, BK561, BK564, HB⟩ := hrel
   cases gk with
   | zero => exact absurd HA.out (by simp [spec_TwoPow.l0])
   | succ k1 =>
    have H := HA.out
    clear HA
    simp only [spec_TwoPow.l0] at H
    by_cases c22 : x1_1 > 0
    ·rw [if_pos c22] at H
     have c22b0 : decide (0 < x1_1) = true := decide_eq_true c22
     clear c22
     by_cases c23 : (Int.tmod x1_1 2) = 1
     ·rw [if_pos c23] at H
      have c23b0 : ((Int.tmod x1_1 2) == 1) = true := beq_iff_eq.mpr c23
      have c23b1 : ((Int.tmod x1_1 2) != 1) = false := bne_eq_false_iff_eq.mpr c23
      clear c23
      replace H := Option.bind_eq_some_iff.mp H
      obtain ⟨⟨t565, t566⟩, A240, H⟩ := H
      have A24 := Aside0.mk A240
      clear A240
      replace H := Option.bind_eq_some_iff.mp H
      obtain ⟨⟨t567, t568⟩, A250, H⟩ := H
      have A25 := Aside0.mk A250
      clear A250
      have H' := Aside0.mk H
      clear H
      have hnb26 := NB561_559.out
      have hnc26 := NB559_561.out
      have hnb27 := NB561_560.out
      have hnc27 := NB560_561.out
      have hnb28 := NB561_564.out
      have hnc28 := NB564_561.out
      obtain ⟨hcz29_0, hcz29_1, hfz29_0, hfz29_1⟩ := bK2 (w := wr) BK561
      have hnb30 := NB564_559.out
      have hnc30 := NB559_564.out
      have hnb31 := NB564_560.out
      have hnc31 := NB560_564.out
      obtain ⟨hcz32_0, hcz32_1, hfz32_0, hfz32_1⟩ := bK2 (w := wr) BK564
      go_wp2_with (first | ((with_reducible refine gate_callee (f := 104) rfl ?_); refine gL (some 25) Tryd.func104 #[.agg #[.int .i64 x562000_1, .int .i64 x562001_1], .agg #[.int .i64 x565000_1, .int .i64 x565001_1]] ?_; (with_reducible refine (spec_TwoMul.calls x562000_1 x562001_1 x565000_1 x565001_1 t565 t566 _ A24.out).mono ?_); rintro e w33 ⟨rfl, hb⟩; refine ⟨_, rfl, ?_⟩; replace BK559 := bB BK559 hb; replace BK560 := bB BK560 hb; replace BK561 := bB BK561 hb; replace BK564 := bB BK564 hb; replace HB := bS HB hb; (try clear hb); obtain ⟨hcz34_0, hcz34_1, hfz34_0, hfz34_1⟩ := bK2 (w := w33) BK561; obtain ⟨hcz35_0, hcz35_1, hfz35_0, hfz35_1⟩ := bK2 (w := w33) BK564) | ((with_reducible refine gate_callee (f := 104) rfl ?_); refine gL (some 28) Tryd.func104 #[.agg #[.int .i64 x565000_1, .int .i64 x565001_1], .agg #[.int .i64 x565000_1, .int .i64 x565001_1]] ?_; (with_reducible refine (spec_TwoMul.calls x565000_1 x565001_1 x565000_1 x565001_1 t567 t568 _ A25.out).mono ?_); rintro e w36 ⟨rfl, hb⟩; refine ⟨_, rfl, ?_⟩; replace BK559 := bB BK559 hb; replace BK560 := bB BK560 hb; replace BK561 := bV 80 #[.int .i64 t565, .int .i64 t566] BK561 hb; replace BK564 := bB BK564 hb; replace HB := bS HB hb; (try clear hb); obtain ⟨hcz37_0, hcz37_1, hfz37_0, hfz37_1⟩ := bK2 (w := w36) BK564))
      go_roundg k1
      case measure => have := HK1.out; omega
      case rel => exact ⟨(wrap64 (Int.tdiv x1_1 2)), (t565), (t566), (t567), (t568), rS, H', ⟨by have := HK1.out; omega⟩, ⟨bP BK559⟩, ⟨bP BK560⟩, ⟨bP BK561⟩, ⟨bU BK564⟩, ⟨bZ HB⟩⟩
     ·rw [if_neg c23] at H
      have c23b0 : ((Int.tmod x1_1 2) == 1) = false := beq_eq_false_iff_ne.mpr c23
      have c23b1 : ((Int.tmod x1_1 2) != 1) = true := bne_iff_ne.mpr c23
      replace H := Option.bind_eq_some_iff.mp H
      obtain ⟨⟨t569, t570⟩, A380, H⟩ := H
      have A38 := Aside0.mk A380
      clear A380
      have H' := Aside0.mk H
      clear H
      have hnb39 := NB564_559.out
      have hnc39 := NB559_564.out
      have hnb40 := NB564_560.out
      have hnc40 := NB560_564.out
      have hnb41 := NB564_561.out
      have hnc41 := NB561_564.out
      obtain ⟨hcz42_0, hcz42_1, hfz42_0, hfz42_1⟩ := bK2 (w := wr) BK564
      go_wp2_with (first | ((with_reducible refine gate_callee (f := 104) rfl ?_); refine gL (some 28) Tryd.func104 #[.agg #[.int .i64 x565000_1, .int .i64 x565001_1], .agg #[.int .i64 x565000_1, .int .i64 x565001_1]] ?_; (with_reducible refine (spec_TwoMul.calls x565000_1 x565001_1 x565000_1 x565001_1 t569 t570 _ A38.out).mono ?_); rintro e w43 ⟨rfl, hb⟩; refine ⟨_, rfl, ?_⟩; replace BK559 := bB BK559 hb; replace BK560 := bB BK560 hb; replace BK561 := bB BK561 hb; replace BK564 := bB BK564 hb; replace HB := bS HB hb; (try clear hb); obtain ⟨hcz44_0, hcz44_1, hfz44_0, hfz44_1⟩ := bK2 (w := w43) BK564))
      go_roundg k1
      case measure => have := HK1.out; omega
      case rel => exact ⟨(wrap64 (Int.tdiv x1_1 2)), (x562000_1), (x562001_1), (t569), (t570), rS, H', ⟨by have := HK1.out; omega⟩, ⟨bP BK559⟩, ⟨bP BK560⟩, ⟨bP BK561⟩, ⟨bU BK564⟩, ⟨bZ HB⟩⟩
    ·rw [if_neg c22] at H
     have c22b0 : decide (0 < x1_1) = false := decide_eq_false c22
     clear c22
     simp only [Option.some.injEq, Prod.mk.injEq] at H
     obtain ⟨rfl, rfl⟩ := H
     have hnb45 := NB561_559.out
     have hnc45 := NB559_561.out
     have hnb46 := NB561_560.out
     have hnc46 := NB560_561.out
     have hnb47 := NB561_564.out
     have hnc47 := NB564_561.out
     obtain ⟨hcz48_0, hcz48_1, hfz48_0, hfz48_1⟩ := bK2 (w := wr) BK561
     have hnb49 := NB560_559.out
     have hnc49 := NB559_560.out
     have hnb50 := NB560_564.out
     have hnc50 := NB564_560.out
     obtain ⟨hcz51_0, hcz51_1, hfz51_0, hfz51_1⟩ := bK2 (w := wr) BK560
     go_wp2
     refine rC gb560 80 #[.int .i64 x562000_1, .int .i64 x562001_1] (bU BK560) Tryd.underlying80 ?_
     exact ⟨rR, bZ HB⟩
/-! ### spec_TwoTurn: function 105 -/
def spec_TwoTurn.f (a0_0 : Int) (a0_1 : Int) : Option (Int × Int) := (spec_FpOf.f a0_0).bind fun t573 => ((spec_FpSub.f 0 a0_1).bind fun t574 => (some (t573, t574)))
def spec_TwoTurn.T1 : Bool × List (List Nat × List Nat) := (true, [([], []), ([0], [0]), ([1], [1]), ([], []), ([3], [3]), ([4, 2], [4]), ([2, 5], [2, 5]), ([6, 5, 0, 1, 2, 3, 4, 5, 6], [6])])
def spec_TwoTurn.B1 : List Nat := [0, 1, 3, 0, 8, 31, 63, 127]
theorem spec_TwoTurn.tab1 : rtab .any (opsOf Tryd.f105 1) = spec_TwoTurn.T1 := by kernel_rfl
theorem spec_TwoTurn.bits1 : waitsOk spec_TwoTurn.T1.2 spec_TwoTurn.B1 = true := by kernel_rfl
set_option maxHeartbeats 8000000 in
set_option maxRecDepth 100000 in
theorem spec_TwoTurn.calls (a0_0 : Int) (a0_1 : Int) (r1 : Int) (r2 : Int) (w : World) (h : spec_TwoTurn.f a0_0 a0_1 = some (r1, r2)) :
  Calls Tryd.prog 105 #[.agg #[.int .i64 a0_0, .int .i64 a0_1]] w fun e w' => e = .returned (.agg #[.int .i64 r1, .int .i64 r2]) ∧ Below w.heap.size w w' := by
 have hu80 := Tryd.underlying80
 have HB := Aside0.mk (Below.refl w.heap.size w)
 have H : ((spec_FpOf.f a0_0).bind fun t573 => ((spec_FpSub.f 0 a0_1).bind fun t574 => (some (t573, t574)))) = some (r1, r2) := h
 clear h
 replace H := Option.bind_eq_some_iff.mp H
 obtain ⟨t573, A20, H⟩ := H
 have A2 := Aside0.mk A20
 clear A20
 replace H := Option.bind_eq_some_iff.mp H
 obtain ⟨t574, A30, H⟩ := H
 have A3 := Aside0.mk A30
 clear A30
 simp only [Option.some.injEq, Prod.mk.injEq] at H
 obtain ⟨rfl, rfl⟩ := H
 go_enter Tryd.func105, Tryd.ntmps105
 try go_wp2_with (first | ((with_reducible refine gate_dst (N := 1) rfl ?_); refine bE 1 #[.int .i64 a0_0, .int .i64 a0_1] 80 ?_; intro gb571 hg w4 hbox hb; have BK571 := Aside0.mk (hbox); have GW571 := bG HB hg; have GE571 := bG HB hg; replace HB := bS HB hb; clear hb hbox hg) | ((with_reducible refine gate_dst (N := 2) rfl ?_); refine bE 2 #[.int .i64 0, .int .i64 0] 80 ?_; intro gb572 hg w5 hbox hb; have BK572 := Aside0.mk (hbox); have GW572 := bG HB hg; have GE572 := bG HB hg; replace HB := bS HB hb; have NB571_572 := bL BK571 hg; have NB572_571 := bR BK571 hg; replace BK571 := bB BK571 hb; clear hb hbox hg))
 replace BK571 := Aside0.mk (blk_drew BK571.out)
 replace BK572 := Aside0.mk (blk_drew BK572.out)
 replace HB := Aside0.mk (below_drew1 HB.out)
 refine start_ (n := 8) (S := fun w' => w'.cell? ⟨gb571, 0, none⟩ = some (.int .i64 a0_0) ∧ w'.cell? ⟨gb571, 1, none⟩ = some (.int .i64 a0_1)) (ds := []) #[false, false, false, false, false, false, false, false] (by kernel_rfl) rfl rfl ⟨bc BK571 0, bc BK571 1⟩ (fun hHeld => ?_); refine with_tabW spec_TwoTurn.tab1 spec_TwoTurn.bits1 (fun HT_ HW_ => ?_)
 generalize w5.drew = w6 at BK571 BK572 HB hHeld ⊢
 refine pI 0 (some 3) HT_.out ?_
 refine pI 3 (some 6) HT_.out ?_
 refine tI2 1 (some 4) HT_.out HW_.out hHeld ?_
 refine tI2 4 (some 7) HT_.out HW_.out hHeld ?_
 refine oI 2 (some 5) HT_.out (fun K hK => ?_)
 refine gO Tryd.func42 #[.int .i64 a0_0] ?_
 with_reducible refine (spec_FpOf.calls a0_0 t573 _ A2.out).mono ?_
 rintro e w' ⟨rfl, ⟨nd, rfl⟩⟩
 refine ⟨_, rfl, ?_⟩
 refine hK.out _ _ ⟨bc BK571 0, bc BK571 1⟩ (fun hHeld => ?_)
 clear hK K
 refine nO (some 5) ?_
 refine oI 5 (some 8) HT_.out (fun K hK => ?_)
 refine gO Tryd.func85 #[.int .i64 0, .int .i64 a0_1] ?_
 with_reducible refine (spec_FpSub.calls 0 a0_1 t574 _ A3.out).mono ?_
 rintro e w' ⟨rfl, ⟨nd, rfl⟩⟩
 refine ⟨_, rfl, ?_⟩
 refine hK.out _ _ ⟨bc BK571 0, bc BK571 1⟩ (fun hHeld => ?_)
 clear hK K
 refine nO (some 8) ?_
 refine pI 6 (some 9) HT_.out ?_
 refine oI 7 (none) HT_.out (fun K hK => ?_)
 have hs7 : w6.cell? ⟨gb572, 0, none⟩ = some (.int .i64 0) := bc BK572 0
 have hfs7 := blk_frozen BK572.out 0
 have hns7_0 := NB571_572.out
 have hms7_0 := NB572_571.out
 have hs8 : w6.cell? ⟨gb572, 1, none⟩ = some (.int .i64 0) := bc BK572 1
 have hfs8 := blk_frozen BK572.out 1
 have hns8_0 := NB571_572.out
 have hms8_0 := NB572_571.out
 refine skip_ (w1 := ?_) (by rfl) rfl ?_ ?_
 rotate_left
 ·go_simp
  rfl
 refine hK.out _ _ ⟨((cell_far (p := ⟨gb572, _, none⟩) NB571_572.out _).trans (((cell_far (p := ⟨gb572, _, none⟩) NB571_572.out _).trans (hHeld.1)))), ((cell_far (p := ⟨gb572, _, none⟩) NB571_572.out _).trans (((cell_far (p := ⟨gb572, _, none⟩) NB571_572.out _).trans (hHeld.2))))⟩ (fun hHeld => ?_)
 clear hK K
 refine done_ (done_of HT_.out (by kernel_rfl)) ?_
 try go_wp2
 refine rC gb572 80 #[.int .i64 t573, .int .i64 t574] (bU BK572) Tryd.underlying80 ?_
 exact ⟨rR, bZ HB⟩
/-! ### spec_TwoInv: function 106 -/
def spec_TwoInv.f (k : Nat) (a0_0 : Int) (a0_1 : Int) : Option (Int × Int) := (spec_FpMul.f a0_0 a0_0).bind fun t577 => ((spec_FpMul.f a0_1 a0_1).bind fun t578 => ((spec_FpAdd.f t577 t578).bind fun t579 => ((spec_FpInv.f k t579).bind fun t580 => ((spec_FpMul.f a0_0 t580).bind fun t581 => ((spec_FpSub.f 0 a0_1).bind fun t582 => ((spec_FpMul.f t582 t580).bind fun t583 => (some (t581, t583))))))))
theorem spec_TwoInv.mono : ∀ a0 a1 k, LeO (spec_TwoInv.f k a0 a1) (spec_TwoInv.f (k + 1) a0 a1) := by
 intro a0 a1 k
 unfold spec_TwoInv.f
 repeat' first
   | (with_reducible exact spec_FpInv.mono _ _)
   | (with_reducible exact LeO.refl _)
   | (with_reducible exact LeO.none _)
   | (with_reducible refine LeO.ite ?_ ?_)
   | (with_reducible refine LeO.bind ?_ (fun _ => ?_))
   | exact spec_FpInv.mono _ _
   | exact LeO.none _
   | refine LeO.ite ?_ ?_
   | refine LeO.bind ?_ (fun _ => ?_)
def spec_TwoInv.T1 : Bool × List (List Nat × List Nat) := (true, [([], []), ([0], [0]), ([], []), ([2], [2]), ([1, 3], [1, 3]), ([], []), ([5], [5]), ([], []), ([7], [7]), ([6, 8, 4], [6, 8]), ([4, 9, 9], [4, 9]), ([10, 10], [10]), ([11, 11, 0, 1, 2, 3, 4, 5, 6, 7, 8, 9, 10, 11], [11])])
def spec_TwoInv.B1 : List Nat := [0, 1, 0, 4, 15, 0, 32, 0, 128, 511, 1023, 2047, 4095]
theorem spec_TwoInv.tab1 : rtab .any (opsOf Tryd.f106 1) = spec_TwoInv.T1 := by kernel_rfl
theorem spec_TwoInv.bits1 : waitsOk spec_TwoInv.T1.2 spec_TwoInv.B1 = true := by kernel_rfl
def spec_TwoInv.T2 : Bool × List (List Nat × List Nat) := (true, [([], []), ([0], [0]), ([], []), ([1, 2], [1, 2]), ([], []), ([4], [4]), ([5, 3], [5]), ([], []), ([6, 7, 6], [6, 7]), ([3, 8], [3, 8]), ([9, 8, 0, 1, 2, 3, 4, 5, 6, 7, 8, 9], [9])])
def spec_TwoInv.B2 : List Nat := [0, 1, 0, 7, 0, 16, 63, 0, 255, 511, 1023]
theorem spec_TwoInv.tab2 : rtab .any (opsOf Tryd.f106 2) = spec_TwoInv.T2 := by kernel_rfl
theorem spec_TwoInv.bits2 : waitsOk spec_TwoInv.T2.2 spec_TwoInv.B2 = true := by kernel_rfl
set_option maxHeartbeats 8000000 in
set_option maxRecDepth 100000 in
theorem spec_TwoInv.calls (k : Nat) (a0_0 : Int) (a0_1 : Int) (r1 : Int) (r2 : Int) (w : World) (h : spec_TwoInv.f k a0_0 a0_1 = some (r1, r2)) :
  Calls Tryd.prog 106 #[.agg #[.int .i64 a0_0, .int .i64 a0_1]] w fun e w' => e = .returned (.agg #[.int .i64 r1, .int .i64 r2]) ∧ Below w.heap.size w w' := by
 have hu80 := Tryd.underlying80
 have HB := Aside0.mk (Below.refl w.heap.size w)
 have H : ((spec_FpMul.f a0_0 a0_0).bind fun t577 => ((spec_FpMul.f a0_1 a0_1).bind fun t578 => ((spec_FpAdd.f t577 t578).bind fun t579 => ((spec_FpInv.f k t579).bind fun t580 => ((spec_FpMul.f a0_0 t580).bind fun t581 => ((spec_FpSub.f 0 a0_1).bind fun t582 => ((spec_FpMul.f t582 t580).bind fun t583 => (some (t581, t583))))))))) = some (r1, r2) := h
 clear h
 replace H := Option.bind_eq_some_iff.mp H
 obtain ⟨t577, A20, H⟩ := H
 have A2 := Aside0.mk A20
 clear A20
 replace H := Option.bind_eq_some_iff.mp H
 obtain ⟨t578, A30, H⟩ := H
 have A3 := Aside0.mk A30
 clear A30
 replace H := Option.bind_eq_some_iff.mp H
 obtain ⟨t579, A40, H⟩ := H
 have A4 := Aside0.mk A40
 clear A40
 replace H := Option.bind_eq_some_iff.mp H
 obtain ⟨t580, A50, H⟩ := H
 have A5 := Aside0.mk A50
 clear A50
 replace H := Option.bind_eq_some_iff.mp H
 obtain ⟨t581, A60, H⟩ := H
 have A6 := Aside0.mk A60
 clear A60
 replace H := Option.bind_eq_some_iff.mp H
 obtain ⟨t582, A70, H⟩ := H
 have A7 := Aside0.mk A70
 clear A70
 replace H := Option.bind_eq_some_iff.mp H
 obtain ⟨t583, A80, H⟩ := H
 have A8 := Aside0.mk A80
 clear A80
 simp only [Option.some.injEq, Prod.mk.injEq] at H
 obtain ⟨rfl, rfl⟩ := H
 go_enter Tryd.func106, Tryd.ntmps106
 try go_wp2_with (first | ((with_reducible refine gate_dst (N := 1) rfl ?_); refine bE 1 #[.int .i64 a0_0, .int .i64 a0_1] 80 ?_; intro gb575 hg w9 hbox hb; have BK575 := Aside0.mk (hbox); have GW575 := bG HB hg; have GE575 := bG HB hg; replace HB := bS HB hb; clear hb hbox hg) | ((with_reducible refine gate_dst (N := 2) rfl ?_); refine bE 2 #[.int .i64 0, .int .i64 0] 80 ?_; intro gb576 hg w10 hbox hb; have BK576 := Aside0.mk (hbox); have GW576 := bG HB hg; have GE576 := bG HB hg; replace HB := bS HB hb; have NB575_576 := bL BK575 hg; have NB576_575 := bR BK575 hg; replace BK575 := bB BK575 hb; clear hb hbox hg))
 replace BK575 := Aside0.mk (blk_drew BK575.out)
 replace BK576 := Aside0.mk (blk_drew BK576.out)
 replace HB := Aside0.mk (below_drew1 HB.out)
 refine start_ (n := 13) (S := fun w' => w'.cell? ⟨gb575, 0, none⟩ = some (.int .i64 a0_0) ∧ w'.cell? ⟨gb575, 1, none⟩ = some (.int .i64 a0_1)) (ds := []) #[false, false, false, false, false, false, false, false, false, false, false, false, false] (by kernel_rfl) rfl rfl ⟨bc BK575 0, bc BK575 1⟩ (fun hHeld => ?_); refine with_tabW spec_TwoInv.tab1 spec_TwoInv.bits1 (fun HT_ HW_ => ?_)
 generalize w10.drew = w11 at BK575 BK576 HB hHeld ⊢
 refine pI 0 (some 4) HT_.out ?_
 refine pI 2 (some 6) HT_.out ?_
 refine pI 5 (some 9) HT_.out ?_
 refine pI 7 (some 11) HT_.out ?_
 refine tI2 1 (some 5) HT_.out HW_.out hHeld ?_
 refine tI2 3 (some 7) HT_.out HW_.out hHeld ?_
 refine tI2 6 (some 10) HT_.out HW_.out hHeld ?_
 refine tI2 8 (some 12) HT_.out HW_.out hHeld ?_
 refine oI 4 (some 8) HT_.out (fun K hK => ?_)
 refine gO Tryd.func84 #[.int .i64 a0_0, .int .i64 a0_0] ?_
 with_reducible refine (spec_FpMul.calls a0_0 a0_0 t577 _ A2.out).mono ?_
 rintro e w' ⟨rfl, ⟨nd, rfl⟩⟩
 refine ⟨_, rfl, ?_⟩
 refine hK.out _ _ ⟨bc BK575 0, bc BK575 1⟩ (fun hHeld => ?_)
 clear hK K
 refine nO (some 8) ?_
 refine oI 9 (some 13) HT_.out (fun K hK => ?_)
 refine gO Tryd.func84 #[.int .i64 a0_1, .int .i64 a0_1] ?_
 with_reducible refine (spec_FpMul.calls a0_1 a0_1 t578 _ A3.out).mono ?_
 rintro e w' ⟨rfl, ⟨nd, rfl⟩⟩
 refine ⟨_, rfl, ?_⟩
 refine hK.out _ _ ⟨bc BK575 0, bc BK575 1⟩ (fun hHeld => ?_)
 clear hK K
 refine nO (some 13) ?_
 refine oI 10 (some 14) HT_.out (fun K hK => ?_)
 refine gO Tryd.func86 #[.int .i64 t577, .int .i64 t578] ?_
 with_reducible refine (spec_FpAdd.calls t577 t578 t579 _ A4.out).mono ?_
 rintro e w' ⟨rfl, ⟨nd, rfl⟩⟩
 refine ⟨_, rfl, ?_⟩
 refine hK.out _ _ ⟨bc BK575 0, bc BK575 1⟩ (fun hHeld => ?_)
 clear hK K
 refine nO (some 14) ?_
 refine oI 11 (some 15) HT_.out (fun K hK => ?_)
 refine gO Tryd.func131 #[.int .i64 t579] ?_
 with_reducible refine (spec_FpInv.calls k t579 t580 _ A5.out).mono ?_
 rintro e w' ⟨rfl, ⟨nd, rfl⟩⟩
 refine ⟨_, rfl, ?_⟩
 refine hK.out _ _ ⟨bc BK575 0, bc BK575 1⟩ (fun hHeld => ?_)
 clear hK K
 refine nO (some 15) ?_
 refine pI 12 (some 3) HT_.out ?_
 refine done_ (done_of HT_.out (by kernel_rfl)) ?_
 try go_wp2
 (try simp only [World.drewN_drewN]); (try (rw [drewN_self w11]; generalize hq_ : World.drewN w11 _ = w11; replace BK575 : Aside0 (w11.heap[gb575]? = some (.cells #[.int .i64 a0_0, .int .i64 a0_1] 80 (0, 0))) := ⟨by rw [← hq_]; exact (bP BK575)⟩; replace BK576 : Aside0 (w11.heap[gb576]? = some (.cells #[.int .i64 0, .int .i64 0] 80 (0, 0))) := ⟨by rw [← hq_]; exact (bP BK576)⟩; replace HB : Aside0 (Below w.heap.size w w11) := ⟨by rw [← hq_]; exact (bZ HB)⟩; clear hq_))
 replace BK575 := Aside0.mk (blk_drew BK575.out)
 replace BK576 := Aside0.mk (blk_drew BK576.out)
 replace HB := Aside0.mk (below_drew1 HB.out)
 refine start_ (n := 11) (S := fun w' => w'.cell? ⟨gb575, 0, none⟩ = some (.int .i64 a0_0) ∧ w'.cell? ⟨gb575, 1, none⟩ = some (.int .i64 a0_1)) (ds := []) #[false, false, false, false, false, false, false, false, false, false, false] (by kernel_rfl) rfl rfl ⟨bc BK575 0, bc BK575 1⟩ (fun hHeld => ?_); refine with_tabW spec_TwoInv.tab2 spec_TwoInv.bits2 (fun HT_ HW_ => ?_)
 generalize w11.drew = w12 at BK575 BK576 HB hHeld ⊢
 refine pI 0 (some 16) HT_.out ?_
 refine pI 2 (some 18) HT_.out ?_
 refine pI 4 (some 20) HT_.out ?_
 refine pI 7 (some 23) HT_.out ?_
 refine tI2 1 (some 17) HT_.out HW_.out hHeld ?_
 refine tI2 5 (some 21) HT_.out HW_.out hHeld ?_
 refine oI 3 (some 19) HT_.out (fun K hK => ?_)
 refine gO Tryd.func84 #[.int .i64 a0_0, .int .i64 t580] ?_
 with_reducible refine (spec_FpMul.calls a0_0 t580 t581 _ A6.out).mono ?_
 rintro e w' ⟨rfl, ⟨nd, rfl⟩⟩
 refine ⟨_, rfl, ?_⟩
 refine hK.out _ _ ⟨bc BK575 0, bc BK575 1⟩ (fun hHeld => ?_)
 clear hK K
 refine nO (some 19) ?_
 refine oI 6 (some 22) HT_.out (fun K hK => ?_)
 refine gO Tryd.func85 #[.int .i64 0, .int .i64 a0_1] ?_
 with_reducible refine (spec_FpSub.calls 0 a0_1 t582 _ A7.out).mono ?_
 rintro e w' ⟨rfl, ⟨nd, rfl⟩⟩
 refine ⟨_, rfl, ?_⟩
 refine hK.out _ _ ⟨bc BK575 0, bc BK575 1⟩ (fun hHeld => ?_)
 clear hK K
 refine nO (some 22) ?_
 refine oI 8 (some 24) HT_.out (fun K hK => ?_)
 refine gO Tryd.func84 #[.int .i64 t582, .int .i64 t580] ?_
 with_reducible refine (spec_FpMul.calls t582 t580 t583 _ A8.out).mono ?_
 rintro e w' ⟨rfl, ⟨nd, rfl⟩⟩
 refine ⟨_, rfl, ?_⟩
 refine hK.out _ _ ⟨bc BK575 0, bc BK575 1⟩ (fun hHeld => ?_)
 clear hK K
 refine nO (some 24) ?_
 refine pI 9 (some 25) HT_.out ?_
 refine oI 10 (none) HT_.out (fun K hK => ?_)
 have hs13 : w12.cell? ⟨gb576, 0, none⟩ = some (.int .i64 0) := bc BK576 0
 have hfs13 := blk_frozen BK576.out 0
 have hns13_0 := NB575_576.out
 have hms13_0 := NB576_575.out
 have hs14 : w12.cell? ⟨gb576, 1, none⟩ = some (.int .i64 0) := bc BK576 1
 have hfs14 := blk_frozen BK576.out 1
 have hns14_0 := NB575_576.out
 have hms14_0 := NB576_575.out
 refine skip_ (w1 := ?_) (by rfl) rfl ?_ ?_
 rotate_left
 ·go_simp
  rfl
 refine hK.out _ _ ⟨((cell_far (p := ⟨gb576, _, none⟩) NB575_576.out _).trans (((cell_far (p := ⟨gb576, _, none⟩) NB575_576.out _).trans (hHeld.1)))), ((cell_far (p := ⟨gb576, _, none⟩) NB575_576.out _).trans (((cell_far (p := ⟨gb576, _, none⟩) NB575_576.out _).trans (hHeld.2))))⟩ (fun hHeld => ?_)
 clear hK K
 refine done_ (done_of HT_.out (by kernel_rfl)) ?_
 try go_wp2
 refine rC gb576 80 #[.int .i64 t581, .int .i64 t583] (bU BK576) Tryd.underlying80 ?_
 exact ⟨rR, bZ HB⟩
/-! ### spec_Pairing: function 66 -/
def spec_Pairing.j0 : Nat → Bool → Int → Int → Bool → Int → Int → Bool → Option (Int × Int)
 | 0, _, _, _, _, _, _, _ => none
 | k + 1, x21, x585000, x585001, x585002, x586000, x586001, x586002 => if x21 = true then (some (1, 0)) else ((spec_Miller.f k x585000 x585001 x585002 x586000 x586001 x586002).bind fun bt589 => ((spec_TwoTurn.f bt589.1 bt589.2).bind fun bt592 => ((spec_TwoInv.f k bt589.1 bt589.2).bind fun bt594 => ((spec_TwoMul.f bt592.1 bt592.2 bt594.1 bt594.2).bind fun bt596 => ((spec_TwoPow.f k bt596.1 bt596.2 12).bind fun bt598 => (some (bt598.1, bt598.2)))))))
def spec_Pairing.f (k : Nat) (a0_0 : Int) (a0_1 : Int) (a0_2 : Bool) (a1_0 : Int) (a1_1 : Int) (a1_2 : Bool) : Option (Int × Int) := (spec_InGroup.f k a0_0 a0_1 a0_2).bind fun t587 => (if t587 = true then ((spec_InGroup.f k a1_0 a1_1 a1_2).bind fun t588 => (if t588 = true then (if a0_2 = true then (spec_Pairing.j0 k true a0_0 a0_1 a0_2 a1_0 a1_1 a1_2) else (spec_Pairing.j0 k a1_2 a0_0 a0_1 a0_2 a1_0 a1_1 a1_2)) else (spec_Pairing.j0 k true a0_0 a0_1 a0_2 a1_0 a1_1 a1_2))) else (spec_Pairing.j0 k true a0_0 a0_1 a0_2 a1_0 a1_1 a1_2))
theorem spec_Pairing.mono_l : ∀ k, (∀ y0 y1 y2 y3 y4 y5 y6, LeO (spec_Pairing.j0 k y0 y1 y2 y3 y4 y5 y6) (spec_Pairing.j0 (k + 1) y0 y1 y2 y3 y4 y5 y6))
 | 0 => fun _ _ _ _ _ _ _ r h => by simp [spec_Pairing.j0] at h
 | k + 1 => by
  have ih0 := spec_Pairing.mono_l k
  ·intro y0 y1 y2 y3 y4 y5 y6
   unfold spec_Pairing.j0
   repeat' first
   | (with_reducible exact ih0 _ _ _ _ _ _ _)
   | (with_reducible exact spec_InGroup.mono _ _ _ _)
   | (with_reducible exact spec_Miller.mono _ _ _ _ _ _ _)
   | (with_reducible exact spec_TwoInv.mono _ _ _)
   | (with_reducible exact spec_TwoPow.mono _ _ _ _)
   | (with_reducible exact LeO.refl _)
   | (with_reducible exact LeO.none _)
   | (with_reducible refine LeO.ite ?_ ?_)
   | (with_reducible refine LeO.bind ?_ (fun _ => ?_))
   | exact ih0 _ _ _ _ _ _ _
   | exact spec_InGroup.mono _ _ _ _
   | exact spec_Miller.mono _ _ _ _ _ _ _
   | exact spec_TwoInv.mono _ _ _
   | exact spec_TwoPow.mono _ _ _ _
   | exact LeO.none _
   | refine LeO.ite ?_ ?_
   | refine LeO.bind ?_ (fun _ => ?_)
theorem spec_Pairing.mono : ∀ a0 a1 a2 a3 a4 a5 k, LeO (spec_Pairing.f k a0 a1 a2 a3 a4 a5) (spec_Pairing.f (k + 1) a0 a1 a2 a3 a4 a5) := by
 intro a0 a1 a2 a3 a4 a5 k
 have ih0 := spec_Pairing.mono_l k
 unfold spec_Pairing.f
 repeat' first
   | (with_reducible exact ih0 _ _ _ _ _ _ _)
   | (with_reducible exact spec_InGroup.mono _ _ _ _)
   | (with_reducible exact spec_Miller.mono _ _ _ _ _ _ _)
   | (with_reducible exact spec_TwoInv.mono _ _ _)
   | (with_reducible exact spec_TwoPow.mono _ _ _ _)
   | (with_reducible exact LeO.refl _)
   | (with_reducible exact LeO.none _)
   | (with_reducible refine LeO.ite ?_ ?_)
   | (with_reducible refine LeO.bind ?_ (fun _ => ?_))
   | exact ih0 _ _ _ _ _ _ _
   | exact spec_InGroup.mono _ _ _ _
   | exact spec_Miller.mono _ _ _ _ _ _ _
   | exact spec_TwoInv.mono _ _ _
   | exact spec_TwoPow.mono _ _ _ _
   | exact LeO.none _
   | refine LeO.ite ?_ ?_
   | refine LeO.bind ?_ (fun _ => ?_)
set_option maxHeartbeats 8000000 in
set_option maxRecDepth 100000 in
theorem spec_Pairing.calls (k : Nat) (a0_0 : Int) (a0_1 : Int) (a0_2 : Bool) (a1_0 : Int) (a1_1 : Int) (a1_2 : Bool) (r1 : Int) (r2 : Int) (w : World) (h : spec_Pairing.f k a0_0 a0_1 a0_2 a1_0 a1_1 a1_2 = some (r1, r2)) :
  Calls Tryd.prog 66 #[.agg #[.int .i64 a0_0, .int .i64 a0_1, .bool a0_2], .agg #[.int .i64 a1_0, .int .i64 a1_1, .bool a1_2]] w fun e w' => e = .returned (.agg #[.int .i64 r1, .int .i64 r2]) ∧ Below w.heap.size w w' := by
 have hu23 := Tryd.underlying23
 have hu80 := Tryd.underlying80
 have HB := Aside0.mk (Below.refl w.heap.size w)
 have H : ((spec_InGroup.f k a0_0 a0_1 a0_2).bind fun t587 => (if t587 = true then ((spec_InGroup.f k a1_0 a1_1 a1_2).bind fun t588 => (if t588 = true then (if a0_2 = true then (spec_Pairing.j0 k true a0_0 a0_1 a0_2 a1_0 a1_1 a1_2) else (spec_Pairing.j0 k a1_2 a0_0 a0_1 a0_2 a1_0 a1_1 a1_2)) else (spec_Pairing.j0 k true a0_0 a0_1 a0_2 a1_0 a1_1 a1_2))) else (spec_Pairing.j0 k true a0_0 a0_1 a0_2 a1_0 a1_1 a1_2))) = some (r1, r2) := h
 clear h
 have HC3 := Aside0.mk H
 clear H
 go_enter Tryd.func66, Tryd.ntmps66
 go_upto_region 1 with (first | ((with_reducible refine gate_dst (N := 2) rfl ?_); refine bE 2 #[.int .i64 a0_0, .int .i64 a0_1, .bool a0_2] 23 ?_; intro gb584 hg w4 hbox hb; have BK584 := Aside0.mk (hbox); have GW584 := bG HB hg; have GE584 := bG HB hg; replace HB := bS HB hb; clear hb hbox hg) | ((with_reducible refine gate_dst (N := 3) rfl ?_); refine bE 3 #[.int .i64 a1_0, .int .i64 a1_1, .bool a1_2] 23 ?_; intro gb585 hg w5 hbox hb; have BK585 := Aside0.mk (hbox); have GW585 := bG HB hg; have GE585 := bG HB hg; replace HB := bS HB hb; have NB584_585 := bL BK584 hg; have NB585_584 := bR BK584 hg; replace BK584 := bB BK584 hb; clear hb hbox hg) | ((with_reducible refine gate_dst (N := 4) rfl ?_); refine bE 4 #[.int .i64 0, .int .i64 0] 80 ?_; intro gb586 hg w6 hbox hb; have BK586 := Aside0.mk (hbox); have GW586 := bG HB hg; have GE586 := bG HB hg; replace HB := bS HB hb; have NB584_586 := bL BK584 hg; have NB586_584 := bR BK584 hg; replace BK584 := bB BK584 hb; have NB585_586 := bL BK585 hg; have NB586_585 := bR BK585 hg; replace BK585 := bB BK585 hb; clear hb hbox hg))
 (try simp only [Act.put, List.setIfInBounds_toArray, List.set_cons_zero, List.set_cons_succ])
 go_cut [21] (fun v21 wc => ∃ (kq : Nat) (x21_2 : Bool), v21 = .bool x21_2 ∧ Aside0 (spec_Pairing.j0 kq x21_2 a0_0 a0_1 a0_2 a1_0 a1_1 a1_2 = some (r1, r2)) ∧ Aside0 (kq ≤ k) ∧ Aside0 (wc.heap[gb584]? = some (.cells #[.int .i64 a0_0, .int .i64 a0_1, .bool a0_2] 23 (0, 0))) ∧ Aside0 (wc.heap[gb585]? = some (.cells #[.int .i64 a1_0, .int .i64 a1_1, .bool a1_2] 23 (0, 0))) ∧ Aside0 (wc.heap[gb586]? = some (.cells #[.int .i64 0, .int .i64 0] 80 (0, 0))) ∧ Aside0 (Below w.heap.size w wc))
 case first =>
  have H := HC3.out
  clear HC3
  replace H := Option.bind_eq_some_iff.mp H
  obtain ⟨t587, A70, H⟩ := H
  have A7 := Aside0.mk A70
  clear A70
  by_cases c8 : t587 = true
  ·subst c8
   rw [if_pos rfl] at H
   replace H := Option.bind_eq_some_iff.mp H
   obtain ⟨t588, A90, H⟩ := H
   have A9 := Aside0.mk A90
   clear A90
   by_cases c10 : t588 = true
   ·subst c10
    rw [if_pos rfl] at H
    by_cases c11 : a0_2 = true
    ·subst c11
     rw [if_pos rfl] at H
     have H' := Aside0.mk H
     clear H
     have hnb12 := NB584_585.out
     have hnc12 := NB585_584.out
     have hnb13 := NB584_586.out
     have hnc13 := NB586_584.out
     obtain ⟨hcz14_0, hcz14_1, hcz14_2, hfz14_0, hfz14_1, hfz14_2⟩ := bK3 (w := w6) BK584
     go_wp2_with (first | ((with_reducible refine gate_callee (f := 65) rfl ?_); refine gL (some 7) Tryd.func65 #[.agg #[.int .i64 a0_0, .int .i64 a0_1, .bool true]] ?_; (with_reducible refine (spec_InGroup.calls k a0_0 a0_1 true true _ A7.out).mono ?_); rintro e w15 ⟨rfl, hb⟩; refine ⟨_, rfl, ?_⟩; replace BK584 := bB BK584 hb; replace BK585 := bB BK585 hb; replace BK586 := bB BK586 hb; replace HB := bS HB hb; (try clear hb); have hnb16 := NB585_586.out; have hnc16 := NB586_585.out; obtain ⟨hcz17_0, hcz17_1, hcz17_2, hfz17_0, hfz17_1, hfz17_2⟩ := bK3 (w := w15) BK585) | (go_at_call 65; (with_reducible refine (spec_InGroup.calls k a1_0 a1_1 a1_2 true _ A9.out).mono ?_); rintro e w18 ⟨rfl, hb⟩; replace BK584 := bB BK584 hb; replace BK585 := bB BK585 hb; replace BK586 := bB BK586 hb; replace HB := bS HB hb; (try clear hb); obtain ⟨hcz19_0, hcz19_1, hcz19_2, hfz19_0, hfz19_1, hfz19_2⟩ := bK3 (w := w18) BK584))
     go_meet
     case rel => exact ⟨_, (true), rS, H', ⟨by first | omega | exact Nat.le_refl _⟩, ⟨bP BK584⟩, ⟨bP BK585⟩, ⟨bP BK586⟩, ⟨bZ HB⟩⟩
    ·replace c11 := Bool.eq_false_iff.mpr c11
     subst c11
     rw [if_neg (show ¬ (false = true) by decide)] at H
     have H' := Aside0.mk H
     clear H
     have hnb20 := NB584_585.out
     have hnc20 := NB585_584.out
     have hnb21 := NB584_586.out
     have hnc21 := NB586_584.out
     obtain ⟨hcz22_0, hcz22_1, hcz22_2, hfz22_0, hfz22_1, hfz22_2⟩ := bK3 (w := w6) BK584
     go_wp2_with (first | ((with_reducible refine gate_callee (f := 65) rfl ?_); refine gL (some 7) Tryd.func65 #[.agg #[.int .i64 a0_0, .int .i64 a0_1, .bool false]] ?_; (with_reducible refine (spec_InGroup.calls k a0_0 a0_1 false true _ A7.out).mono ?_); rintro e w23 ⟨rfl, hb⟩; refine ⟨_, rfl, ?_⟩; replace BK584 := bB BK584 hb; replace BK585 := bB BK585 hb; replace BK586 := bB BK586 hb; replace HB := bS HB hb; (try clear hb); have hnb24 := NB585_586.out; have hnc24 := NB586_585.out; obtain ⟨hcz25_0, hcz25_1, hcz25_2, hfz25_0, hfz25_1, hfz25_2⟩ := bK3 (w := w23) BK585) | (go_at_call 65; (with_reducible refine (spec_InGroup.calls k a1_0 a1_1 a1_2 true _ A9.out).mono ?_); rintro e w26 ⟨rfl, hb⟩; replace BK584 := bB BK584 hb; replace BK585 := bB BK585 hb; replace BK586 := bB BK586 hb; replace HB := bS HB hb; (try clear hb); obtain ⟨hcz27_0, hcz27_1, hcz27_2, hfz27_0, hfz27_1, hfz27_2⟩ := bK3 (w := w26) BK584; obtain ⟨hcz28_0, hcz28_1, hcz28_2, hfz28_0, hfz28_1, hfz28_2⟩ := bK3 (w := w26) BK585))
     go_meet
     case rel => exact ⟨_, (a1_2), rS, H', ⟨by first | omega | exact Nat.le_refl _⟩, ⟨bP BK584⟩, ⟨bP BK585⟩, ⟨bP BK586⟩, ⟨bZ HB⟩⟩
   ·replace c10 := Bool.eq_false_iff.mpr c10
    subst c10
    rw [if_neg (show ¬ (false = true) by decide)] at H
    have H' := Aside0.mk H
    clear H
    have hnb29 := NB584_585.out
    have hnc29 := NB585_584.out
    have hnb30 := NB584_586.out
    have hnc30 := NB586_584.out
    obtain ⟨hcz31_0, hcz31_1, hcz31_2, hfz31_0, hfz31_1, hfz31_2⟩ := bK3 (w := w6) BK584
    go_wp2_with (first | ((with_reducible refine gate_callee (f := 65) rfl ?_); refine gL (some 7) Tryd.func65 #[.agg #[.int .i64 a0_0, .int .i64 a0_1, .bool a0_2]] ?_; (with_reducible refine (spec_InGroup.calls k a0_0 a0_1 a0_2 true _ A7.out).mono ?_); rintro e w32 ⟨rfl, hb⟩; refine ⟨_, rfl, ?_⟩; replace BK584 := bB BK584 hb; replace BK585 := bB BK585 hb; replace BK586 := bB BK586 hb; replace HB := bS HB hb; (try clear hb); have hnb33 := NB585_586.out; have hnc33 := NB586_585.out; obtain ⟨hcz34_0, hcz34_1, hcz34_2, hfz34_0, hfz34_1, hfz34_2⟩ := bK3 (w := w32) BK585) | (go_at_call 65; (with_reducible refine (spec_InGroup.calls k a1_0 a1_1 a1_2 false _ A9.out).mono ?_); rintro e w35 ⟨rfl, hb⟩; replace BK584 := bB BK584 hb; replace BK585 := bB BK585 hb; replace BK586 := bB BK586 hb; replace HB := bS HB hb; (try clear hb)))
    go_meet
    case rel => exact ⟨_, (true), rS, H', ⟨by first | omega | exact Nat.le_refl _⟩, ⟨bP BK584⟩, ⟨bP BK585⟩, ⟨bP BK586⟩, ⟨bZ HB⟩⟩
  ·replace c8 := Bool.eq_false_iff.mpr c8
   subst c8
   rw [if_neg (show ¬ (false = true) by decide)] at H
   have H' := Aside0.mk H
   clear H
   have hnb36 := NB584_585.out
   have hnc36 := NB585_584.out
   have hnb37 := NB584_586.out
   have hnc37 := NB586_584.out
   obtain ⟨hcz38_0, hcz38_1, hcz38_2, hfz38_0, hfz38_1, hfz38_2⟩ := bK3 (w := w6) BK584
   go_wp2_with (first | ((with_reducible refine gate_callee (f := 65) rfl ?_); refine gL (some 7) Tryd.func65 #[.agg #[.int .i64 a0_0, .int .i64 a0_1, .bool a0_2]] ?_; (with_reducible refine (spec_InGroup.calls k a0_0 a0_1 a0_2 false _ A7.out).mono ?_); rintro e w39 ⟨rfl, hb⟩; refine ⟨_, rfl, ?_⟩; replace BK584 := bB BK584 hb; replace BK585 := bB BK585 hb; replace BK586 := bB BK586 hb; replace HB := bS HB hb; (try clear hb)))
   go_meet
   case rel => exact ⟨_, (true), rS, H', ⟨by first | omega | exact Nat.le_refl _⟩, ⟨bP BK584⟩, ⟨bP BK585⟩, ⟨bP BK586⟩, ⟨bZ HB⟩⟩
 case rest =>
  clear HC3
  try clear c1
  try clear c2
  try clear p2
  try clear c3
  try clear c6
  try clear c8
  try clear c10
  try clear c11
  try clear c12
  try clear c13
  try clear c16
  try clear c20
  try clear c21
  try clear c24
  try clear c29
  try clear c30
  try clear c33
  try clear c36
  try clear c37
  try clear hcz14_0
  try clear hcz14_1
  try clear hcz14_2
  try clear hcz17_0
  try clear hcz17_1
  try clear hcz17_2
  try clear hcz19_0
  try clear hcz19_1
  try clear hcz19_2
  try clear hcz22_0
  try clear hcz22_1
  try clear hcz22_2
  try clear hcz25_0
  try clear hcz25_1
  try clear hcz25_2
  try clear hcz27_0
  try clear hcz27_1
  try clear hcz27_2
  try clear hcz28_0
  try clear hcz28_1
  try clear hcz28_2
  try clear hcz31_0
  try clear hcz31_1
  try clear hcz31_2
  try clear hcz34_0
  try clear hcz34_1
  try clear hcz34_2
  try clear hcz38_0
  try clear hcz38_1
  try clear hcz38_2
  try clear hfz14_0
  try clear hfz14_1
  try clear hfz14_2
  try clear hfz17_0
  try clear hfz17_1
  try clear hfz17_2
  try clear hfz19_0
  try clear hfz19_1
  try clear hfz19_2
  try clear hfz22_0
  try clear hfz22_1
  try clear hfz22_2
  try clear hfz25_0
  try clear hfz25_1
  try clear hfz25_2
  try clear hfz27_0
  try clear hfz27_1
  try clear hfz27_2
  try clear hfz28_0
  try clear hfz28_1
  try clear hfz28_2
  try clear hfz31_0
  try clear hfz31_1
  try clear hfz31_2
  try clear hfz34_0
  try clear hfz34_1
  try clear hfz34_2
  try clear hfz38_0
  try clear hfz38_1
  try clear hfz38_2
  obtain ⟨kq, x21_2, rfl, HA, HJ2, BK584, BK585, BK586, HB⟩ := hcut
  cases kq with
  | zero => exact absurd HA.out (by simp [spec_Pairing.j0])
  | succ kj2 =>
   have H := HA.out
   clear HA
   simp only [spec_Pairing.j0] at H
   by_cases c40 : x21_2 = true
   ·subst c40
    rw [if_pos rfl] at H
    simp only [Option.some.injEq, Prod.mk.injEq] at H
    obtain ⟨rfl, rfl⟩ := H
    have hnb41 := NB586_584.out
    have hnc41 := NB584_586.out
    have hnb42 := NB586_585.out
    have hnc42 := NB585_586.out
    obtain ⟨hcz43_0, hcz43_1, hfz43_0, hfz43_1⟩ := bK2 (w := wc) BK586
    go_wp2
    refine rC gb586 80 #[.int .i64 1, .int .i64 0] (bU BK586) Tryd.underlying80 ?_
    exact ⟨rR, bZ HB⟩
   ·replace c40 := Bool.eq_false_iff.mpr c40
    subst c40
    rw [if_neg (show ¬ (false = true) by decide)] at H
    replace H := Option.bind_eq_some_iff.mp H
    obtain ⟨⟨t589, t590⟩, A440, H⟩ := H
    have A44 := Aside0.mk A440
    clear A440
    replace H := Option.bind_eq_some_iff.mp H
    obtain ⟨⟨t592, t593⟩, A450, H⟩ := H
    have A45 := Aside0.mk A450
    clear A450
    replace H := Option.bind_eq_some_iff.mp H
    obtain ⟨⟨t594, t595⟩, A460, H⟩ := H
    have A46 := Aside0.mk A460
    clear A460
    replace H := Option.bind_eq_some_iff.mp H
    obtain ⟨⟨t596, t597⟩, A470, H⟩ := H
    have A47 := Aside0.mk A470
    clear A470
    replace H := Option.bind_eq_some_iff.mp H
    obtain ⟨⟨t598, t599⟩, A480, H⟩ := H
    have A48 := Aside0.mk A480
    clear A480
    simp only [Option.some.injEq, Prod.mk.injEq] at H
    obtain ⟨rfl, rfl⟩ := H
    have hnb49 := NB584_585.out
    have hnc49 := NB585_584.out
    have hnb50 := NB584_586.out
    have hnc50 := NB586_584.out
    obtain ⟨hcz51_0, hcz51_1, hcz51_2, hfz51_0, hfz51_1, hfz51_2⟩ := bK3 (w := wc) BK584
    have hnb52 := NB585_586.out
    have hnc52 := NB586_585.out
    obtain ⟨hcz53_0, hcz53_1, hcz53_2, hfz53_0, hfz53_1, hfz53_2⟩ := bK3 (w := wc) BK585
    try go_wp2_with (first | ((with_reducible refine gate_callee (f := 102) rfl ?_); refine gL (some 25) Tryd.func102 #[.agg #[.int .i64 a0_0, .int .i64 a0_1, .bool a0_2], .agg #[.int .i64 a1_0, .int .i64 a1_1, .bool a1_2]] ?_; (with_reducible refine (spec_Miller.calls kj2 a0_0 a0_1 a0_2 a1_0 a1_1 a1_2 t589 t590 _ A44.out).mono ?_); rintro e w54 ⟨rfl, hb⟩; refine ⟨_, rfl, ?_⟩; replace BK584 := bB BK584 hb; replace BK585 := bB BK585 hb; replace BK586 := bB BK586 hb; replace HB := bS HB hb; (try clear hb)) | ((with_reducible refine gate_dst (N := 5) rfl ?_); refine bE 5 #[.int .i64 0, .int .i64 0] 80 ?_; intro gb591 hg w55 hbox hb; have BK591 := Aside0.mk (hbox); have GW591 := bG HB hg; have GE591 := bG HB hg; replace HB := bS HB hb; have NB584_591 := bL BK584 hg; have NB591_584 := bR BK584 hg; replace BK584 := bB BK584 hb; have NB585_591 := bL BK585 hg; have NB591_585 := bR BK585 hg; replace BK585 := bB BK585 hb; have NB586_591 := bL BK586 hg; have NB591_586 := bR BK586 hg; replace BK586 := bB BK586 hb; clear hb hbox hg; have hnb56 := NB591_584.out; have hnc56 := NB584_591.out; have hnb57 := NB591_585.out; have hnc57 := NB585_591.out; have hnb58 := NB591_586.out; have hnc58 := NB586_591.out; obtain ⟨hcz59_0, hcz59_1, hfz59_0, hfz59_1⟩ := bK2 (w := w55) BK591))
    have n0_ : Aside0 (((w55.setCell ⟨gb591, 0, none⟩ (.int .i64 t589)).setCell ⟨gb591, 1, none⟩ (.int .i64 t590)).heap[gb584]? = some (.cells #[.int .i64 a0_0, .int .i64 a0_1, .bool a0_2] 23 (0, 0))) := ⟨bP BK584⟩
    have n1_ : Aside0 (((w55.setCell ⟨gb591, 0, none⟩ (.int .i64 t589)).setCell ⟨gb591, 1, none⟩ (.int .i64 t590)).heap[gb585]? = some (.cells #[.int .i64 a1_0, .int .i64 a1_1, .bool a1_2] 23 (0, 0))) := ⟨bP BK585⟩
    have n2_ : Aside0 (((w55.setCell ⟨gb591, 0, none⟩ (.int .i64 t589)).setCell ⟨gb591, 1, none⟩ (.int .i64 t590)).heap[gb586]? = some (.cells #[.int .i64 0, .int .i64 0] 80 (0, 0))) := ⟨bP BK586⟩
    have n3_ : Aside0 (((w55.setCell ⟨gb591, 0, none⟩ (.int .i64 t589)).setCell ⟨gb591, 1, none⟩ (.int .i64 t590)).heap[gb591]? = some (.cells #[.int .i64 t589, .int .i64 t590] 80 (0, 0))) := ⟨bU BK591⟩
    have n4_ : Aside0 (Below w.heap.size w ((w55.setCell ⟨gb591, 0, none⟩ (.int .i64 t589)).setCell ⟨gb591, 1, none⟩ (.int .i64 t590))) := ⟨bZ HB⟩
    (try clear BK584)
    (try clear BK585)
    (try clear BK586)
    (try clear BK591)
    (try clear HB)
    generalize ((w55.setCell ⟨gb591, 0, none⟩ (.int .i64 t589)).setCell ⟨gb591, 1, none⟩ (.int .i64 t590)) = w60 at n0_ n1_ n2_ n3_ n4_ ⊢
    have BK584 := n0_
    have BK585 := n1_
    have BK586 := n2_
    have BK591 := n3_
    have HB := n4_
    clear n0_ n1_ n2_ n3_ n4_
    replace BK584 := Aside0.mk (blk_drew BK584.out)
    replace BK585 := Aside0.mk (blk_drew BK585.out)
    replace BK586 := Aside0.mk (blk_drew BK586.out)
    replace BK591 := Aside0.mk (blk_drew BK591.out)
    replace HB := Aside0.mk (below_drew1 HB.out)
    refine start_ (n := 7) (S := fun w' => w'.cell? ⟨gb591, 0, none⟩ = some (.int .i64 t589) ∧ w'.cell? ⟨gb591, 1, none⟩ = some (.int .i64 t590)) (ds := []) #[false, false, false, false, false, false, false] (by kernel_rfl) rfl rfl ⟨bc BK591 0, bc BK591 1⟩ (fun hHeld => ?_)
    generalize w60.drew = w61 at BK584 BK585 BK586 BK591 HB hHeld ⊢
    refine take_ (i := 0) (N := some 26) (v := ?_) (a' := ?_) #[true, false, false, false, false, false, false] rfl rfl (by kernel_rfl) (fun _ _ _ h => h) (Or.inl ⟨by rfl, ?_⟩) hHeld ?_ ?_
    rotate_left
    ·rintro w' ⟨s0, s1⟩
     go_simp
     with_reducible rfl
    rotate_left
    ·simp only [Act.put, List.setIfInBounds_toArray, List.set_cons_zero, List.set_cons_succ, i64_w, i32_w]
     rfl
    refine take_ (i := 2) (N := some 28) (v := ?_) (a' := ?_) #[true, false, true, false, false, false, false] rfl rfl (by kernel_rfl) (fun _ _ _ h => h) (Or.inl ⟨by rfl, ?_⟩) hHeld ?_ ?_
    rotate_left
    ·rintro w' ⟨s0, s1⟩
     go_simp
     with_reducible rfl
    rotate_left
    ·simp only [Act.put, List.setIfInBounds_toArray, List.set_cons_zero, List.set_cons_succ, i64_w, i32_w]
     rfl
    refine one_ (i := 1) (N := some 27) #[true, true, true, false, false, false, false] rfl rfl (by kernel_rfl) (by decide) (fun K hK => ?_)
    refine gO Tryd.func105 #[.agg #[.int .i64 t589, .int .i64 t590]] ?_
    with_reducible refine (spec_TwoTurn.calls t589 t590 t592 t593 _ A45.out).mono ?_
    rintro e w62 ⟨rfl, hb⟩
    refine ⟨_, rfl, ?_⟩
    replace BK584 := bB BK584 hb
    replace BK585 := bB BK585 hb
    replace BK586 := bB BK586 hb
    replace BK591 := bB BK591 hb
    replace HB := bS HB hb
    (try clear hb)
    refine hK.out _ _ ⟨bc BK591 0, bc BK591 1⟩ (fun hHeld => ?_)
    clear hK K
    refine nO (some 27) ?_
    refine one_ (i := 3) (N := some 29) #[true, true, true, true, false, false, false] rfl rfl (by kernel_rfl) (by decide) (fun K hK => ?_)
    refine gO Tryd.func106 #[.agg #[.int .i64 t589, .int .i64 t590]] ?_
    with_reducible refine (spec_TwoInv.calls kj2 t589 t590 t594 t595 _ A46.out).mono ?_
    rintro e w63 ⟨rfl, hb⟩
    refine ⟨_, rfl, ?_⟩
    replace BK584 := bB BK584 hb
    replace BK585 := bB BK585 hb
    replace BK586 := bB BK586 hb
    replace BK591 := bB BK591 hb
    replace HB := bS HB hb
    (try clear hb)
    refine hK.out _ _ ⟨bc BK591 0, bc BK591 1⟩ (fun hHeld => ?_)
    clear hK K
    refine nO (some 29) ?_
    refine one_ (i := 4) (N := some 30) #[true, true, true, true, true, false, false] rfl rfl (by kernel_rfl) (by decide) (fun K hK => ?_)
    refine gO Tryd.func104 #[.agg #[.int .i64 t592, .int .i64 t593], .agg #[.int .i64 t594, .int .i64 t595]] ?_
    with_reducible refine (spec_TwoMul.calls t592 t593 t594 t595 t596 t597 _ A47.out).mono ?_
    rintro e w64 ⟨rfl, hb⟩
    refine ⟨_, rfl, ?_⟩
    replace BK584 := bB BK584 hb
    replace BK585 := bB BK585 hb
    replace BK586 := bB BK586 hb
    replace BK591 := bB BK591 hb
    replace HB := bS HB hb
    (try clear hb)
    refine hK.out _ _ ⟨bc BK591 0, bc BK591 1⟩ (fun hHeld => ?_)
    clear hK K
    refine nO (some 30) ?_
    refine one_ (i := 5) (N := some 31) #[true, true, true, true, true, true, false] rfl rfl (by kernel_rfl) (by decide) (fun K hK => ?_)
    refine gO Tryd.func103 #[.agg #[.int .i64 t596, .int .i64 t597], .int .i64 12] ?_
    with_reducible refine (spec_TwoPow.calls kj2 t596 t597 12 t598 t599 _ A48.out).mono ?_
    rintro e w65 ⟨rfl, hb⟩
    refine ⟨_, rfl, ?_⟩
    replace BK584 := bB BK584 hb
    replace BK585 := bB BK585 hb
    replace BK586 := bB BK586 hb
    replace BK591 := bB BK591 hb
    replace HB := bS HB hb
    (try clear hb)
    refine hK.out _ _ ⟨bc BK591 0, bc BK591 1⟩ (fun hHeld => ?_)
    clear hK K
    refine nO (some 31) ?_
    refine one_ (i := 6) (N := none) #[true, true, true, true, true, true, true] rfl rfl (by kernel_rfl) (by decide) (fun K hK => ?_)
    have hs66 : w65.cell? ⟨gb586, 0, none⟩ = some (.int .i64 0) := bc BK586 0
    have hfs66 := blk_frozen BK586.out 0
    have hns66_0 := NB584_586.out
    have hns66_1 := NB585_586.out
    have hns66_3 := NB591_586.out
    have hms66_0 := NB586_584.out
    have hms66_1 := NB586_585.out
    have hms66_3 := NB586_591.out
    have hs67 : w65.cell? ⟨gb586, 1, none⟩ = some (.int .i64 0) := bc BK586 1
    have hfs67 := blk_frozen BK586.out 1
    have hns67_0 := NB584_586.out
    have hns67_1 := NB585_586.out
    have hns67_3 := NB591_586.out
    have hms67_0 := NB586_584.out
    have hms67_1 := NB586_585.out
    have hms67_3 := NB586_591.out
    refine skip_ (w1 := ?_) (by rfl) rfl ?_ ?_
    rotate_left
    ·go_simp
     rfl
    refine hK.out _ _ ⟨((cell_far (p := ⟨gb586, _, none⟩) NB591_586.out _).trans (((cell_far (p := ⟨gb586, _, none⟩) NB591_586.out _).trans (hHeld.1)))), ((cell_far (p := ⟨gb586, _, none⟩) NB591_586.out _).trans (((cell_far (p := ⟨gb586, _, none⟩) NB591_586.out _).trans (hHeld.2))))⟩ (fun hHeld => ?_)
    clear hK K
    refine done_ (by kernel_rfl) ?_
    try go_wp2
    refine rC gb586 80 #[.int .i64 t598, .int .i64 t599] (bU BK586) Tryd.underlying80 ?_
    exact ⟨rR, bZ HB⟩
end Go.Proofs.YtkdmplfldfagnaaDoor.Pf
end
section
namespace Go.Proofs.YtkdmplfldfagnaaDoor.Pf
open Go.RowKit Go.Proofs.YtkdmplfldfagnaaDoorW.PrintWords Go.Proofs.YtkdmplfldfagnaaDoorW.PrintLast Go.Proofs.YtkdmplfldfagnaaDoorW.PrintMore
attribute [local go_sem] max2_int min2_int max_two min_two max_three min_three max_four min_four   -- for this text's walks alone
set_option linter.unusedVariables false
set_option linter.unusedSimpArgs false
attribute [local go_sem high] eqA80
/-! ### spec_SigOk: function 22 -/
def spec_SigOk.j0 : Nat → ByteArray → Bool → Int → Int → Bool → Int → Int → Bool → Option (Bool)
 | 0, _, _, _, _, _, _, _, _ => none
 | k + 1, x1, x22, x601000, x601001, x601002, x602000, x602001, x602002 => if x22 = true then (some false) else ((spec_Base.f).bind fun bt604 => ((spec_Pairing.f k x602000 x602001 x602002 bt604.1 bt604.2.1 bt604.2.2).bind fun bt607 => ((spec_HashPoint.f k x1).bind fun bt609 => ((spec_Pairing.f k bt609.1 bt609.2.1 bt609.2.2 x601000 x601001 x601002).bind fun bt612 => (some (bt607.1 == bt612.1 && (bt607.2 == bt612.2)))))))
def spec_SigOk.f (k : Nat) (a0_0 : Int) (a0_1 : Int) (a0_2 : Bool) (a1 : ByteArray) (a2_0 : Int) (a2_1 : Int) (a2_2 : Bool) : Option (Bool) := (spec_InGroup.f k a0_0 a0_1 a0_2).bind fun t602 => (if t602 = true then ((spec_InGroup.f k a2_0 a2_1 a2_2).bind fun t603 => (if t603 = true then (if a0_2 = true then (spec_SigOk.j0 k a1 true a0_0 a0_1 a0_2 a2_0 a2_1 a2_2) else (spec_SigOk.j0 k a1 a2_2 a0_0 a0_1 a0_2 a2_0 a2_1 a2_2)) else (spec_SigOk.j0 k a1 true a0_0 a0_1 a0_2 a2_0 a2_1 a2_2))) else (spec_SigOk.j0 k a1 true a0_0 a0_1 a0_2 a2_0 a2_1 a2_2))
theorem spec_SigOk.mono_l : ∀ k, (∀ y0 y1 y2 y3 y4 y5 y6 y7, LeO (spec_SigOk.j0 k y0 y1 y2 y3 y4 y5 y6 y7) (spec_SigOk.j0 (k + 1) y0 y1 y2 y3 y4 y5 y6 y7))
 | 0 => fun _ _ _ _ _ _ _ _ r h => by simp [spec_SigOk.j0] at h
 | k + 1 => by
  have ih0 := spec_SigOk.mono_l k
  ·intro y0 y1 y2 y3 y4 y5 y6 y7
   unfold spec_SigOk.j0
   repeat' first
   | (with_reducible exact ih0 _ _ _ _ _ _ _ _)
   | (with_reducible exact spec_HashPoint.mono _ _)
   | (with_reducible exact spec_InGroup.mono _ _ _ _)
   | (with_reducible exact spec_Pairing.mono _ _ _ _ _ _ _)
   | (with_reducible exact LeO.refl _)
   | (with_reducible exact LeO.none _)
   | (with_reducible refine LeO.ite ?_ ?_)
   | (with_reducible refine LeO.bind ?_ (fun _ => ?_))
   | exact ih0 _ _ _ _ _ _ _ _
   | exact spec_HashPoint.mono _ _
   | exact spec_InGroup.mono _ _ _ _
   | exact spec_Pairing.mono _ _ _ _ _ _ _
   | exact LeO.none _
   | refine LeO.ite ?_ ?_
   | refine LeO.bind ?_ (fun _ => ?_)
theorem spec_SigOk.mono : ∀ a0 a1 a2 a3 a4 a5 a6 k, LeO (spec_SigOk.f k a0 a1 a2 a3 a4 a5 a6) (spec_SigOk.f (k + 1) a0 a1 a2 a3 a4 a5 a6) := by
 intro a0 a1 a2 a3 a4 a5 a6 k
 have ih0 := spec_SigOk.mono_l k
 unfold spec_SigOk.f
 repeat' first
   | (with_reducible exact ih0 _ _ _ _ _ _ _ _)
   | (with_reducible exact spec_HashPoint.mono _ _)
   | (with_reducible exact spec_InGroup.mono _ _ _ _)
   | (with_reducible exact spec_Pairing.mono _ _ _ _ _ _ _)
   | (with_reducible exact LeO.refl _)
   | (with_reducible exact LeO.none _)
   | (with_reducible refine LeO.ite ?_ ?_)
   | (with_reducible refine LeO.bind ?_ (fun _ => ?_))
   | exact ih0 _ _ _ _ _ _ _ _
   | exact spec_HashPoint.mono _ _
   | exact spec_InGroup.mono _ _ _ _
   | exact spec_Pairing.mono _ _ _ _ _ _ _
   | exact LeO.none _
   | refine LeO.ite ?_ ?_
   | refine LeO.bind ?_ (fun _ => ?_)
def spec_SigOk.T3 : Bool × List (List Nat × List Nat) := (true, [([], []), ([], []), ([0, 1, 1], [0, 1]), ([], []), ([3, 2], [3]), ([], []), ([4, 5, 4], [4, 5]), ([2, 6], [2, 6]), ([7, 6, 0, 1, 2, 3, 4, 5, 6, 7], [7])])
def spec_SigOk.B3 : List Nat := [0, 0, 3, 0, 15, 0, 63, 127, 255]
theorem spec_SigOk.tab3 : rtab .any (opsOf Tryd.f22 3) = spec_SigOk.T3 := by kernel_rfl
theorem spec_SigOk.bits3 : waitsOk spec_SigOk.T3.2 spec_SigOk.B3 = true := by kernel_rfl
set_option maxHeartbeats 8000000 in
set_option maxRecDepth 100000 in
theorem spec_SigOk.calls (k : Nat) (a0_0 : Int) (a0_1 : Int) (a0_2 : Bool) (a1 : ByteArray) (a2_0 : Int) (a2_1 : Int) (a2_2 : Bool) (r : Bool) (w : World) (h : spec_SigOk.f k a0_0 a0_1 a0_2 a1 a2_0 a2_1 a2_2 = some r) :
  Calls Tryd.prog 22 #[.agg #[.int .i64 a0_0, .int .i64 a0_1, .bool a0_2], .string a1, .agg #[.int .i64 a2_0, .int .i64 a2_1, .bool a2_2]] w fun e w' => e = .returned (.bool r) ∧ Below w.heap.size w w' := by
 have hu23 := Tryd.underlying23
 have HB := Aside0.mk (Below.refl w.heap.size w)
 have H : ((spec_InGroup.f k a0_0 a0_1 a0_2).bind fun t602 => (if t602 = true then ((spec_InGroup.f k a2_0 a2_1 a2_2).bind fun t603 => (if t603 = true then (if a0_2 = true then (spec_SigOk.j0 k a1 true a0_0 a0_1 a0_2 a2_0 a2_1 a2_2) else (spec_SigOk.j0 k a1 a2_2 a0_0 a0_1 a0_2 a2_0 a2_1 a2_2)) else (spec_SigOk.j0 k a1 true a0_0 a0_1 a0_2 a2_0 a2_1 a2_2))) else (spec_SigOk.j0 k a1 true a0_0 a0_1 a0_2 a2_0 a2_1 a2_2))) = some r := h
 clear h
 have HC4 := Aside0.mk H
 clear H
 go_enter Tryd.func22, Tryd.ntmps22
 go_upto_region 1 with (first | ((with_reducible refine gate_dst (N := 3) rfl ?_); refine bE 3 #[.int .i64 a0_0, .int .i64 a0_1, .bool a0_2] 23 ?_; intro gb600 hg w5 hbox hb; have BK600 := Aside0.mk (hbox); have GW600 := bG HB hg; have GE600 := bG HB hg; replace HB := bS HB hb; clear hb hbox hg) | ((with_reducible refine gate_dst (N := 5) rfl ?_); refine bE 5 #[.int .i64 a2_0, .int .i64 a2_1, .bool a2_2] 23 ?_; intro gb601 hg w6 hbox hb; have BK601 := Aside0.mk (hbox); have GW601 := bG HB hg; have GE601 := bG HB hg; replace HB := bS HB hb; have NB600_601 := bL BK600 hg; have NB601_600 := bR BK600 hg; replace BK600 := bB BK600 hb; clear hb hbox hg))
 (try simp only [Act.put, List.setIfInBounds_toArray, List.set_cons_zero, List.set_cons_succ])
 go_cut [22] (fun v22 wc => ∃ (kq : Nat) (x22_3 : Bool), v22 = .bool x22_3 ∧ Aside0 (spec_SigOk.j0 kq a1 x22_3 a0_0 a0_1 a0_2 a2_0 a2_1 a2_2 = some r) ∧ Aside0 (kq ≤ k) ∧ Aside0 (wc.heap[gb600]? = some (.cells #[.int .i64 a0_0, .int .i64 a0_1, .bool a0_2] 23 (0, 0))) ∧ Aside0 (wc.heap[gb601]? = some (.cells #[.int .i64 a2_0, .int .i64 a2_1, .bool a2_2] 23 (0, 0))) ∧ Aside0 (Below w.heap.size w wc))
 case first =>
  have H := HC4.out
  clear HC4
  replace H := Option.bind_eq_some_iff.mp H
  obtain ⟨t602, A70, H⟩ := H
  have A7 := Aside0.mk A70
  clear A70
  by_cases c8 : t602 = true
  ·subst c8
   rw [if_pos rfl] at H
   replace H := Option.bind_eq_some_iff.mp H
   obtain ⟨t603, A90, H⟩ := H
   have A9 := Aside0.mk A90
   clear A90
   by_cases c10 : t603 = true
   ·subst c10
    rw [if_pos rfl] at H
    by_cases c11 : a0_2 = true
    ·subst c11
     rw [if_pos rfl] at H
     have H' := Aside0.mk H
     clear H
     have hnb12 := NB600_601.out
     have hnc12 := NB601_600.out
     obtain ⟨hcz13_0, hcz13_1, hcz13_2, hfz13_0, hfz13_1, hfz13_2⟩ := bK3 (w := w6) BK600
     go_wp2_with (first | ((with_reducible refine gate_callee (f := 65) rfl ?_); refine gL (some 8) Tryd.func65 #[.agg #[.int .i64 a0_0, .int .i64 a0_1, .bool true]] ?_; (with_reducible refine (spec_InGroup.calls k a0_0 a0_1 true true _ A7.out).mono ?_); rintro e w14 ⟨rfl, hb⟩; refine ⟨_, rfl, ?_⟩; replace BK600 := bB BK600 hb; replace BK601 := bB BK601 hb; replace HB := bS HB hb; (try clear hb); obtain ⟨hcz15_0, hcz15_1, hcz15_2, hfz15_0, hfz15_1, hfz15_2⟩ := bK3 (w := w14) BK601) | (go_at_call 65; (with_reducible refine (spec_InGroup.calls k a2_0 a2_1 a2_2 true _ A9.out).mono ?_); rintro e w16 ⟨rfl, hb⟩; replace BK600 := bB BK600 hb; replace BK601 := bB BK601 hb; replace HB := bS HB hb; (try clear hb); obtain ⟨hcz17_0, hcz17_1, hcz17_2, hfz17_0, hfz17_1, hfz17_2⟩ := bK3 (w := w16) BK600))
     go_meet
     case rel => exact ⟨_, (true), rS, H', ⟨by first | omega | exact Nat.le_refl _⟩, ⟨bP BK600⟩, ⟨bP BK601⟩, ⟨bZ HB⟩⟩
    ·replace c11 := Bool.eq_false_iff.mpr c11
     subst c11
     rw [if_neg (show ¬ (false = true) by decide)] at H
     have H' := Aside0.mk H
     clear H
     have hnb18 := NB600_601.out
     have hnc18 := NB601_600.out
     obtain ⟨hcz19_0, hcz19_1, hcz19_2, hfz19_0, hfz19_1, hfz19_2⟩ := bK3 (w := w6) BK600
     go_wp2_with (first | ((with_reducible refine gate_callee (f := 65) rfl ?_); refine gL (some 8) Tryd.func65 #[.agg #[.int .i64 a0_0, .int .i64 a0_1, .bool false]] ?_; (with_reducible refine (spec_InGroup.calls k a0_0 a0_1 false true _ A7.out).mono ?_); rintro e w20 ⟨rfl, hb⟩; refine ⟨_, rfl, ?_⟩; replace BK600 := bB BK600 hb; replace BK601 := bB BK601 hb; replace HB := bS HB hb; (try clear hb); obtain ⟨hcz21_0, hcz21_1, hcz21_2, hfz21_0, hfz21_1, hfz21_2⟩ := bK3 (w := w20) BK601) | (go_at_call 65; (with_reducible refine (spec_InGroup.calls k a2_0 a2_1 a2_2 true _ A9.out).mono ?_); rintro e w22 ⟨rfl, hb⟩; replace BK600 := bB BK600 hb; replace BK601 := bB BK601 hb; replace HB := bS HB hb; (try clear hb); obtain ⟨hcz23_0, hcz23_1, hcz23_2, hfz23_0, hfz23_1, hfz23_2⟩ := bK3 (w := w22) BK600; obtain ⟨hcz24_0, hcz24_1, hcz24_2, hfz24_0, hfz24_1, hfz24_2⟩ := bK3 (w := w22) BK601))
     go_meet
     case rel => exact ⟨_, (a2_2), rS, H', ⟨by first | omega | exact Nat.le_refl _⟩, ⟨bP BK600⟩, ⟨bP BK601⟩, ⟨bZ HB⟩⟩
   ·replace c10 := Bool.eq_false_iff.mpr c10
    subst c10
    rw [if_neg (show ¬ (false = true) by decide)] at H
    have H' := Aside0.mk H
    clear H
    have hnb25 := NB600_601.out
    have hnc25 := NB601_600.out
    obtain ⟨hcz26_0, hcz26_1, hcz26_2, hfz26_0, hfz26_1, hfz26_2⟩ := bK3 (w := w6) BK600
    go_wp2_with (first | ((with_reducible refine gate_callee (f := 65) rfl ?_); refine gL (some 8) Tryd.func65 #[.agg #[.int .i64 a0_0, .int .i64 a0_1, .bool a0_2]] ?_; (with_reducible refine (spec_InGroup.calls k a0_0 a0_1 a0_2 true _ A7.out).mono ?_); rintro e w27 ⟨rfl, hb⟩; refine ⟨_, rfl, ?_⟩; replace BK600 := bB BK600 hb; replace BK601 := bB BK601 hb; replace HB := bS HB hb; (try clear hb); obtain ⟨hcz28_0, hcz28_1, hcz28_2, hfz28_0, hfz28_1, hfz28_2⟩ := bK3 (w := w27) BK601) | (go_at_call 65; (with_reducible refine (spec_InGroup.calls k a2_0 a2_1 a2_2 false _ A9.out).mono ?_); rintro e w29 ⟨rfl, hb⟩; replace BK600 := bB BK600 hb; replace BK601 := bB BK601 hb; replace HB := bS HB hb; (try clear hb)))
    go_meet
    case rel => exact ⟨_, (true), rS, H', ⟨by first | omega | exact Nat.le_refl _⟩, ⟨bP BK600⟩, ⟨bP BK601⟩, ⟨bZ HB⟩⟩
  ·replace c8 := Bool.eq_false_iff.mpr c8
   subst c8
   rw [if_neg (show ¬ (false = true) by decide)] at H
   have H' := Aside0.mk H
   clear H
   have hnb30 := NB600_601.out
   have hnc30 := NB601_600.out
   obtain ⟨hcz31_0, hcz31_1, hcz31_2, hfz31_0, hfz31_1, hfz31_2⟩ := bK3 (w := w6) BK600
   go_wp2_with (first | ((with_reducible refine gate_callee (f := 65) rfl ?_); refine gL (some 8) Tryd.func65 #[.agg #[.int .i64 a0_0, .int .i64 a0_1, .bool a0_2]] ?_; (with_reducible refine (spec_InGroup.calls k a0_0 a0_1 a0_2 false _ A7.out).mono ?_); rintro e w32 ⟨rfl, hb⟩; refine ⟨_, rfl, ?_⟩; replace BK600 := bB BK600 hb; replace BK601 := bB BK601 hb; replace HB := bS HB hb; (try clear hb)))
   go_meet
   case rel => exact ⟨_, (true), rS, H', ⟨by first | omega | exact Nat.le_refl _⟩, ⟨bP BK600⟩, ⟨bP BK601⟩, ⟨bZ HB⟩⟩
 case rest =>
  clear HC4
  try clear c1
  try clear c2
  try clear p2
  try clear c3
  try clear c6
  try clear c8
  try clear c10
  try clear c11
  try clear c12
  try clear c18
  try clear c22
  try clear c25
  try clear c30
  try clear hcz13_0
  try clear hcz13_1
  try clear hcz13_2
  try clear hcz15_0
  try clear hcz15_1
  try clear hcz15_2
  try clear hcz17_0
  try clear hcz17_1
  try clear hcz17_2
  try clear hcz19_0
  try clear hcz19_1
  try clear hcz19_2
  try clear hcz21_0
  try clear hcz21_1
  try clear hcz21_2
  try clear hcz23_0
  try clear hcz23_1
  try clear hcz23_2
  try clear hcz24_0
  try clear hcz24_1
  try clear hcz24_2
  try clear hcz26_0
  try clear hcz26_1
  try clear hcz26_2
  try clear hcz28_0
  try clear hcz28_1
  try clear hcz28_2
  try clear hcz31_0
  try clear hcz31_1
  try clear hcz31_2
  try clear hfz13_0
  try clear hfz13_1
  try clear hfz13_2
  try clear hfz15_0
  try clear hfz15_1
  try clear hfz15_2
  try clear hfz17_0
  try clear hfz17_1
  try clear hfz17_2
  try clear hfz19_0
  try clear hfz19_1
  try clear hfz19_2
  try clear hfz21_0
  try clear hfz21_1
  try clear hfz21_2
  try clear hfz23_0
  try clear hfz23_1
  try clear hfz23_2
  try clear hfz24_0
  try clear hfz24_1
  try clear hfz24_2
  try clear hfz26_0
  try clear hfz26_1
  try clear hfz26_2
  try clear hfz28_0
  try clear hfz28_1
  try clear hfz28_2
  try clear hfz31_0
  try clear hfz31_1
  try clear hfz31_2
  obtain ⟨kq, x22_3, rfl, HA, HJ3, BK600, BK601, HB⟩ := hcut
  cases kq with
  | zero => exact absurd HA.out (by simp [spec_SigOk.j0])
  | succ kj3 =>
   have H := HA.out
   clear HA
   simp only [spec_SigOk.j0] at H
   by_cases c33 : x22_3 = true
   ·subst c33
    rw [if_pos rfl] at H
    obtain rfl := Option.some.inj H
    go_wp2
    go_ret
    exact ⟨rR, bZ HB⟩
   ·replace c33 := Bool.eq_false_iff.mpr c33
    subst c33
    rw [if_neg (show ¬ (false = true) by decide)] at H
    replace H := Option.bind_eq_some_iff.mp H
    obtain ⟨⟨t604, t605, t606⟩, A340, H⟩ := H
    have A34 := Aside0.mk A340
    clear A340
    replace H := Option.bind_eq_some_iff.mp H
    obtain ⟨⟨t607, t608⟩, A350, H⟩ := H
    have A35 := Aside0.mk A350
    clear A350
    replace H := Option.bind_eq_some_iff.mp H
    obtain ⟨⟨t609, t610, t611⟩, A360, H⟩ := H
    have A36 := Aside0.mk A360
    clear A360
    replace H := Option.bind_eq_some_iff.mp H
    obtain ⟨⟨t612, t613⟩, A370, H⟩ := H
    have A37 := Aside0.mk A370
    clear A370
    obtain rfl := Option.some.inj H
    try go_wp2
    replace BK600 := Aside0.mk (blk_drew BK600.out)
    replace BK601 := Aside0.mk (blk_drew BK601.out)
    replace HB := Aside0.mk (below_drew1 HB.out)
    refine start_ (n := 9) (S := fun w' => w'.cell? ⟨gb601, 0, none⟩ = some (.int .i64 a2_0) ∧ w'.cell? ⟨gb601, 1, none⟩ = some (.int .i64 a2_1) ∧ w'.cell? ⟨gb601, 2, none⟩ = some (.bool a2_2) ∧ w'.cell? ⟨gb600, 0, none⟩ = some (.int .i64 a0_0) ∧ w'.cell? ⟨gb600, 1, none⟩ = some (.int .i64 a0_1) ∧ w'.cell? ⟨gb600, 2, none⟩ = some (.bool a0_2)) (ds := []) #[false, false, false, false, false, false, false, false, false] (by kernel_rfl) rfl rfl ⟨bc BK601 0, bc BK601 1, bc BK601 2, bc BK600 0, bc BK600 1, bc BK600 2⟩ (fun hHeld => ?_); refine with_tabW spec_SigOk.tab3 spec_SigOk.bits3 (fun HT_ HW_ => ?_)
    generalize wc.drew = w38 at BK600 BK601 HB hHeld ⊢
    refine pI 3 (some 26) HT_.out ?_
    refine tI6 0 (some 23) HT_.out HW_.out hHeld ?_
    refine tI6 5 (some 28) HT_.out HW_.out hHeld ?_
    refine oI 1 (some 24) HT_.out (fun K hK => ?_)
    refine gO Tryd.func46 #[] ?_
    with_reducible refine (spec_Base.calls  t604 t605 t606 _ A34.out).mono ?_
    rintro e w39 ⟨rfl, hb⟩
    refine ⟨_, rfl, ?_⟩
    replace BK600 := bB BK600 hb
    replace BK601 := bB BK601 hb
    replace HB := bS HB hb
    (try clear hb)
    refine hK.out _ _ ⟨bc BK601 0, bc BK601 1, bc BK601 2, bc BK600 0, bc BK600 1, bc BK600 2⟩ (fun hHeld => ?_)
    clear hK K
    refine nO (some 24) ?_
    refine oI 2 (some 25) HT_.out (fun K hK => ?_)
    refine gO Tryd.func66 #[.agg #[.int .i64 a2_0, .int .i64 a2_1, .bool a2_2], .agg #[.int .i64 t604, .int .i64 t605, .bool t606]] ?_
    with_reducible refine (spec_Pairing.calls kj3 a2_0 a2_1 a2_2 t604 t605 t606 t607 t608 _ A35.out).mono ?_
    rintro e w40 ⟨rfl, hb⟩
    refine ⟨_, rfl, ?_⟩
    replace BK600 := bB BK600 hb
    replace BK601 := bB BK601 hb
    replace HB := bS HB hb
    (try clear hb)
    refine hK.out _ _ ⟨bc BK601 0, bc BK601 1, bc BK601 2, bc BK600 0, bc BK600 1, bc BK600 2⟩ (fun hHeld => ?_)
    clear hK K
    refine nO (some 25) ?_
    refine oI 4 (some 27) HT_.out (fun K hK => ?_)
    refine gO Tryd.func10 #[.string a1] ?_
    with_reducible refine (spec_HashPoint.calls kj3 a1 t609 t610 t611 _ A36.out).mono ?_
    rintro e w41 ⟨rfl, hb⟩
    refine ⟨_, rfl, ?_⟩
    replace BK600 := bB BK600 hb
    replace BK601 := bB BK601 hb
    replace HB := bS HB hb
    (try clear hb)
    refine hK.out _ _ ⟨bc BK601 0, bc BK601 1, bc BK601 2, bc BK600 0, bc BK600 1, bc BK600 2⟩ (fun hHeld => ?_)
    clear hK K
    refine nO (some 27) ?_
    refine oI 6 (some 29) HT_.out (fun K hK => ?_)
    refine gO Tryd.func66 #[.agg #[.int .i64 t609, .int .i64 t610, .bool t611], .agg #[.int .i64 a0_0, .int .i64 a0_1, .bool a0_2]] ?_
    with_reducible refine (spec_Pairing.calls kj3 t609 t610 t611 a0_0 a0_1 a0_2 t612 t613 _ A37.out).mono ?_
    rintro e w42 ⟨rfl, hb⟩
    refine ⟨_, rfl, ?_⟩
    replace BK600 := bB BK600 hb
    replace BK601 := bB BK601 hb
    replace HB := bS HB hb
    (try clear hb)
    refine hK.out _ _ ⟨bc BK601 0, bc BK601 1, bc BK601 2, bc BK600 0, bc BK600 1, bc BK600 2⟩ (fun hHeld => ?_)
    clear hK K
    refine nO (some 29) ?_
    refine pI 7 (some 30) HT_.out ?_
    refine pI 8 (some 6) HT_.out ?_
    refine done_ (done_of HT_.out (by kernel_rfl)) ?_
    try go_wp2
    go_ret
    exact ⟨rR, bZ HB⟩
end Go.Proofs.YtkdmplfldfagnaaDoor.Pf
end
section
namespace Go.Proofs.YtkdmplfldfagnaaDoor.Pf
open Go.RowKit Go.Proofs.YtkdmplfldfagnaaDoorW.PrintWords Go.Proofs.YtkdmplfldfagnaaDoorW.PrintLast Go.Proofs.YtkdmplfldfagnaaDoorW.PrintMore
attribute [local go_sem] max2_int min2_int max_two min_two max_three min_three max_four min_four   -- for this text's walks alone
set_option linter.unusedVariables false
set_option linter.unusedSimpArgs false
/-! ### spec_SumPoints: function 78 -/
def spec_SumPoints.l0 : Nat → List (S23) → Int → Int → Int → Bool → Option (Int × Int × Bool)
 | 0, _, _, _, _, _ => none
 | k + 1, x0, x4, x884000, x884001, x884002 => if x4 < (x0.length : Int) then (if 0 ≤ x4 then ((spec_PointAdd.f k x884000 x884001 x884002 ((rd_T23 x0 x4).f0) ((rd_T23 x0 x4).f1) ((rd_T23 x0 x4).f2)).bind fun bt885 => (spec_SumPoints.l0 k x0 (wrap64 (x4 + 1)) bt885.1 bt885.2.1 bt885.2.2)) else (none)) else (some (x884000, x884001, x884002))
def spec_SumPoints.f (k : Nat) (l0 : List (S23)) : Option (Int × Int × Bool) := (spec_l07Zero.f).bind fun bt880 => (spec_SumPoints.l0 k l0 0 bt880.1 bt880.2.1 bt880.2.2)
theorem spec_SumPoints.mono_l : ∀ k, (∀ y0 y1 y2 y3 y4, LeO (spec_SumPoints.l0 k y0 y1 y2 y3 y4) (spec_SumPoints.l0 (k + 1) y0 y1 y2 y3 y4))
 | 0 => fun _ _ _ _ _ r h => by simp [spec_SumPoints.l0] at h
 | k + 1 => by
  have ih0 := spec_SumPoints.mono_l k
  ·intro y0 y1 y2 y3 y4
   unfold spec_SumPoints.l0
   repeat' first
   | (with_reducible exact ih0 _ _ _ _ _)
   | (with_reducible exact spec_PointAdd.mono _ _ _ _ _ _ _)
   | (with_reducible exact LeO.refl _)
   | (with_reducible exact LeO.none _)
   | (with_reducible refine LeO.ite ?_ ?_)
   | (with_reducible refine LeO.bind ?_ (fun _ => ?_))
   | exact ih0 _ _ _ _ _
   | exact spec_PointAdd.mono _ _ _ _ _ _ _
   | exact LeO.none _
   | refine LeO.ite ?_ ?_
   | refine LeO.bind ?_ (fun _ => ?_)
theorem spec_SumPoints.mono : ∀ a0 k, LeO (spec_SumPoints.f k a0) (spec_SumPoints.f (k + 1) a0) := by
 intro a0 k
 have ih0 := spec_SumPoints.mono_l k
 unfold spec_SumPoints.f
 repeat' first
   | (with_reducible exact ih0 _ _ _ _ _)
   | (with_reducible exact spec_PointAdd.mono _ _ _ _ _ _ _)
   | (with_reducible exact LeO.refl _)
   | (with_reducible exact LeO.none _)
   | (with_reducible refine LeO.ite ?_ ?_)
   | (with_reducible refine LeO.bind ?_ (fun _ => ?_))
   | exact ih0 _ _ _ _ _
   | exact spec_PointAdd.mono _ _ _ _ _ _ _
   | exact LeO.none _
   | refine LeO.ite ?_ ?_
   | refine LeO.bind ?_ (fun _ => ?_)
set_option maxHeartbeats 8000000 in
set_option maxRecDepth 100000 in
theorem spec_SumPoints.calls (k : Nat) (A0 : Option Addr) (c0 : Nat) (l0 : List (S23)) (r1 : Int) (r2 : Int) (r3 : Bool) (w : World) (hr0 : Kd.C k23 w A0 l0.length l0) (hc0 : l0.length ≤ c0) (h : spec_SumPoints.f k l0 = some (r1, r2, r3)) :
  Calls Tryd.prog 78 #[.slice A0 l0.length c0] w fun e w' => e = .returned (.agg #[.int .i64 r1, .int .i64 r2, .bool r3]) ∧ Below w.heap.size w w' := by
 have hu23 := Tryd.underlying23
 have HR0 := Aside0.mk hr0
 have HC0 := Aside0.mk hc0
 clear hr0 hc0
 have HB := Aside0.mk (Below.refl w.heap.size w)
 have H : ((spec_l07Zero.f).bind fun bt880 => (spec_SumPoints.l0 k l0 0 bt880.1 bt880.2.1 bt880.2.2)) = some (r1, r2, r3) := h
 clear h
 replace H := Option.bind_eq_some_iff.mp H
 obtain ⟨⟨t880, t881, t882⟩, A20, H⟩ := H
 have A2 := Aside0.mk A20
 clear A20
 have H' := Aside0.mk H
 clear H
 go_enter Tryd.func78, Tryd.ntmps78
 go_wp2_with (first | ((with_reducible refine gate_dst (N := 2) rfl ?_); refine bE 2 #[.int .i64 0, .int .i64 0, .bool false] 23 ?_; intro gb879 hg w3 hbox hb; have BK879 := Aside0.mk (hbox); have GW879 := bG HB hg; have GE879 := bG HB hg; replace HB := bS HB hb; clear hb hbox hg) | ((with_reducible refine gate_callee (f := 56) rfl ?_); refine gL (some 5) Tryd.func56 #[] ?_; (with_reducible refine (spec_l07Zero.calls  t880 t881 t882 _ A2.out).mono ?_); rintro e w4 ⟨rfl, hb⟩; refine ⟨_, rfl, ?_⟩; replace BK879 := bB BK879 hb; replace HB := bS HB hb; (try clear hb)) | ((with_reducible refine gate_dst (N := 3) rfl ?_); refine bE 3 #[.int .i64 0, .int .i64 0, .bool false] 23 ?_; intro gb883 hg w5 hbox hb; have BK883 := Aside0.mk (hbox); have GW883 := bG HB hg; have GE883 := bG HB hg; replace HB := bS HB hb; have NB879_883 := bL BK879 hg; have NB883_879 := bR BK879 hg; replace BK879 := bB BK879 hb; clear hb hbox hg; have hnb6 := NB883_879.out; have hnc6 := NB879_883.out; obtain ⟨hcz7_0, hcz7_1, hcz7_2, hfz7_0, hfz7_1, hfz7_2⟩ := bK3 (w := w5) BK883))
 go_loopg [4] k (fun kq v4 w' => ∃ (x4_1 : Int) (x884000_1 : Int) (x884001_1 : Int) (x884002_1 : Bool), v4 = .int .i64 x4_1 ∧ Aside0 (spec_SumPoints.l0 kq l0 x4_1 x884000_1 x884001_1 x884002_1 = some (r1, r2, r3)) ∧ Aside0 (kq ≤ k) ∧ Aside0 (w'.heap[gb879]? = some (.cells #[.int .i64 0, .int .i64 0, .bool false] 23 (0, 0))) ∧ Aside0 (w'.heap[gb883]? = some (.cells #[.int .i64 x884000_1, .int .i64 x884001_1, .bool x884002_1] 23 (0, 0))) ∧ Aside0 (Below w.heap.size w w'))
 case atStart => exact ⟨(0), (t880), (t881), (t882), rS, H', ⟨Nat.le_refl _⟩, ⟨bP BK879⟩, ⟨bU BK883⟩, ⟨bZ HB⟩⟩
 case round =>
  clear H'
  try clear p2
  try clear c5
  try clear c6
  try clear c7
  try clear hcz7_0
  try clear hcz7_1
  try clear hcz7_2
  try clear hfz7_0
  try clear hfz7_1
  try clear hfz7_2
  obtain ⟨x4_1, x884000_1, x884001_1, x884002_1, rfl, HA, HK1, BK879, BK883, HB⟩ := hrel
  cases gk with
  | zero => exact absurd HA.out (by simp [spec_SumPoints.l0])
  | succ k1 =>
   have H := HA.out
   clear HA
   simp only [spec_SumPoints.l0] at H
   by_cases c8 : x4_1 < (l0.length : Int)
   ·rw [if_pos c8] at H
    have c8b0 : decide (x4_1 < (l0.length : Int)) = true := decide_eq_true c8
    clear c8
    by_cases c9 : 0 ≤ x4_1
    ·rw [if_pos c9] at H
     have c9b0 : decide (0 ≤ x4_1) = true := decide_eq_true c9
     clear c9
     replace H := Option.bind_eq_some_iff.mp H
     obtain ⟨⟨t885, t886, t887⟩, A100, H⟩ := H
     have A10 := Aside0.mk A100
     clear A100
     have H' := Aside0.mk H
     clear H
     try go_wp2
     replace BK879 := Aside0.mk (blk_drew BK879.out)
     replace BK883 := Aside0.mk (blk_drew BK883.out)
     replace HB := Aside0.mk (below_drew1 HB.out)
     have p884 : 0 ≤ (x4_1 : Int) := of_decide_eq_true (by first | (with_reducible assumption) | assumption)
     have q884 : x4_1 < (l0.length : Int) := of_decide_eq_true (by first | (with_reducible assumption) | assumption)
     obtain ⟨ad884, e884, hx884_0, hx884_1, hx884_2⟩ := at_T23 HR0.out x4_1 p884 q884
     have hw884_2 := hx884_2
     have hw884_1 := hx884_1
     have hw884_0 := hx884_0
     cases e884
     replace hx884_0 := (HB.out.cell (World.block_lt_of_cell? w _ hx884_0)).trans hx884_0
     replace hx884_1 := (HB.out.cell (World.block_lt_of_cell? w _ hx884_1)).trans hx884_1
     replace hx884_2 := (HB.out.cell (World.block_lt_of_cell? w _ hx884_2)).trans hx884_2
     replace p884 := eq_true p884
     replace q884 := eq_true q884
     refine start_ (n := 7) (S := fun w' => w'.cell? ⟨gb883, 0, none⟩ = some (.int .i64 x884000_1) ∧ w'.cell? ⟨gb883, 1, none⟩ = some (.int .i64 x884001_1) ∧ w'.cell? ⟨gb883, 2, none⟩ = some (.bool x884002_1) ∧ w'.cell? (ad884.add ((x4_1).toNat * 3)) = some (.int .i64 ((rd_T23 l0 x4_1).f0)) ∧ w'.cell? ⟨(ad884.add ((x4_1).toNat * 3)).block, (ad884.add ((x4_1).toNat * 3)).off + 1, none⟩ = some (.int .i64 ((rd_T23 l0 x4_1).f1)) ∧ w'.cell? ⟨(ad884.add ((x4_1).toNat * 3)).block, (ad884.add ((x4_1).toNat * 3)).off + 2, none⟩ = some (.bool ((rd_T23 l0 x4_1).f2))) (ds := [6]) #[false, false, false, false, false, false, false] (by kernel_rfl) rfl rfl ⟨bc BK883 0, bc BK883 1, bc BK883 2, ((HB.out.cell (World.block_lt_of_cell? w _ hw884_0)).trans hw884_0), ((HB.out.cell (World.block_lt_of_cell? w _ hw884_1)).trans hw884_1), ((HB.out.cell (World.block_lt_of_cell? w _ hw884_2)).trans hw884_2)⟩ (fun hHeld => ?_)
     generalize wr.drew = w11 at BK879 BK883 HB hx884_0 hx884_1 hx884_2 hHeld ⊢
     refine pure_ (i := 1) (N := some 13) (v := ?_) (a' := ?_) #[false, true, false, false, false, false, false] rfl rfl (by kernel_rfl) (fun _ _ _ h => h) (Or.inl ⟨by rfl, ?_⟩) ?_ ?_
     rotate_left
     ·intro w'
      go_simp
      with_reducible rfl
     rotate_left
     ·simp only [Act.put, List.setIfInBounds_toArray, List.set_cons_zero, List.set_cons_succ, i64_w, i32_w]
      rfl
     refine pure_ (i := 2) (N := some 14) (v := ?_) (a' := ?_) #[false, true, true, false, false, false, false] rfl rfl (by kernel_rfl) (fun _ _ _ h => h) (Or.inl ⟨by rfl, ?_⟩) ?_ ?_
     rotate_left
     ·intro w'
      go_simp
      with_reducible rfl
     rotate_left
     ·simp only [Act.put, List.setIfInBounds_toArray, List.set_cons_zero, List.set_cons_succ, i64_w, i32_w]
      rfl
     refine pure_ (i := 3) (N := some 15) (v := ?_) (a' := ?_) #[false, true, true, true, false, false, false] rfl rfl (by kernel_rfl) (fun _ _ _ h => h) (Or.inl ⟨by rfl, ?_⟩) ?_ ?_
     rotate_left
     ·intro w'
      go_simp
      with_reducible rfl
     rotate_left
     ·simp only [Act.put, List.setIfInBounds_toArray, List.set_cons_zero, List.set_cons_succ, i64_w, i32_w]
      rfl
     refine take_ (i := 0) (N := some 12) (v := ?_) (a' := ?_) #[true, true, true, true, false, false, false] rfl rfl (by kernel_rfl) (fun _ _ _ h => h) (Or.inl ⟨by rfl, ?_⟩) hHeld ?_ ?_
     rotate_left
     ·rintro w' ⟨s0, s1, s2, s3, s4, s5⟩
      go_simp
      with_reducible rfl
     rotate_left
     ·simp only [Act.put, List.setIfInBounds_toArray, List.set_cons_zero, List.set_cons_succ, i64_w, i32_w]
      rfl
     refine take_ (i := 4) (N := some 16) (v := ?_) (a' := ?_) #[true, true, true, true, true, false, false] rfl rfl (by kernel_rfl) (fun _ _ _ h => h) (Or.inl ⟨by rfl, ?_⟩) hHeld ?_ ?_
     rotate_left
     ·rintro w' ⟨s0, s1, s2, s3, s4, s5⟩
      go_simp
      with_reducible rfl
     rotate_left
     ·simp only [Act.put, List.setIfInBounds_toArray, List.set_cons_zero, List.set_cons_succ, i64_w, i32_w]
      rfl
     refine one_ (i := 5) (N := some 17) #[true, true, true, true, true, true, false] rfl rfl (by kernel_rfl) (by decide) (fun K hK => ?_)
     refine gO Tryd.func115 #[.agg #[.int .i64 x884000_1, .int .i64 x884001_1, .bool x884002_1], .agg #[.int .i64 ((rd_T23 l0 x4_1).f0), .int .i64 ((rd_T23 l0 x4_1).f1), .bool ((rd_T23 l0 x4_1).f2)]] ?_
     with_reducible refine (spec_PointAdd.calls k1 x884000_1 x884001_1 x884002_1 ((rd_T23 l0 x4_1).f0) ((rd_T23 l0 x4_1).f1) ((rd_T23 l0 x4_1).f2) t885 t886 t887 _ A10.out).mono ?_
     rintro e w12 ⟨rfl, hb⟩
     refine ⟨_, rfl, ?_⟩
     replace BK879 := bB BK879 hb
     replace BK883 := bB BK883 hb
     replace HB := bS HB hb
     (try clear hb)
     refine hK.out _ _ ⟨bc BK883 0, bc BK883 1, bc BK883 2, ((HB.out.cell (World.block_lt_of_cell? w _ hw884_0)).trans hw884_0), ((HB.out.cell (World.block_lt_of_cell? w _ hw884_1)).trans hw884_1), ((HB.out.cell (World.block_lt_of_cell? w _ hw884_2)).trans hw884_2)⟩ (fun hHeld => ?_)
     clear hK K
     refine nO (some 17) ?_
     refine last_ (i := 6) (N := none) #[true, true, true, true, true, true, true] rfl rfl (by kernel_rfl) (by decide) (fun K hK => ?_)
     have hs13 : w12.cell? ⟨gb883, 0, none⟩ = some (.int .i64 x884000_1) := bc BK883 0
     have hfs13 := blk_frozen BK883.out 0
     have hns13_0 := NB879_883.out
     have hms13_0 := NB883_879.out
     have hs14 : w12.cell? ⟨gb883, 1, none⟩ = some (.int .i64 x884001_1) := bc BK883 1
     have hfs14 := blk_frozen BK883.out 1
     have hns14_0 := NB879_883.out
     have hms14_0 := NB883_879.out
     have hs15 : w12.cell? ⟨gb883, 2, none⟩ = some (.bool x884002_1) := bc BK883 2
     have hfs15 := blk_frozen BK883.out 2
     have hns15_0 := NB879_883.out
     have hms15_0 := NB883_879.out
     refine skip_ (w1 := ?_) (by rfl) rfl ?_ ?_
     rotate_left
     ·go_simp
      rfl
     refine hK.out _ _ ?_
     clear hK K
     refine done_ (by kernel_rfl) ?_
     try go_wp2
     go_roundg k1
     case measure => have := HK1.out; omega
     case rel => exact ⟨(wrap64 (x4_1 + 1)), (t885), (t886), (t887), rS, H', ⟨by have := HK1.out; omega⟩, ⟨bP BK879⟩, ⟨bU BK883⟩, ⟨bZ HB⟩⟩
    ·rw [if_neg c9] at H
     exact absurd H (by simp)
   ·rw [if_neg c8] at H
    have c8b0 : decide (x4_1 < (l0.length : Int)) = false := decide_eq_false c8
    clear c8
    simp only [Option.some.injEq, Prod.mk.injEq] at H
    obtain ⟨rfl, rfl, rfl⟩ := H
    have hnb16 := NB883_879.out
    have hnc16 := NB879_883.out
    obtain ⟨hcz17_0, hcz17_1, hcz17_2, hfz17_0, hfz17_1, hfz17_2⟩ := bK3 (w := wr) BK883
    obtain ⟨hcz18_0, hcz18_1, hcz18_2, hfz18_0, hfz18_1, hfz18_2⟩ := bK3 (w := wr) BK879
    go_wp2
    refine rC gb879 23 #[.int .i64 x884000_1, .int .i64 x884001_1, .bool x884002_1] (bU BK879) Tryd.underlying23 ?_
    exact ⟨rR, bZ HB⟩
/-! ### spec_AllSigOk: function 38 -/
def spec_AllSigOk.f (k : Nat) (l0 : List (S23)) (a1 : ByteArray) (a2_0 : Int) (a2_1 : Int) (a2_2 : Bool) : Option (Bool) := if (l0.length : Int) > 0 then ((spec_SumPoints.f k l0).bind fun bt889 => ((spec_SigOk.f k bt889.1 bt889.2.1 bt889.2.2 a1 a2_0 a2_1 a2_2).bind fun t892 => (some t892))) else (some false)
theorem spec_AllSigOk.mono : ∀ a0 a1 a2 a3 a4 k, LeO (spec_AllSigOk.f k a0 a1 a2 a3 a4) (spec_AllSigOk.f (k + 1) a0 a1 a2 a3 a4) := by
 intro a0 a1 a2 a3 a4 k
 unfold spec_AllSigOk.f
 repeat' first
   | (with_reducible exact spec_SigOk.mono _ _ _ _ _ _ _ _)
   | (with_reducible exact spec_SumPoints.mono _ _)
   | (with_reducible exact LeO.refl _)
   | (with_reducible exact LeO.none _)
   | (with_reducible refine LeO.ite ?_ ?_)
   | (with_reducible refine LeO.bind ?_ (fun _ => ?_))
   | exact spec_SigOk.mono _ _ _ _ _ _ _ _
   | exact spec_SumPoints.mono _ _
   | exact LeO.none _
   | refine LeO.ite ?_ ?_
   | refine LeO.bind ?_ (fun _ => ?_)
def spec_AllSigOk.T1 : Bool × List (List Nat × List Nat) := (true, [([], []), ([0], [0]), ([1], [1]), ([2], [2]), ([3], [3]), ([4, 3, 3], [3, 4]), ([3], [3]), ([3], [3]), ([5, 6, 7, 5, 3], [3, 5, 6, 7]), ([3, 8], [3, 8]), ([9, 8, 0, 1, 2, 3, 4, 5, 6, 7, 8, 9], [9])])
def spec_AllSigOk.B1 : List Nat := [0, 1, 3, 7, 15, 31, 15, 15, 255, 511, 1023]
theorem spec_AllSigOk.tab1 : rtab .any (opsOf Tryd.f38 1) = spec_AllSigOk.T1 := by kernel_rfl
theorem spec_AllSigOk.bits1 : waitsOk spec_AllSigOk.T1.2 spec_AllSigOk.B1 = true := by kernel_rfl
set_option maxHeartbeats 8000000 in
set_option maxRecDepth 100000 in
theorem spec_AllSigOk.calls (k : Nat) (A0 : Option Addr) (c0 : Nat) (l0 : List (S23)) (a1 : ByteArray) (a2_0 : Int) (a2_1 : Int) (a2_2 : Bool) (r : Bool) (w : World) (hr0 : Kd.C k23 w A0 l0.length l0) (hc0 : l0.length ≤ c0) (h : spec_AllSigOk.f k l0 a1 a2_0 a2_1 a2_2 = some r) :
  Calls Tryd.prog 38 #[.slice A0 l0.length c0, .string a1, .agg #[.int .i64 a2_0, .int .i64 a2_1, .bool a2_2]] w fun e w' => e = .returned (.bool r) ∧ Below w.heap.size w w' := by
 have hu23 := Tryd.underlying23
 have HR0 := Aside0.mk hr0
 have HC0 := Aside0.mk hc0
 clear hr0 hc0
 have HB := Aside0.mk (Below.refl w.heap.size w)
 have H : (if (l0.length : Int) > 0 then ((spec_SumPoints.f k l0).bind fun bt889 => ((spec_SigOk.f k bt889.1 bt889.2.1 bt889.2.2 a1 a2_0 a2_1 a2_2).bind fun t892 => (some t892))) else (some false)) = some r := h
 clear h
 by_cases c4 : (l0.length : Int) > 0
 ·rw [if_pos c4] at H
  have c4b0 : decide (0 < (l0.length : Int)) = true := decide_eq_true c4
  have c4b1 : decide (0 < l0.length) = true := decide_eq_true (by omega)
  clear c4
  replace H := Option.bind_eq_some_iff.mp H
  obtain ⟨⟨t889, t890, t891⟩, A50, H⟩ := H
  have A5 := Aside0.mk A50
  clear A50
  replace H := Option.bind_eq_some_iff.mp H
  obtain ⟨t892, A60, H⟩ := H
  have A6 := Aside0.mk A60
  clear A60
  obtain rfl := Option.some.inj H
  go_enter Tryd.func38, Tryd.ntmps38
  try go_wp2_with (first | ((with_reducible refine gate_dst (N := 5) rfl ?_); refine bE 5 #[.int .i64 a2_0, .int .i64 a2_1, .bool a2_2] 23 ?_; intro gb888 hg w7 hbox hb; have BK888 := Aside0.mk (hbox); have GW888 := bG HB hg; have GE888 := bG HB hg; replace HB := bS HB hb; clear hb hbox hg))
  replace BK888 := Aside0.mk (blk_drew BK888.out)
  replace HB := Aside0.mk (below_drew1 HB.out)
  refine start_ (n := 11) (S := fun w' => w'.cell? ⟨gb888, 0, none⟩ = some (.int .i64 a2_0) ∧ w'.cell? ⟨gb888, 1, none⟩ = some (.int .i64 a2_1) ∧ w'.cell? ⟨gb888, 2, none⟩ = some (.bool a2_2)) (ds := []) #[false, false, false, false, false, false, false, false, false, false, false] (by kernel_rfl) rfl rfl ⟨bc BK888 0, bc BK888 1, bc BK888 2⟩ (fun hHeld => ?_); refine with_tabW spec_AllSigOk.tab1 spec_AllSigOk.bits1 (fun HT_ HW_ => ?_)
  generalize w7.drew = w8 at BK888 HB hHeld ⊢
  refine pI 0 (some 7) HT_.out ?_
  refine pI 1 (some 8) HT_.out ?_
  refine pI 2 (some 9) HT_.out ?_
  refine pI 3 (some 10) HT_.out ?_
  refine pI 4 (some 11) HT_.out ?_
  refine pI 6 (some 13) HT_.out ?_
  refine tI3 7 (some 14) HT_.out HW_.out hHeld ?_
  refine oI 5 (some 12) HT_.out (fun K hK => ?_)
  refine gO Tryd.func78 #[.slice A0 l0.length c0] ?_
  with_reducible refine (spec_SumPoints.calls k _ _ l0 t889 t890 t891 _ ?side1 ?side2 A5.out).mono ?_
  (case side1 => exact cP (Kd.C_below HR0.out HB.out))
  (case side2 => exact HC0.out)
  rintro e w9 ⟨rfl, hb⟩
  refine ⟨_, rfl, ?_⟩
  replace BK888 := bB BK888 hb
  replace HB := bS HB hb
  (try clear hb)
  refine hK.out _ _ ⟨bc BK888 0, bc BK888 1, bc BK888 2⟩ (fun hHeld => ?_)
  clear hK K
  refine nO (some 12) ?_
  refine oI 8 (some 15) HT_.out (fun K hK => ?_)
  refine gO Tryd.func22 #[.agg #[.int .i64 t889, .int .i64 t890, .bool t891], .string a1, .agg #[.int .i64 a2_0, .int .i64 a2_1, .bool a2_2]] ?_
  with_reducible refine (spec_SigOk.calls k t889 t890 t891 a1 a2_0 a2_1 a2_2 t892 _ A6.out).mono ?_
  rintro e w10 ⟨rfl, hb⟩
  refine ⟨_, rfl, ?_⟩
  replace BK888 := bB BK888 hb
  replace HB := bS HB hb
  (try clear hb)
  refine hK.out _ _ ⟨bc BK888 0, bc BK888 1, bc BK888 2⟩ (fun hHeld => ?_)
  clear hK K
  refine nO (some 15) ?_
  refine pI 9 (some 16) HT_.out ?_
  refine pI 10 (some 6) HT_.out ?_
  refine done_ (done_of HT_.out (by kernel_rfl)) ?_
  try go_wp2
  go_ret
  exact ⟨rR, bZ HB⟩
 ·rw [if_neg c4] at H
  have c4b0 : decide (0 < (l0.length : Int)) = false := decide_eq_false c4
  have c4b1 : decide (0 < l0.length) = false := decide_eq_false (by omega)
  clear c4
  obtain rfl := Option.some.inj H
  go_enter Tryd.func38, Tryd.ntmps38
  try go_wp2_with (first | ((with_reducible refine gate_dst (N := 5) rfl ?_); refine bE 5 #[.int .i64 a2_0, .int .i64 a2_1, .bool a2_2] 23 ?_; intro gb888 hg w11 hbox hb; have BK888 := Aside0.mk (hbox); have GW888 := bG HB hg; have GE888 := bG HB hg; replace HB := bS HB hb; clear hb hbox hg))
  replace BK888 := Aside0.mk (blk_drew BK888.out)
  replace HB := Aside0.mk (below_drew1 HB.out)
  refine start_ (n := 11) (S := fun w' => True) (ds := []) #[false, false, false, false, false, false, false, false, false, false, false] (by kernel_rfl) rfl rfl trivial (fun hHeld => ?_); refine with_tabW spec_AllSigOk.tab1 spec_AllSigOk.bits1 (fun HT_ HW_ => ?_)
  generalize w11.drew = w12 at BK888 HB hHeld ⊢
  refine pI 0 (some 7) HT_.out ?_
  refine pI 1 (some 8) HT_.out ?_
  refine pI 2 (some 9) HT_.out ?_
  refine pI 3 (some 10) HT_.out ?_
  refine pure_ (i := 4) (N := some 11) (v := undef) (a' := ?_) #[true, true, true, true, true, false, false, false, false, false, false] rfl rfl (any_of HT_.out (by kernel_rfl)) (fun _ _ _ h => h) (Or.inr ⟨by rfl, rfl⟩) ?_ ?_
  rotate_left
  ·simp only [Act.put, List.setIfInBounds_toArray, List.set_cons_zero, List.set_cons_succ, i64_w, i32_w]
   rfl
  refine pure_ (i := 5) (N := some 12) (v := undef) (a' := ?_) #[true, true, true, true, true, true, false, false, false, false, false] rfl rfl (any_of HT_.out (by kernel_rfl)) (fun _ _ _ h => h) (Or.inr ⟨by rfl, rfl⟩) ?_ ?_
  rotate_left
  ·simp only [Act.put, List.setIfInBounds_toArray, List.set_cons_zero, List.set_cons_succ, i64_w, i32_w]
   rfl
  refine pure_ (i := 6) (N := some 13) (v := undef) (a' := ?_) #[true, true, true, true, true, true, true, false, false, false, false] rfl rfl (any_of HT_.out (by kernel_rfl)) (fun _ _ _ h => h) (Or.inr ⟨by rfl, rfl⟩) ?_ ?_
  rotate_left
  ·simp only [Act.put, List.setIfInBounds_toArray, List.set_cons_zero, List.set_cons_succ, i64_w, i32_w]
   rfl
  refine pure_ (i := 7) (N := some 14) (v := undef) (a' := ?_) #[true, true, true, true, true, true, true, true, false, false, false] rfl rfl (any_of HT_.out (by kernel_rfl)) (fun _ _ _ h => h) (Or.inr ⟨by rfl, rfl⟩) ?_ ?_
  rotate_left
  ·simp only [Act.put, List.setIfInBounds_toArray, List.set_cons_zero, List.set_cons_succ, i64_w, i32_w]
   rfl
  refine pure_ (i := 8) (N := some 15) (v := undef) (a' := ?_) #[true, true, true, true, true, true, true, true, true, false, false] rfl rfl (any_of HT_.out (by kernel_rfl)) (fun _ _ _ h => h) (Or.inr ⟨by rfl, rfl⟩) ?_ ?_
  rotate_left
  ·simp only [Act.put, List.setIfInBounds_toArray, List.set_cons_zero, List.set_cons_succ, i64_w, i32_w]
   rfl
  refine pI 9 (some 16) HT_.out ?_
  refine pI 10 (some 6) HT_.out ?_
  refine done_ (done_of HT_.out (by kernel_rfl)) ?_
  try go_wp2
  go_ret
  exact ⟨rR, bZ HB⟩
/-! ### laws_FnExactAllSigOk: function 9 -/
def laws_FnExactAllSigOk.f (k : Nat) (l0 : List (S42)) (a1 : ByteArray) (a2_0 : Int) (a2_1 : Int) (a2_2 : Bool) : Option (Bool) := if (a1.size : Int) > 1048576 then (some true) else ((laws_szPointS.f l0 1048576).bind fun t894 => (if t894 < 0 then (some true) else ((laws_toPointS.f k l0).bind fun t895 => ((laws_toPoint.f a2_0 a2_1 a2_2).bind fun bt898 => ((spec_AllSigOk.f k t895 a1 bt898.1 bt898.2.1 bt898.2.2).bind fun t901 => ((laws_toPointS.f k l0).bind fun t902 => ((laws_toPoint.f a2_0 a2_1 a2_2).bind fun bt905 => ((impl_AllSigOk.f k t902 a1 bt905.1 bt905.2.1 bt905.2.2).bind fun t908 => (if (t908 != t901) = true then (some false) else ((laws_toPointS.f k l0).bind fun t909 => ((laws_eqPointS.f k t902 t909).bind fun t912 => (if t912 = true then (some true) else (some false)))))))))))))
theorem laws_FnExactAllSigOk.mono : ∀ a0 a1 a2 a3 a4 k, LeO (laws_FnExactAllSigOk.f k a0 a1 a2 a3 a4) (laws_FnExactAllSigOk.f (k + 1) a0 a1 a2 a3 a4) := by
 intro a0 a1 a2 a3 a4 k
 unfold laws_FnExactAllSigOk.f
 repeat' first
   | (with_reducible exact impl_AllSigOk.mono _ _ _ _ _ _)
   | (with_reducible exact laws_eqPointS.mono _ _ _)
   | (with_reducible exact laws_toPointS.mono _ _)
   | (with_reducible exact spec_AllSigOk.mono _ _ _ _ _ _)
   | (with_reducible exact LeO.refl _)
   | (with_reducible exact LeO.none _)
   | (with_reducible refine LeO.ite ?_ ?_)
   | (with_reducible refine LeO.bind ?_ (fun _ => ?_))
   | exact impl_AllSigOk.mono _ _ _ _ _ _
   | exact laws_eqPointS.mono _ _ _
   | exact laws_toPointS.mono _ _
   | exact spec_AllSigOk.mono _ _ _ _ _ _
   | exact LeO.none _
   | refine LeO.ite ?_ ?_
   | refine LeO.bind ?_ (fun _ => ?_)
set_option maxHeartbeats 8000000 in
set_option maxRecDepth 100000 in
theorem laws_FnExactAllSigOk.calls (k : Nat) (A0 : Option Addr) (c0 : Nat) (l0 : List (S42)) (a1 : ByteArray) (a2_0 : Int) (a2_1 : Int) (a2_2 : Bool) (r : Bool) (w : World) (hr0 : Kd.C k42 w A0 l0.length l0) (hc0 : l0.length ≤ c0) (hT : Kp.Tab w) (htrue : Aside0 (r = true)) (h : laws_FnExactAllSigOk.f k l0 a1 a2_0 a2_1 a2_2 = some r) :
  Calls Tryd.prog 9 #[.slice A0 l0.length c0, .string a1, .agg #[.int .i64 a2_0, .int .i64 a2_1, .bool a2_2]] w fun e w' => e = .returned (.bool r) ∧ Below w.heap.size w w' := by
 have HT := Aside0.mk hT
 clear hT
 have hu42 := Tryd.underlying42
 have HR0 := Aside0.mk hr0
 have HC0 := Aside0.mk hc0
 clear hr0 hc0
 have HB := Aside0.mk (Below.refl w.heap.size w)
 have H : (if (a1.size : Int) > 1048576 then (some true) else ((laws_szPointS.f l0 1048576).bind fun t894 => (if t894 < 0 then (some true) else ((laws_toPointS.f k l0).bind fun t895 => ((laws_toPoint.f a2_0 a2_1 a2_2).bind fun bt898 => ((spec_AllSigOk.f k t895 a1 bt898.1 bt898.2.1 bt898.2.2).bind fun t901 => ((laws_toPointS.f k l0).bind fun t902 => ((laws_toPoint.f a2_0 a2_1 a2_2).bind fun bt905 => ((impl_AllSigOk.f k t902 a1 bt905.1 bt905.2.1 bt905.2.2).bind fun t908 => (if (t908 != t901) = true then (some false) else ((laws_toPointS.f k l0).bind fun t909 => ((laws_eqPointS.f k t902 t909).bind fun t912 => (if t912 = true then (some true) else (some false)))))))))))))) = some r := h
 clear h
 by_cases c4 : (a1.size : Int) > 1048576
 ·rw [if_pos c4] at H
  have c4b0 : decide (1048576 < (a1.size : Int)) = true := decide_eq_true c4
  have c4b1 : decide (1048576 < a1.size) = true := decide_eq_true (by omega)
  clear c4
  obtain rfl := Option.some.inj H
  go_enter Tryd.func9, Tryd.ntmps9
  go_wp2_with (first | ((with_reducible refine gate_dst (N := 5) rfl ?_); refine bE 5 #[.int .i64 a2_0, .int .i64 a2_1, .bool a2_2] 42 ?_; intro gb893 hg w5 hbox hb; have BK893 := Aside0.mk (hbox); have GW893 := bG HB hg; have GE893 := bG HB hg; replace HB := bS HB hb; clear hb hbox hg))
  go_ret
  exact ⟨rR, bZ HB⟩
 ·rw [if_neg c4] at H
  have c4b0 : decide (1048576 < (a1.size : Int)) = false := decide_eq_false c4
  have c4b1 : decide (1048576 < a1.size) = false := decide_eq_false (by omega)
  clear c4
  replace H := Option.bind_eq_some_iff.mp H
  obtain ⟨t894, A60, H⟩ := H
  have A6 := Aside0.mk A60
  clear A60
  by_cases c7 : t894 < 0
  ·rw [if_pos c7] at H
   have c7b0 : decide (t894 < 0) = true := decide_eq_true c7
   clear c7
   obtain rfl := Option.some.inj H
   go_enter Tryd.func9, Tryd.ntmps9
   go_wp2_with (first | ((with_reducible refine gate_dst (N := 5) rfl ?_); refine bE 5 #[.int .i64 a2_0, .int .i64 a2_1, .bool a2_2] 42 ?_; intro gb893 hg w8 hbox hb; have BK893 := Aside0.mk (hbox); have GW893 := bG HB hg; have GE893 := bG HB hg; replace HB := bS HB hb; clear hb hbox hg) | ((with_reducible refine gate_callee (f := 37) rfl ?_); refine gL (some 16) Tryd.func37 #[.slice A0 l0.length c0, .int .i64 1048576] ?_; (with_reducible refine (laws_szPointS.calls _ _ l0 1048576 t894 _ ?side1 ?side2 A6.out).mono ?_); (case side1 => exact cP (Kd.C_below HR0.out HB.out)); (case side2 => exact HC0.out); rintro e w' ⟨rfl, ⟨nd, rfl⟩⟩; refine ⟨_, rfl, ?_⟩))
   go_ret
   exact ⟨rR, bZ HB⟩
  ·rw [if_neg c7] at H
   have c7b0 : decide (t894 < 0) = false := decide_eq_false c7
   clear c7
   replace H := Option.bind_eq_some_iff.mp H
   obtain ⟨t895, A90, H⟩ := H
   have A9 := Aside0.mk A90
   clear A90
   replace H := Option.bind_eq_some_iff.mp H
   obtain ⟨⟨t898, t899, t900⟩, A100, H⟩ := H
   have A10 := Aside0.mk A100
   clear A100
   replace H := Option.bind_eq_some_iff.mp H
   obtain ⟨t901, A110, H⟩ := H
   have A11 := Aside0.mk A110
   clear A110
   replace H := Option.bind_eq_some_iff.mp H
   obtain ⟨t902, A120, H⟩ := H
   have A12 := Aside0.mk A120
   clear A120
   have et902_ : t895 = t902 := Option.some.inj (A9.out.symm.trans A12.out)
   subst et902_
   replace H := Option.bind_eq_some_iff.mp H
   obtain ⟨⟨t905, t906, t907⟩, A130, H⟩ := H
   have A13 := Aside0.mk A130
   clear A130
   replace H := Option.bind_eq_some_iff.mp H
   obtain ⟨t908, A140, H⟩ := H
   have A14 := Aside0.mk A140
   clear A140
   by_cases c15 : (t908 != t901) = true
   ·rw [if_pos c15] at H
    have c15b0 : (t908 != t901) = true := c15
    (try (have c15b1 : decide (t908 = t901) = false := by simpa using c15))
    (try (have c15b2 : (t908 == t901) = false := by simpa using c15))
    (try (have c15b3 : ¬ (t908 = t901) := by simpa using c15))
    clear c15
    exact absurd (Option.some.inj H) (by rw [htrue.out]; exact Bool.false_ne_true)
   ·rw [if_neg c15] at H
    have c15b0 : (t908 != t901) = false := by simpa using c15
    (try (have c15b1 : decide (t908 = t901) = true := by simpa using c15))
    (try (have c15b2 : (t908 == t901) = true := by simpa using c15))
    clear c15
    replace H := Option.bind_eq_some_iff.mp H
    obtain ⟨t909, A160, H⟩ := H
    have A16 := Aside0.mk A160
    clear A160
    have et909_ : t895 = t909 := Option.some.inj (A9.out.symm.trans A16.out)
    subst et909_
    replace H := Option.bind_eq_some_iff.mp H
    obtain ⟨t912, A170, H⟩ := H
    have A17 := Aside0.mk A170
    clear A170
    by_cases c18 : t912 = true
    ·subst c18
     rw [if_pos rfl] at H
     obtain rfl := Option.some.inj H
     go_enter Tryd.func9, Tryd.ntmps9
     try go_wp2_with (first | ((with_reducible refine gate_dst (N := 5) rfl ?_); refine bE 5 #[.int .i64 a2_0, .int .i64 a2_1, .bool a2_2] 42 ?_; intro gb893 hg w19 hbox hb; have BK893 := Aside0.mk (hbox); have GW893 := bG HB hg; have GE893 := bG HB hg; replace HB := bS HB hb; clear hb hbox hg) | ((with_reducible refine gate_callee (f := 37) rfl ?_); refine gL (some 16) Tryd.func37 #[.slice A0 l0.length c0, .int .i64 1048576] ?_; (with_reducible refine (laws_szPointS.calls _ _ l0 1048576 t894 _ ?side1 ?side2 A6.out).mono ?_); (case side1 => exact cP (Kd.C_below HR0.out HB.out)); (case side2 => exact HC0.out); rintro e w' ⟨rfl, ⟨nd, rfl⟩⟩; refine ⟨_, rfl, ?_⟩))
     (try simp only [World.drewN_drewN]); (try (rw [drewN_self w19]; generalize hq_ : World.drewN w19 _ = w19; replace BK893 : Aside0 (w19.heap[gb893]? = some (.cells #[.int .i64 a2_0, .int .i64 a2_1, .bool a2_2] 42 (0, 0))) := ⟨by rw [← hq_]; exact (bP BK893)⟩; replace HB : Aside0 (Below w.heap.size w w19) := ⟨by rw [← hq_]; exact (bZ HB)⟩; clear hq_))
     replace BK893 := Aside0.mk (blk_drew BK893.out)
     replace HB := Aside0.mk (below_drew1 HB.out)
     refine start_ (n := 7) (S := fun w' => w'.cell? ⟨gb893, 0, none⟩ = some (.int .i64 a2_0) ∧ w'.cell? ⟨gb893, 1, none⟩ = some (.int .i64 a2_1) ∧ w'.cell? ⟨gb893, 2, none⟩ = some (.bool a2_2)) (ds := []) #[false, false, false, false, false, false, false] (by kernel_rfl) rfl rfl ⟨bc BK893 0, bc BK893 1, bc BK893 2⟩ (fun hHeld => ?_)
     generalize w19.drew = w20 at BK893 HB hHeld ⊢
     refine pure_ (i := 0) (N := some 19) (v := ?_) (a' := ?_) #[true, false, false, false, false, false, false] rfl rfl (by kernel_rfl) (fun _ _ _ h => h) (Or.inl ⟨by rfl, ?_⟩) ?_ ?_
     rotate_left
     ·intro w'
      go_simp
      with_reducible rfl
     rotate_left
     ·simp only [Act.put, List.setIfInBounds_toArray, List.set_cons_zero, List.set_cons_succ, i64_w, i32_w]
      rfl
     refine pure_ (i := 2) (N := some 21) (v := ?_) (a' := ?_) #[true, false, true, false, false, false, false] rfl rfl (by kernel_rfl) (fun _ _ _ h => h) (Or.inl ⟨by rfl, ?_⟩) ?_ ?_
     rotate_left
     ·intro w'
      go_simp
      with_reducible rfl
     rotate_left
     ·simp only [Act.put, List.setIfInBounds_toArray, List.set_cons_zero, List.set_cons_succ, i64_w, i32_w]
      rfl
     refine take_ (i := 3) (N := some 22) (v := ?_) (a' := ?_) #[true, false, true, true, false, false, false] rfl rfl (by kernel_rfl) (fun _ _ _ h => h) (Or.inl ⟨by rfl, ?_⟩) hHeld ?_ ?_
     rotate_left
     ·rintro w' ⟨s0, s1, s2⟩
      go_simp
      with_reducible rfl
     rotate_left
     ·simp only [Act.put, List.setIfInBounds_toArray, List.set_cons_zero, List.set_cons_succ, i64_w, i32_w]
      rfl
     refine one_ (i := 1) (N := some 20) #[true, true, true, true, false, false, false] rfl rfl (by kernel_rfl) (by decide) (fun K hK => ?_)
     refine gO Tryd.func39 #[.slice A0 l0.length c0] ?_
     with_reducible refine (laws_toPointS.calls k _ _ l0 t895 _ ?side1 ?side2 A9.out).mono ?_
     (case side1 => exact cP (Kd.C_below HR0.out HB.out))
     (case side2 => exact HC0.out)
     rintro e w21 ⟨v896, rfl, ho0, hb⟩
     refine ⟨_, rfl, ?_⟩
     have HO897 := Aside0.mk (Kd.R_lower ho0 (below_size (bZ HB)))
     replace BK893 := bB BK893 hb
     replace HB := bS HB hb
     (try clear hb)
     (try clear ho0)
     refine hK.out _ _ ⟨bc BK893 0, bc BK893 1, bc BK893 2⟩ (fun hHeld => ?_)
     clear hK K
     refine nO (some 20) ?_
     refine one_ (i := 4) (N := some 23) #[true, true, true, true, true, false, false] rfl rfl (by kernel_rfl) (by decide) (fun K hK => ?_)
     refine gO Tryd.func23 #[.agg #[.int .i64 a2_0, .int .i64 a2_1, .bool a2_2]] ?_
     with_reducible refine (laws_toPoint.calls a2_0 a2_1 a2_2 t898 t899 t900 _ A10.out).mono ?_
     rintro e w22 ⟨rfl, hb⟩
     refine ⟨_, rfl, ?_⟩
     replace HO897 := Aside0.mk (Kd.R_below (rP HO897) hb)
     replace BK893 := bB BK893 hb
     replace HB := bS HB hb
     (try clear hb)
     obtain ⟨Ao23, co23, eo23⟩ := Kd.R_slice HO897.out
     (first | subst eo23 | (injection eo23 with f1_ f2_ f3_; have f4_ := f1_.symm; have f5_ := f3_.symm; clear f1_ f2_ f3_; subst f4_; subst f5_))
     refine hK.out _ _ ⟨bc BK893 0, bc BK893 1, bc BK893 2⟩ (fun hHeld => ?_)
     clear hK K
     refine nO (some 23) ?_
     refine one_ (i := 5) (N := some 24) #[true, true, true, true, true, true, false] rfl rfl (by kernel_rfl) (by decide) (fun K hK => ?_)
     refine gO Tryd.func38 #[.slice Ao23 t895.length co23, .string a1, .agg #[.int .i64 t898, .int .i64 t899, .bool t900]] ?_
     with_reducible refine (spec_AllSigOk.calls k _ _ t895 a1 t898 t899 t900 t901 _ ?side1 ?side2 A11.out).mono ?_
     (case side1 => exact cP ((Kd.R_reads' HO897.out).2.2))
     (case side2 => exact (Kd.R_reads' HO897.out).2.1)
     rintro e w24 ⟨rfl, hb⟩
     refine ⟨_, rfl, ?_⟩
     replace HO897 := Aside0.mk (Kd.R_below (rP HO897) hb)
     replace BK893 := bB BK893 hb
     replace HB := bS HB hb
     (try clear hb)
     refine hK.out _ _ ⟨bc BK893 0, bc BK893 1, bc BK893 2⟩ (fun hHeld => ?_)
     clear hK K
     refine nO (some 24) ?_
     refine pure_ (i := 6) (N := some 8) (v := ?_) (a' := ?_) #[true, true, true, true, true, true, true] rfl rfl (by kernel_rfl) (fun _ _ _ h => h) (Or.inl ⟨by rfl, ?_⟩) ?_ ?_
     rotate_left
     ·intro w'
      go_simp
      with_reducible rfl
     rotate_left
     ·simp only [Act.put, List.setIfInBounds_toArray, List.set_cons_zero, List.set_cons_succ, i64_w, i32_w]
      rfl
     refine done_ (by kernel_rfl) ?_
     try go_wp2_with (first | ((with_reducible refine gate_callee (f := 39) rfl ?_); refine gL (some 26) Tryd.func39 #[.slice A0 l0.length c0] ?_; (with_reducible refine (laws_toPointS.calls k _ _ l0 t895 _ ?side1 ?side2 A12.out).mono ?_); (case side1 => exact cP (Kd.C_below HR0.out HB.out)); (case side2 => exact HC0.out); rintro e w25 ⟨v903, rfl, ho0, hb⟩; refine ⟨_, rfl, ?_⟩; have HO904 := Aside0.mk (Kd.R_lower (Kd.R_new' ho0 (Kd.R_lt (rP HO897))) (below_size (bZ HB))); replace HO897 := Aside0.mk (Kd.R_elder' (rP HO897) (Kd.R_base ho0) hb); replace BK893 := bB BK893 hb; replace HB := bS HB hb; (try clear hb); (try clear ho0); obtain ⟨hcz26_0, hcz26_1, hcz26_2, hfz26_0, hfz26_1, hfz26_2⟩ := bK3 (w := w25) BK893) | ((with_reducible refine gate_callee (f := 23) rfl ?_); refine gL (some 30) Tryd.func23 #[.agg #[.int .i64 a2_0, .int .i64 a2_1, .bool a2_2]] ?_; (with_reducible refine (laws_toPoint.calls a2_0 a2_1 a2_2 t905 t906 t907 _ A13.out).mono ?_); rintro e w27 ⟨rfl, hb⟩; refine ⟨_, rfl, ?_⟩; replace HO897 := Aside0.mk (Kd.R_below (rP HO897) hb); replace HO904 := Aside0.mk (Kd.R_below (rP HO904) hb); replace BK893 := bB BK893 hb; replace HB := bS HB hb; (try clear hb); obtain ⟨Ao28, co28, eo28⟩ := Kd.R_slice HO904.out; subst eo28) | ((with_reducible refine gate_callee (f := 36) rfl ?_); refine gL (some 31) Tryd.func36 #[.slice Ao28 t895.length co28, .string a1, .agg #[.int .i64 t905, .int .i64 t906, .bool t907]] ?_; (with_reducible refine (impl_AllSigOk.calls k _ _ t895 a1 t905 t906 t907 t908 _ ?side1 ?side2 (Kp.Tab.below HT.out (bZ HB)) A14.out).mono ?_); (case side1 => exact cP ((Kd.R_reads' HO904.out).2.2)); (case side2 => exact (Kd.R_reads' HO904.out).2.1); rintro e w29 ⟨rfl, hb⟩; refine ⟨_, rfl, ?_⟩; replace HO897 := Aside0.mk (Kd.R_below (rP HO897) hb); replace HO904 := Aside0.mk (Kd.R_below (rP HO904) hb); replace BK893 := bB BK893 hb; replace HB := bS HB hb; (try clear hb)) | ((with_reducible refine gate_callee (f := 39) rfl ?_); refine gL (some 37) Tryd.func39 #[.slice A0 l0.length c0] ?_; (with_reducible refine (laws_toPointS.calls k _ _ l0 t895 _ ?side1 ?side2 A16.out).mono ?_); (case side1 => exact cP (Kd.C_below HR0.out HB.out)); (case side2 => exact HC0.out); rintro e w30 ⟨v910, rfl, ho0, hb⟩; refine ⟨_, rfl, ?_⟩; have HO911 := Aside0.mk (Kd.R_lower (Kd.R_new' (Kd.R_new' ho0 (Kd.R_lt (rP HO897))) (Kd.R_lt (rP HO904))) (below_size (bZ HB))); replace HO897 := Aside0.mk (Kd.R_elder' (rP HO897) (Kd.R_base ho0) hb); replace HO904 := Aside0.mk (Kd.R_elder' (rP HO904) (Kd.R_base ho0) hb); replace BK893 := bB BK893 hb; replace HB := bS HB hb; (try clear hb); (try clear ho0); obtain ⟨Ao31, co31, eo31⟩ := Kd.R_slice HO911.out; subst eo31) | ((with_reducible refine gate_callee (f := 40) rfl ?_); refine gL (some 38) Tryd.func40 #[.slice Ao28 t895.length co28, .slice Ao31 t895.length co31] ?_; (with_reducible refine (laws_eqPointS.calls k _ _ t895 _ _ t895 true _ ?side1 ?side2 ?side3 ?side4 A17.out).mono ?_); (case side1 => exact cP ((Kd.R_reads' HO904.out).2.2)); (case side2 => exact (Kd.R_reads' HO904.out).2.1); (case side3 => exact cP ((Kd.R_reads' HO911.out).2.2)); (case side4 => exact (Kd.R_reads' HO911.out).2.1); rintro e w32 ⟨rfl, hb⟩; refine ⟨_, rfl, ?_⟩; replace HO897 := Aside0.mk (Kd.R_below (rP HO897) hb); replace HO904 := Aside0.mk (Kd.R_below (rP HO904) hb); replace HO911 := Aside0.mk (Kd.R_below (rP HO911) hb); replace BK893 := bB BK893 hb; replace HB := bS HB hb; (try clear hb)))
     go_ret
     exact ⟨rR, bZ HB⟩
    ·replace c18 := Bool.eq_false_iff.mpr c18
     subst c18
     rw [if_neg (show ¬ (false = true) by decide)] at H
     exact absurd (Option.some.inj H) (by rw [htrue.out]; exact Bool.false_ne_true)

/-- THE ONE PURE STATEMENT of laws_FnExactAllSigOk. -/
def laws_FnExactAllSigOk.Pure : Prop := ∀ (l0 : List (S42)) (a1 : ByteArray) (a2_0 : Int) (a2_1 : Int) (a2_2 : Bool), (l0.length ≤ 9223372036854775807 ∧ ∀ y1 ∈ l0, ((Lit.int .i64 y1.f0).wf = true ∧ (Lit.int .i64 y1.f1).wf = true ∧ True)) → a1.size ≤ 140737488351232 → (Lit.int .i64 a2_0).wf = true → (Lit.int .i64 a2_1).wf = true → ∃ k, laws_FnExactAllSigOk.f k l0 a1 a2_0 a2_1 a2_2 = some true
end Go.Proofs.YtkdmplfldfagnaaDoor.Pf
end
