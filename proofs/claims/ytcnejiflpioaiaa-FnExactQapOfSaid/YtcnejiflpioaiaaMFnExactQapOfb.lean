/- What is proved here: part 2 of 5 of the proof of the given statement FnExactQapOf: the contracts of the Go functions that it reaches, the plain facts on lists and numbers, and (in the last part) the statement itself. No conditions beyond the given ones. -/
import Derived.Test.YtcnejiflpioaiaaMFnExactQapOfwSlim
import Derived.Test.YtcnejiflpioaiaaMFnExactQapOfa

section
namespace Go.Proofs.Ytcnejiflpioaiaa.Pf
open Go.RowKit Go.Proofs.YtcnejiflpioaiaaW.PrintWords Go.Proofs.YtcnejiflpioaiaaW.PrintLast Go.Proofs.YtcnejiflpioaiaaW.PrintMore
attribute [local go_sem] max2_int min2_int max_two min_two max_three min_three max_four min_four   -- for this text's walks alone
set_option linter.unusedVariables false
set_option linter.unusedSimpArgs false

/-! ### spec_QapOf: function 55 -/
mutual
def spec_QapOf.l0 : Nat → Int → Int → Int → List (S40) → List (List Int) → List (List Int) → List (List Int) → Option ((List (List Int)) × (List (List Int)) × (List (List Int)) × Bool)
 | 0, _, _, _, _, _, _, _ => none
 | k + 1, x5, x210000, x210001, x210002, x213000, x213001, x213002 => if x5 < x210000 then (spec_QapOf.l1 k x5 (([] : List Int)) (([] : List Int)) (([] : List Int)) 0 x210000 x210001 x210002 x213000 x213001 x213002) else (some (x213000, x213001, x213002, true))
def spec_QapOf.l1 : Nat → Int → List Int → List Int → List Int → Int → Int → Int → List (S40) → List (List Int) → List (List Int) → List (List Int) → Option ((List (List Int)) × (List (List Int)) × (List (List Int)) × Bool)
 | 0, _, _, _, _, _, _, _, _, _, _, _ => none
 | k + 1, x5, x6, x7, x8, x9, x210000, x210001, x210002, x213000, x213001, x213002 => if x9 < (x210002.length : Int) then (if 0 ≤ x9 then (if 0 ≤ x5 then (if x5 < (((rd_T40 x210002 x9).f0).length : Int) then (if x6.length < 17592186044416 then (if x5 < (((rd_T40 x210002 x9).f1).length : Int) then (if x7.length < 17592186044416 then (if x5 < (((rd_T40 x210002 x9).f2).length : Int) then (if x8.length < 17592186044416 then (spec_QapOf.l1 k x5 (x6 ++ [rd ((rd_T40 x210002 x9).f0) x5]) (x7 ++ [rd ((rd_T40 x210002 x9).f1) x5]) (x8 ++ [rd ((rd_T40 x210002 x9).f2) x5]) (wrap64 (x9 + 1)) x210000 x210001 x210002 x213000 x213001 x213002) else (none)) else (none)) else (none)) else (none)) else (none)) else (none)) else (none)) else (none)) else ((spec_PolyThrough.f k x6).bind fun t237 => (if x213000.length < 5864062014805 then ((spec_PolyThrough.f k x7).bind fun t243 => (if x213001.length < 5864062014805 then ((spec_PolyThrough.f k x8).bind fun t249 => (if x213002.length < 5864062014805 then (spec_QapOf.l0 k (wrap64 (x5 + 1)) x210000 x210001 x210002 (x213000 ++ [t237]) (x213001 ++ [t243]) (x213002 ++ [t249])) else (none))) else (none))) else (none)))
end
def spec_QapOf.f (k : Nat) (a0_0 : Int) (a0_1 : Int) (l0_2 : List (S40)) : Option ((List (List Int)) × (List (List Int)) × (List (List Int)) × Bool) := (spec_SystemOk.f k a0_0 a0_1 l0_2).bind fun t211 => (if t211 = true then (spec_QapOf.l0 k 0 a0_0 a0_1 l0_2 ([] : List (List Int)) ([] : List (List Int)) ([] : List (List Int))) else (some (([] : List (List Int)), ([] : List (List Int)), ([] : List (List Int)), false)))
theorem spec_QapOf.mono_l : ∀ k, (∀ y0 y1 y2 y3 y4 y5 y6, LeO (spec_QapOf.l0 k y0 y1 y2 y3 y4 y5 y6) (spec_QapOf.l0 (k + 1) y0 y1 y2 y3 y4 y5 y6)) ∧ (∀ y0 y1 y2 y3 y4 y5 y6 y7 y8 y9 y10, LeO (spec_QapOf.l1 k y0 y1 y2 y3 y4 y5 y6 y7 y8 y9 y10) (spec_QapOf.l1 (k + 1) y0 y1 y2 y3 y4 y5 y6 y7 y8 y9 y10))
 | 0 => ⟨fun _ _ _ _ _ _ _ r h => by simp [spec_QapOf.l0] at h, fun _ _ _ _ _ _ _ _ _ _ _ r h => by simp [spec_QapOf.l1] at h⟩
 | k + 1 => by
  obtain ⟨ih0, ih1⟩ := spec_QapOf.mono_l k
  refine ⟨?_, ?_⟩
  ·intro y0 y1 y2 y3 y4 y5 y6
   unfold spec_QapOf.l0
   with_reducible repeat' first | exact ih0 _ _ _ _ _ _ _ | exact ih1 _ _ _ _ _ _ _ _ _ _ _ | exact spec_PolyThrough.mono _ _ | exact spec_SystemOk.mono _ _ _ _ | exact LeO.refl _ | exact LeO.none _ | refine LeO.ite ?_ ?_ | refine LeO.bind ?_ (fun _ => ?_)
  ·intro y0 y1 y2 y3 y4 y5 y6 y7 y8 y9 y10
   unfold spec_QapOf.l1
   with_reducible repeat' first | exact ih0 _ _ _ _ _ _ _ | exact ih1 _ _ _ _ _ _ _ _ _ _ _ | exact spec_PolyThrough.mono _ _ | exact spec_SystemOk.mono _ _ _ _ | exact LeO.refl _ | exact LeO.none _ | refine LeO.ite ?_ ?_ | refine LeO.bind ?_ (fun _ => ?_)
theorem spec_QapOf.mono : ∀ a0 a1 a2 k, LeO (spec_QapOf.f k a0 a1 a2) (spec_QapOf.f (k + 1) a0 a1 a2) := by
 intro a0 a1 a2 k
 obtain ⟨ih0, ih1⟩ := spec_QapOf.mono_l k
 unfold spec_QapOf.f
 with_reducible repeat' first | exact ih0 _ _ _ _ _ _ _ | exact ih1 _ _ _ _ _ _ _ _ _ _ _ | exact spec_PolyThrough.mono _ _ | exact spec_SystemOk.mono _ _ _ _ | exact LeO.refl _ | exact LeO.none _ | refine LeO.ite ?_ ?_ | refine LeO.bind ?_ (fun _ => ?_)
def spec_QapOf.T16 : Bool × List (List Nat × List Nat) := (true, [([], []), ([0], [0]), ([], []), ([2], [2]), ([3], [3]), ([1, 4, 3], [1, 4]), ([0, 1, 2, 3, 4, 5], []), ([6, 5, 5, 0, 1, 2, 3, 4, 5], [5, 6])])
def spec_QapOf.B16 : List Nat := [0, 1, 0, 4, 12, 31, 63, 127]
theorem spec_QapOf.tab16 : rtab .any (opsOf Try.f55 16) = spec_QapOf.T16 := by kernel_rfl
theorem spec_QapOf.bits16 : waitsOk spec_QapOf.T16.2 spec_QapOf.B16 = true := by kernel_rfl
def spec_QapOf.T17 : Bool × List (List Nat × List Nat) := (true, [([], []), ([0], [0]), ([], []), ([2], [2]), ([3], [3]), ([1, 4, 3], [1, 4]), ([0, 1, 2, 3, 4, 5], []), ([6, 5, 5, 0, 1, 2, 3, 4, 5], [5, 6])])
def spec_QapOf.B17 : List Nat := [0, 1, 0, 4, 12, 31, 63, 127]
theorem spec_QapOf.tab17 : rtab .any (opsOf Try.f55 17) = spec_QapOf.T17 := by kernel_rfl
theorem spec_QapOf.bits17 : waitsOk spec_QapOf.T17.2 spec_QapOf.B17 = true := by kernel_rfl
def spec_QapOf.T18 : Bool × List (List Nat × List Nat) := (true, [([], []), ([0], [0]), ([], []), ([2], [2]), ([3], [3]), ([1, 4, 3], [1, 4]), ([0, 1, 2, 3, 4, 5], []), ([6, 5, 5, 0, 1, 2, 3, 4, 5], [5, 6])])
def spec_QapOf.B18 : List Nat := [0, 1, 0, 4, 12, 31, 63, 127]
theorem spec_QapOf.tab18 : rtab .any (opsOf Try.f55 18) = spec_QapOf.T18 := by kernel_rfl
theorem spec_QapOf.bits18 : waitsOk spec_QapOf.T18.2 spec_QapOf.B18 = true := by kernel_rfl
set_option maxHeartbeats 8000000 in
set_option maxRecDepth 100000 in
theorem spec_QapOf.calls (k : Nat) (a0_0 : Int) (a0_1 : Int) (A0_2 : Option Addr) (c0_2 : Nat) (l0_2 : List (S40)) (r1 : List (List Int)) (r2 : List (List Int)) (r3 : List (List Int)) (r4 : Bool) (w : World) (hr0_2 : Kd.C k40 w A0_2 l0_2.length l0_2) (hc0_2 : l0_2.length ≤ c0_2) (h : spec_QapOf.f k a0_0 a0_1 l0_2 = some (r1, r2, r3, r4)) :
  Calls Try.prog 55 #[.agg #[.int .i64 a0_0, .int .i64 a0_1, .slice A0_2 l0_2.length c0_2]] w fun e w' => ∃ v0_ v1_ v2_ : Value, e = .returned (.tuple #[.agg #[v0_, v1_, v2_], .bool r4]) ∧ Kd.S (Kd.slice 3 (Kd.int .i64)) 22 w' w.heap.size (fun k_ => some k_ ≠ (v1_ : Value).ownBlock ∧ some k_ ≠ (v2_ : Value).ownBlock) v0_ r1 ∧ Kd.S (Kd.slice 3 (Kd.int .i64)) 22 w' w.heap.size (fun k_ => some k_ ≠ (v0_ : Value).ownBlock ∧ some k_ ≠ (v2_ : Value).ownBlock) v1_ r2 ∧ Kd.S (Kd.slice 3 (Kd.int .i64)) 22 w' w.heap.size (fun k_ => some k_ ≠ (v0_ : Value).ownBlock ∧ some k_ ≠ (v1_ : Value).ownBlock) v2_ r3 ∧ Below w.heap.size w w' := by
 have hu32 := Try.underlying32
 have hu61 := Try.underlying61
 have HR0_2 := Aside0.mk hr0_2
 have HC0_2 := Aside0.mk hc0_2
 clear hr0_2 hc0_2
 have HB := Aside0.mk (Below.refl w.heap.size w)
 have H : ((spec_SystemOk.f k a0_0 a0_1 l0_2).bind fun t211 => (if t211 = true then (spec_QapOf.l0 k 0 a0_0 a0_1 l0_2 ([] : List (List Int)) ([] : List (List Int)) ([] : List (List Int))) else (some (([] : List (List Int)), ([] : List (List Int)), ([] : List (List Int)), false)))) = some (r1, r2, r3, r4) := h
 clear h
 replace H := Option.bind_eq_some_iff.mp H
 obtain ⟨t211, A20, H⟩ := H
 have A2 := Aside0.mk A20
 clear A20
 by_cases c3 : t211 = true
 ·subst c3
  rw [if_pos rfl] at H
  have H' := Aside0.mk H
  clear H
  go_enter Try.func55, Try.ntmps55
  go_wp2_with (first | (refine gB 1 #[.int .i64 a0_0, .int .i64 a0_1, .slice A0_2 l0_2.length c0_2] 32 ?_; intro gb209 hg w4 BK209 hb; have GW209 := bG HB hg; replace HB := bS HB hb; clear hb hg) | (refine gB 2 #[.slice none 0 0, .slice none 0 0, .slice none 0 0] 61 ?_; intro gb210 hg w5 BK210 hb; have GW210 := bG HB hg; replace HB := bS HB hb; obtain ⟨NB209_210, NB210_209⟩ := bN BK209 hg; replace BK209 := bB BK209 hb; clear hb hg; obtain ⟨hnb6, hnc6⟩ := nB NB209_210; obtain ⟨hcz7_0, hcz7_1, hcz7_2, hfz7_0, hfz7_1, hfz7_2⟩ := bK3 (w := w5) BK209) | (refine gC (some 11) Try.func81 #[.agg #[.int .i64 a0_0, .int .i64 a0_1, .slice A0_2 l0_2.length c0_2]] ?_; (with_reducible refine (spec_SystemOk.calls k a0_0 a0_1 _ _ l0_2 true _ ?side1 ?side2 A2.out).mono ?_); (case side1 => exact cP (Kd.C_below HR0_2.out HB.out)); (case side2 => exact HC0_2.out); rintro e w8 ⟨rfl, hb⟩; refine ⟨_, rfl, ?_⟩; replace BK209 := bB BK209 hb; replace BK210 := bB BK210 hb; replace HB := bS HB hb; (try clear hb)) | (refine gB 4 #[.slice none 0 0, .slice none 0 0, .slice none 0 0] 61 ?_; intro gb212 hg w9 BK212 hb; have GW212 := bG HB hg; replace HB := bS HB hb; obtain ⟨NB209_212, NB212_209⟩ := bN BK209 hg; replace BK209 := bB BK209 hb; obtain ⟨NB210_212, NB212_210⟩ := bN BK210 hg; replace BK210 := bB BK210 hb; clear hb hg; obtain ⟨hnb10, hnc10⟩ := nB NB212_209; obtain ⟨hnb11, hnc11⟩ := nB NB212_210; obtain ⟨hcz12_0, hcz12_1, hcz12_2, hfz12_0, hfz12_1, hfz12_2⟩ := bK3 (w := w9) BK212))
  go_loopg [5] k (fun kq v5 w' => ∃ (x5_1 : Int) (x213000_1 : List (List Int)) (x213001_1 : List (List Int)) (x213002_1 : List (List Int)) (u213000 : Value) (u213001 : Value) (u213002 : Value), v5 = .int .i64 x5_1 ∧ Aside0 (spec_QapOf.l0 kq x5_1 a0_0 a0_1 l0_2 x213000_1 x213001_1 x213002_1 = some (r1, r2, r3, r4)) ∧ Aside0 (kq ≤ k) ∧ Aside0 (Kd.S (Kd.slice 3 (Kd.int .i64)) 22 w' w.heap.size (fun k_ => some k_ ≠ (u213001 : Value).ownBlock ∧ some k_ ≠ (u213002 : Value).ownBlock) u213000 x213000_1) ∧ Aside0 (Kd.S (Kd.slice 3 (Kd.int .i64)) 22 w' w.heap.size (fun k_ => some k_ ≠ (u213000 : Value).ownBlock ∧ some k_ ≠ (u213002 : Value).ownBlock) u213001 x213001_1) ∧ Aside0 (Kd.S (Kd.slice 3 (Kd.int .i64)) 22 w' w.heap.size (fun k_ => some k_ ≠ (u213000 : Value).ownBlock ∧ some k_ ≠ (u213001 : Value).ownBlock) u213002 x213002_1) ∧ Aside0 (w'.heap[gb209]? = some (.cells #[.int .i64 a0_0, .int .i64 a0_1, (.slice A0_2 l0_2.length c0_2)] 32 (0, 0))) ∧ Aside0 (w'.heap[gb210]? = some (.cells #[(.slice none 0 0), (.slice none 0 0), (.slice none 0 0)] 61 (0, 0))) ∧ Aside0 (w'.heap[gb212]? = some (.cells #[u213000, u213001, u213002] 61 (0, 0))) ∧ Aside0 (Below w.heap.size w w'))
  case atStart => exact ⟨(0), (([] : List (List Int))), (([] : List (List Int))), (([] : List (List Int))), (.slice none 0 0), (.slice none 0 0), (.slice none 0 0), rS, H', ⟨Nat.le_refl _⟩, ⟨by first | exact Kd.S_nil _ _ _ _ _ | exact Kd.N_nil _ _ _ _ _ | exact Kd.V_nil _ _ _ _ _ | exact Kd.Q_nil _ _ _ _ _ | exact Kd.R_nil _ _ _ _ _⟩, ⟨by first | exact Kd.S_nil _ _ _ _ _ | exact Kd.N_nil _ _ _ _ _ | exact Kd.V_nil _ _ _ _ _ | exact Kd.Q_nil _ _ _ _ _ | exact Kd.R_nil _ _ _ _ _⟩, ⟨by first | exact Kd.S_nil _ _ _ _ _ | exact Kd.N_nil _ _ _ _ _ | exact Kd.V_nil _ _ _ _ _ | exact Kd.Q_nil _ _ _ _ _ | exact Kd.R_nil _ _ _ _ _⟩, ⟨bP BK209⟩, ⟨bP BK210⟩, ⟨bU BK212⟩, ⟨bZ HB⟩⟩
  case round =>
   clear H'
   try clear c1
   try clear p2
   try clear c3
   try clear c5
   try clear c6
   try clear c8
   try clear c10
   try clear c11
   try clear hcz12_0
   try clear hcz12_1
   try clear hcz12_2
   try clear hcz7_0
   try clear hcz7_1
   try clear hcz7_2
   try clear hfz12_0
   try clear hfz12_1
   try clear hfz12_2
   try clear hfz7_0
   try clear hfz7_1
   try clear hfz7_2
   obtain ⟨x5_1, x213000_1, x213001_1, x213002_1, u213000, u213001, u213002, rfl, HA, HK1, HO_213000, HO_213001, HO_213002, BK209, BK210, BK212, HB⟩ := hrel
   cases gk with
   | zero => exact absurd HA.out (by simp [spec_QapOf.l0])
   | succ k1 =>
    have H := HA.out
    clear HA
    simp only [spec_QapOf.l0] at H
    by_cases c13 : x5_1 < a0_0
    ·rw [if_pos c13] at H
     have c13b0 := decide_eq_true c13
     clear c13
     obtain ⟨y213, hy213⟩ : ∃ y_ : List Int, y_ = (([] : List Int)) := ⟨_, rfl⟩
     replace H : (spec_QapOf.l1 k1 x5_1 y213 (([] : List Int)) (([] : List Int)) 0 a0_0 a0_1 l0_2 x213000_1 x213001_1 x213002_1) = some (r1, r2, r3, r4) := by first | (rw [hy213]; with_reducible exact H) | (have H2_ := (Option.bind_some _ _).symm.trans H; rw [hy213]; with_reducible exact H2_) | (have H2_ := (Option.bind_some _ _).symm.trans H; with_reducible exact H2_) | with_reducible exact H | (rw [hy213]; exact H) | exact H
     have Ny213 := Aside0.mk hy213
     clear hy213
     obtain ⟨y216, hy216⟩ : ∃ y_ : List Int, y_ = (([] : List Int)) := ⟨_, rfl⟩
     replace H : (spec_QapOf.l1 k1 x5_1 y213 y216 (([] : List Int)) 0 a0_0 a0_1 l0_2 x213000_1 x213001_1 x213002_1) = some (r1, r2, r3, r4) := by first | (rw [hy216]; with_reducible exact H) | (have H2_ := (Option.bind_some _ _).symm.trans H; rw [hy216]; with_reducible exact H2_) | (have H2_ := (Option.bind_some _ _).symm.trans H; with_reducible exact H2_) | with_reducible exact H | (rw [hy216]; exact H) | exact H
     have Ny216 := Aside0.mk hy216
     clear hy216
     obtain ⟨y219, hy219⟩ : ∃ y_ : List Int, y_ = (([] : List Int)) := ⟨_, rfl⟩
     replace H : (spec_QapOf.l1 k1 x5_1 y213 y216 y219 0 a0_0 a0_1 l0_2 x213000_1 x213001_1 x213002_1) = some (r1, r2, r3, r4) := by first | (rw [hy219]; with_reducible exact H) | (have H2_ := (Option.bind_some _ _).symm.trans H; rw [hy219]; with_reducible exact H2_) | (have H2_ := (Option.bind_some _ _).symm.trans H; with_reducible exact H2_) | with_reducible exact H | (rw [hy219]; exact H) | exact H
     have Ny219 := Aside0.mk hy219
     clear hy219
     have H' := Aside0.mk H
     clear H
     obtain ⟨hnb14, hnc14⟩ := nB NB209_210
     obtain ⟨hnb15, hnc15⟩ := nB NB209_212
     obtain ⟨hcz16_0, hcz16_1, hcz16_2, hfz16_0, hfz16_1, hfz16_2⟩ := bK3 (w := wr) BK209
     go_wp2_with (first | ((with_reducible refine gate_dst (N := 21) rfl ?_); refine Kd.R_lit (Kd.int .i64) _ 3 ?hg (N := 21) ?hd (xs := ([] : List Int)) (inner := []) (ok := fun _ => True) (okp := fun _ => True) ?hr ?hp (fun _ hk => hk) trivial (Below.refl _ _) (Nat.le_refl _) (by simp) ?_; (case hd => rfl); (case hg => rfl); (case hr => first | (go_simp; done) | (go_simp; rfl)); (case hp => exact (Reps.none _ _)); intro v214 w17 ho18 hb hg_ hnew_; clear hg_ hnew_; (first | rw [← Ny213.out] at ho18 | (simp only [Int.reduceToNat] at ho18; rw [← Ny213.out] at ho18)); replace HO_213000 := Aside0.mk (Kd.S_elder' (by (with_reducible repeat (first | apply Kd.S_alloc | apply Kd.S_drewN | apply Kd.S_drew)); exact HO_213000.out) (Kd.R_base ho18) hb); replace HO_213001 := Aside0.mk (Kd.S_elder' (by (with_reducible repeat (first | apply Kd.S_alloc | apply Kd.S_drewN | apply Kd.S_drew)); exact HO_213001.out) (Kd.R_base ho18) hb); replace HO_213002 := Aside0.mk (Kd.S_elder' (by (with_reducible repeat (first | apply Kd.S_alloc | apply Kd.S_drewN | apply Kd.S_drew)); exact HO_213002.out) (Kd.R_base ho18) hb); have HO215 := Aside0.mk (Kd.R_lower ho18 (below_size (bZ HB))); replace BK209 := bB BK209 hb; replace BK210 := bB BK210 hb; replace BK212 := bB BK212 hb; replace HB := bS HB hb; clear hb ho18) | ((with_reducible refine gate_dst (N := 22) rfl ?_); refine Kd.R_lit (Kd.int .i64) _ 3 ?hg (N := 22) ?hd (xs := ([] : List Int)) (inner := []) (ok := fun _ => True) (okp := fun _ => True) ?hr ?hp (fun _ hk => hk) trivial (Below.refl _ _) (Nat.le_refl _) (by simp) ?_; (case hd => rfl); (case hg => rfl); (case hr => first | (go_simp; done) | (go_simp; rfl)); (case hp => exact (Reps.none _ _)); intro v217 w19 ho20 hb hg_ hnew_; clear hg_ hnew_; (first | rw [← Ny216.out] at ho20 | (simp only [Int.reduceToNat] at ho20; rw [← Ny216.out] at ho20)); replace HO_213000 := Aside0.mk (Kd.S_elder' (by (with_reducible repeat (first | apply Kd.S_alloc | apply Kd.S_drewN | apply Kd.S_drew)); exact HO_213000.out) (Kd.R_base ho20) hb); replace HO_213001 := Aside0.mk (Kd.S_elder' (by (with_reducible repeat (first | apply Kd.S_alloc | apply Kd.S_drewN | apply Kd.S_drew)); exact HO_213001.out) (Kd.R_base ho20) hb); replace HO_213002 := Aside0.mk (Kd.S_elder' (by (with_reducible repeat (first | apply Kd.S_alloc | apply Kd.S_drewN | apply Kd.S_drew)); exact HO_213002.out) (Kd.R_base ho20) hb); have HO218 := Aside0.mk (Kd.R_lower (Kd.R_new' ho20 (Kd.R_lt (rP HO215))) (below_size (bZ HB))); replace HO215 := Aside0.mk (Kd.R_elder' (rP HO215) (Kd.R_base ho20) hb); replace BK209 := bB BK209 hb; replace BK210 := bB BK210 hb; replace BK212 := bB BK212 hb; replace HB := bS HB hb; clear hb ho20) | ((with_reducible refine gate_dst (N := 23) rfl ?_); refine Kd.R_lit (Kd.int .i64) _ 3 ?hg (N := 23) ?hd (xs := ([] : List Int)) (inner := []) (ok := fun _ => True) (okp := fun _ => True) ?hr ?hp (fun _ hk => hk) trivial (Below.refl _ _) (Nat.le_refl _) (by simp) ?_; (case hd => rfl); (case hg => rfl); (case hr => first | (go_simp; done) | (go_simp; rfl)); (case hp => exact (Reps.none _ _)); intro v220 w21 ho22 hb hg_ hnew_; clear hg_ hnew_; (first | rw [← Ny219.out] at ho22 | (simp only [Int.reduceToNat] at ho22; rw [← Ny219.out] at ho22)); replace HO_213000 := Aside0.mk (Kd.S_elder' (by (with_reducible repeat (first | apply Kd.S_alloc | apply Kd.S_drewN | apply Kd.S_drew)); exact HO_213000.out) (Kd.R_base ho22) hb); replace HO_213001 := Aside0.mk (Kd.S_elder' (by (with_reducible repeat (first | apply Kd.S_alloc | apply Kd.S_drewN | apply Kd.S_drew)); exact HO_213001.out) (Kd.R_base ho22) hb); replace HO_213002 := Aside0.mk (Kd.S_elder' (by (with_reducible repeat (first | apply Kd.S_alloc | apply Kd.S_drewN | apply Kd.S_drew)); exact HO_213002.out) (Kd.R_base ho22) hb); have HO221 := Aside0.mk (Kd.R_lower (Kd.R_new' (Kd.R_new' ho22 (Kd.R_lt (rP HO215))) (Kd.R_lt (rP HO218))) (below_size (bZ HB))); replace HO215 := Aside0.mk (Kd.R_elder' (rP HO215) (Kd.R_base ho22) hb); replace HO218 := Aside0.mk (Kd.R_elder' (rP HO218) (Kd.R_base ho22) hb); replace BK209 := bB BK209 hb; replace BK210 := bB BK210 hb; replace BK212 := bB BK212 hb; replace HB := bS HB hb; clear hb ho22))
     go_loopg [6, 7, 8, 9] k1 (fun kq v6 v7 v8 v9 w' => ∃ (x6_2 : List Int) (x7_2 : List Int) (x8_2 : List Int) (x9_2 : Int), v9 = .int .i64 x9_2 ∧ Aside0 (spec_QapOf.l1 kq x5_1 x6_2 x7_2 x8_2 x9_2 a0_0 a0_1 l0_2 x213000_1 x213001_1 x213002_1 = some (r1, r2, r3, r4)) ∧ Aside0 (kq ≤ k1) ∧ Aside0 (Kd.R (Kd.int .i64) 3 w' w.heap.size (fun k_ => some k_ ≠ (v7 : Value).ownBlock ∧ some k_ ≠ (v8 : Value).ownBlock) v6 x6_2) ∧ Aside0 (Kd.R (Kd.int .i64) 3 w' w.heap.size (fun k_ => some k_ ≠ (v6 : Value).ownBlock ∧ some k_ ≠ (v8 : Value).ownBlock) v7 x7_2) ∧ Aside0 (Kd.R (Kd.int .i64) 3 w' w.heap.size (fun k_ => some k_ ≠ (v6 : Value).ownBlock ∧ some k_ ≠ (v7 : Value).ownBlock) v8 x8_2) ∧ Aside0 (Kd.S (Kd.slice 3 (Kd.int .i64)) 22 w' w.heap.size (fun k_ => some k_ ≠ (v6 : Value).ownBlock ∧ some k_ ≠ (v7 : Value).ownBlock ∧ some k_ ≠ (v8 : Value).ownBlock ∧ some k_ ≠ (u213001 : Value).ownBlock ∧ some k_ ≠ (u213002 : Value).ownBlock) u213000 x213000_1) ∧ Aside0 (Kd.S (Kd.slice 3 (Kd.int .i64)) 22 w' w.heap.size (fun k_ => some k_ ≠ (v6 : Value).ownBlock ∧ some k_ ≠ (v7 : Value).ownBlock ∧ some k_ ≠ (v8 : Value).ownBlock ∧ some k_ ≠ (u213000 : Value).ownBlock ∧ some k_ ≠ (u213002 : Value).ownBlock) u213001 x213001_1) ∧ Aside0 (Kd.S (Kd.slice 3 (Kd.int .i64)) 22 w' w.heap.size (fun k_ => some k_ ≠ (v6 : Value).ownBlock ∧ some k_ ≠ (v7 : Value).ownBlock ∧ some k_ ≠ (v8 : Value).ownBlock ∧ some k_ ≠ (u213000 : Value).ownBlock ∧ some k_ ≠ (u213001 : Value).ownBlock) u213002 x213002_1) ∧ Aside0 (w'.heap[gb209]? = some (.cells #[.int .i64 a0_0, .int .i64 a0_1, (.slice A0_2 l0_2.length c0_2)] 32 (0, 0))) ∧ Aside0 (w'.heap[gb210]? = some (.cells #[(.slice none 0 0), (.slice none 0 0), (.slice none 0 0)] 61 (0, 0))) ∧ Aside0 (w'.heap[gb212]? = some (.cells #[u213000, u213001, u213002] 61 (0, 0))) ∧ Aside0 (Below w.heap.size w w'))
     case atStart => exact ⟨(y213), (y216), (y219), (0), rS, H', ⟨Nat.le_refl _⟩, ⟨by (with_reducible repeat (first | apply Kd.R_alloc | apply Kd.R_drewN | apply Kd.R_drew)); exact Kd.R_mono HO215.out (fun _ hk => ⟨hk.1.2, hk.2⟩)⟩, ⟨by (with_reducible repeat (first | apply Kd.R_alloc | apply Kd.R_drewN | apply Kd.R_drew)); exact Kd.R_mono HO218.out (fun _ hk => ⟨hk.1.2, hk.2⟩)⟩, ⟨by (with_reducible repeat (first | apply Kd.R_alloc | apply Kd.R_drewN | apply Kd.R_drew)); exact Kd.R_mono HO221.out (fun _ hk => ⟨hk.1.2, hk.2⟩)⟩, ⟨by (with_reducible repeat (first | apply Kd.S_alloc | apply Kd.S_drewN | apply Kd.S_drew)); exact Kd.S_mono HO_213000.out (fun _ hk => ⟨hk.1.1.2, ⟨hk.1.2, ⟨hk.2, ⟨hk.1.1.1.1, hk.1.1.1.2⟩⟩⟩⟩)⟩, ⟨by (with_reducible repeat (first | apply Kd.S_alloc | apply Kd.S_drewN | apply Kd.S_drew)); exact Kd.S_mono HO_213001.out (fun _ hk => ⟨hk.1.1.2, ⟨hk.1.2, ⟨hk.2, ⟨hk.1.1.1.1, hk.1.1.1.2⟩⟩⟩⟩)⟩, ⟨by (with_reducible repeat (first | apply Kd.S_alloc | apply Kd.S_drewN | apply Kd.S_drew)); exact Kd.S_mono HO_213002.out (fun _ hk => ⟨hk.1.1.2, ⟨hk.1.2, ⟨hk.2, ⟨hk.1.1.1.1, hk.1.1.1.2⟩⟩⟩⟩)⟩, ⟨bP BK209⟩, ⟨bP BK210⟩, ⟨bP BK212⟩, ⟨bZ HB⟩⟩
     case round =>
      clear H'
      try clear c1
      try clear p2
      try clear c3
      try clear c5
      try clear c6
      try clear c8
      try clear c10
      try clear c11
      try clear c13
      try clear c13b0
      try clear c14
      try clear c15
      try clear hcz12_0
      try clear hcz12_1
      try clear hcz12_2
      try clear hcz16_0
      try clear hcz16_1
      try clear hcz16_2
      try clear hcz7_0
      try clear hcz7_1
      try clear hcz7_2
      try clear hfz12_0
      try clear hfz12_1
      try clear hfz12_2
      try clear hfz16_0
      try clear hfz16_1
      try clear hfz16_2
      try clear hfz7_0
      try clear hfz7_1
      try clear hfz7_2
      try clear p2
      obtain ⟨x6_2, x7_2, x8_2, x9_2, rfl, HA, HK2, HO_6, HO_7, HO_8, HO_213000, HO_213001, HO_213002, BK209, BK210, BK212, HB⟩ := hrel
      cases gk with
      | zero => exact absurd HA.out (by simp [spec_QapOf.l1])
      | succ k2 =>
       have H := HA.out
       clear HA
       simp only [spec_QapOf.l1] at H
       by_cases c23 : x9_2 < (l0_2.length : Int)
       ·rw [if_pos c23] at H
        have c23b0 := decide_eq_true c23
        clear c23
        by_cases c24 : 0 ≤ x9_2
        ·rw [if_pos c24] at H
         have c24b0 := decide_eq_true c24
         clear c24
         by_cases c25 : 0 ≤ x5_1
         ·rw [if_pos c25] at H
          have c25b0 := decide_eq_true c25
          clear c25
          by_cases c26 : x5_1 < (((rd_T40 l0_2 x9_2).f0).length : Int)
          ·rw [if_pos c26] at H
           have c26b0 := decide_eq_true c26
           clear c26
           by_cases c27 : x6_2.length < 17592186044416
           ·rw [if_pos c27] at H
            have LMc27 := Aside0.mk c27
            clear c27
            obtain ⟨y224, hy224⟩ : ∃ y_ : List Int, y_ = (x6_2 ++ [rd ((rd_T40 l0_2 x9_2).f0) x5_1]) := ⟨_, rfl⟩
            replace H : (if x5_1 < (((rd_T40 l0_2 x9_2).f1).length : Int) then (if x7_2.length < 17592186044416 then (if x5_1 < (((rd_T40 l0_2 x9_2).f2).length : Int) then (if x8_2.length < 17592186044416 then (spec_QapOf.l1 k2 x5_1 y224 (x7_2 ++ [rd ((rd_T40 l0_2 x9_2).f1) x5_1]) (x8_2 ++ [rd ((rd_T40 l0_2 x9_2).f2) x5_1]) (wrap64 (x9_2 + 1)) a0_0 a0_1 l0_2 x213000_1 x213001_1 x213002_1) else (none)) else (none)) else (none)) else (none)) = some (r1, r2, r3, r4) := by first | (rw [hy224]; with_reducible exact H) | (have H2_ := (Option.bind_some _ _).symm.trans H; rw [hy224]; with_reducible exact H2_) | (have H2_ := (Option.bind_some _ _).symm.trans H; with_reducible exact H2_) | with_reducible exact H | (rw [hy224]; exact H) | exact H
            have Ny224 := Aside0.mk hy224
            clear hy224
            by_cases c28 : x5_1 < (((rd_T40 l0_2 x9_2).f1).length : Int)
            ·rw [if_pos c28] at H
             have c28b0 := decide_eq_true c28
             clear c28
             by_cases c29 : x7_2.length < 17592186044416
             ·rw [if_pos c29] at H
              have LMc29 := Aside0.mk c29
              clear c29
              obtain ⟨y229, hy229⟩ : ∃ y_ : List Int, y_ = (x7_2 ++ [rd ((rd_T40 l0_2 x9_2).f1) x5_1]) := ⟨_, rfl⟩
              replace H : (if x5_1 < (((rd_T40 l0_2 x9_2).f2).length : Int) then (if x8_2.length < 17592186044416 then (spec_QapOf.l1 k2 x5_1 y224 y229 (x8_2 ++ [rd ((rd_T40 l0_2 x9_2).f2) x5_1]) (wrap64 (x9_2 + 1)) a0_0 a0_1 l0_2 x213000_1 x213001_1 x213002_1) else (none)) else (none)) = some (r1, r2, r3, r4) := by first | (rw [hy229]; with_reducible exact H) | (have H2_ := (Option.bind_some _ _).symm.trans H; rw [hy229]; with_reducible exact H2_) | (have H2_ := (Option.bind_some _ _).symm.trans H; with_reducible exact H2_) | with_reducible exact H | (rw [hy229]; exact H) | exact H
              have Ny229 := Aside0.mk hy229
              clear hy229
              by_cases c30 : x5_1 < (((rd_T40 l0_2 x9_2).f2).length : Int)
              ·rw [if_pos c30] at H
               have c30b0 := decide_eq_true c30
               clear c30
               by_cases c31 : x8_2.length < 17592186044416
               ·rw [if_pos c31] at H
                have LMc31 := Aside0.mk c31
                clear c31
                obtain ⟨y234, hy234⟩ : ∃ y_ : List Int, y_ = (x8_2 ++ [rd ((rd_T40 l0_2 x9_2).f2) x5_1]) := ⟨_, rfl⟩
                replace H : (spec_QapOf.l1 k2 x5_1 y224 y229 y234 (wrap64 (x9_2 + 1)) a0_0 a0_1 l0_2 x213000_1 x213001_1 x213002_1) = some (r1, r2, r3, r4) := by first | (rw [hy234]; with_reducible exact H) | (have H2_ := (Option.bind_some _ _).symm.trans H; rw [hy234]; with_reducible exact H2_) | (have H2_ := (Option.bind_some _ _).symm.trans H; with_reducible exact H2_) | with_reducible exact H | (rw [hy234]; exact H) | exact H
                have Ny234 := Aside0.mk hy234
                clear hy234
                have H' := Aside0.mk H
                clear H
                obtain ⟨hnb32, hnc32⟩ := nB NB209_210
                obtain ⟨hnb33, hnc33⟩ := nB NB209_212
                obtain ⟨hcz34_0, hcz34_1, hcz34_2, hfz34_0, hfz34_1, hfz34_2⟩ := bK3 (w := wr) BK209
                have p222 : 0 ≤ (x9_2 : Int) := of_decide_eq_true (by first | (with_reducible assumption) | assumption)
                have q222 : x9_2 < (l0_2.length : Int) := of_decide_eq_true (by first | (with_reducible assumption) | assumption)
                obtain ⟨ad222, A222_0, c222_0, A222_1, c222_1, A222_2, c222_2, e222, hx222_0, hx222_1, hx222_2, hl222_0, hi222_0, hl222_1, hi222_1, hl222_2, hi222_2⟩ := at_T40 HR0_2.out x9_2 p222 q222
                cases e222
                replace hx222_0 := (hC HB hx222_0 :)
                replace hx222_1 := (hC HB hx222_1 :)
                replace hx222_2 := (hC HB hx222_2 :)
                have HR222_0 := Aside0.mk hi222_0
                have HC222_0 := Aside0.mk hl222_0
                clear hi222_0 hl222_0
                have HR222_1 := Aside0.mk hi222_1
                have HC222_1 := Aside0.mk hl222_1
                clear hi222_1 hl222_1
                have HR222_2 := Aside0.mk hi222_2
                have HC222_2 := Aside0.mk hl222_2
                clear hi222_2 hl222_2
                replace p222 := eq_true p222
                replace q222 := eq_true q222
                have p223 : 0 ≤ (x5_1 : Int) := of_decide_eq_true (by first | (with_reducible assumption) | assumption)
                have q223 : x5_1 < (((rd_T40 l0_2 x9_2).f0).length : Int) := of_decide_eq_true (by first | (with_reducible assumption) | assumption)
                obtain ⟨ad223, e223, hx223_0⟩ := Kd.at_int HR222_0.out x5_1 p223 q223
                cases e223
                replace hx223_0 := (hC HB hx223_0 :)
                replace p223 := eq_true p223
                replace q223 := eq_true q223
                go_wp2_with (first | ((with_reducible refine gate_builtin (b := .append) (xs := #[.tmp 31, .tmp 41]) rfl ?_); at_builtin; refine Kd.R_append (Kd.int .i64) (w0 := w) w.heap.size rfl (.tmp 31) (.tmp 41) 22 3 (.int .i64 0) 8 rfl Try.underlying22 info3 rfl (by decide) (by omega) u6 x6_2 (rd ((rd_T40 l0_2 x9_2).f0) x5_1) [.int .i64 (rd ((rd_T40 l0_2 x9_2).f0) x5_1)] (fun k_ => some k_ ≠ (u7 : Value).ownBlock ∧ some k_ ≠ (u8 : Value).ownBlock) (fun _ => False) rfl rfl ?aP (fun _ hk => hk.elim) ?aF ?aO ?aB ?aS ?aL ?_; (case aP => exact rfl); (case aB => exact (bZ HB)); (case aF => exact (fun k_ hk => ⟨Kd.fresh' (Kd.R_lt (rP HO_7)) k_ hk, Kd.fresh' (Kd.R_lt (rP HO_8)) k_ hk⟩)); (case aO => exact (rP HO_6)); (case aS => exact (below_size (bZ HB))); (case aL => have := LMc27.out; omega); intro v225 w35 ho hb hg hat; rw [← Ny224.out] at ho; replace HO_7 := Aside0.mk (Kd.R_after (ok := (fun k_ => some k_ ≠ (u8 : Value).ownBlock)) (by (with_reducible repeat (first | apply Kd.R_alloc | apply Kd.R_drewN | apply Kd.R_drew)); exact Kd.R_mono HO_7.out (fun _ hk => ⟨hk.2, hk.1⟩)) hg hat); replace HO_8 := Aside0.mk (Kd.R_after (ok := (fun k_ => some k_ ≠ (u7 : Value).ownBlock)) (by (with_reducible repeat (first | apply Kd.R_alloc | apply Kd.R_drewN | apply Kd.R_drew)); exact Kd.R_mono HO_8.out (fun _ hk => ⟨hk.2, hk.1⟩)) hg hat); replace HO_213000 := Aside0.mk (Kd.S_after (ok := (fun k_ => some k_ ≠ (u7 : Value).ownBlock ∧ some k_ ≠ (u8 : Value).ownBlock ∧ some k_ ≠ (u213001 : Value).ownBlock ∧ some k_ ≠ (u213002 : Value).ownBlock)) (by (with_reducible repeat (first | apply Kd.S_alloc | apply Kd.S_drewN | apply Kd.S_drew)); exact Kd.S_mono HO_213000.out (fun _ hk => ⟨⟨hk.2.1, ⟨hk.2.2.1, ⟨hk.2.2.2.1, hk.2.2.2.2⟩⟩⟩, hk.1⟩)) hg hat); replace HO_213001 := Aside0.mk (Kd.S_after (ok := (fun k_ => some k_ ≠ (u7 : Value).ownBlock ∧ some k_ ≠ (u8 : Value).ownBlock ∧ some k_ ≠ (u213000 : Value).ownBlock ∧ some k_ ≠ (u213002 : Value).ownBlock)) (by (with_reducible repeat (first | apply Kd.S_alloc | apply Kd.S_drewN | apply Kd.S_drew)); exact Kd.S_mono HO_213001.out (fun _ hk => ⟨⟨hk.2.1, ⟨hk.2.2.1, ⟨hk.2.2.2.1, hk.2.2.2.2⟩⟩⟩, hk.1⟩)) hg hat); replace HO_213002 := Aside0.mk (Kd.S_after (ok := (fun k_ => some k_ ≠ (u7 : Value).ownBlock ∧ some k_ ≠ (u8 : Value).ownBlock ∧ some k_ ≠ (u213000 : Value).ownBlock ∧ some k_ ≠ (u213001 : Value).ownBlock)) (by (with_reducible repeat (first | apply Kd.S_alloc | apply Kd.S_drewN | apply Kd.S_drew)); exact Kd.S_mono HO_213002.out (fun _ hk => ⟨⟨hk.2.1, ⟨hk.2.2.1, ⟨hk.2.2.2.1, hk.2.2.2.2⟩⟩⟩, hk.1⟩)) hg hat); replace BK209 := Aside0.mk (blk_grown (bP BK209) hg (Kd.R_ne HO_6.out BK209.out (by decide))); replace BK210 := Aside0.mk (blk_grown (bP BK210) hg (Kd.R_ne HO_6.out BK210.out (by decide))); replace BK212 := Aside0.mk (blk_grown (bP BK212) hg (Kd.R_ne HO_6.out BK212.out (by decide))); replace HB := Aside0.mk (hb); have HO226 := Aside0.mk (ho); clear HO_6; clear ho hb hg hat; obtain ⟨hcz36_0, hcz36_1, hcz36_2, hfz36_0, hfz36_1, hfz36_2⟩ := bK3 (w := w35) BK209; have p227 : 0 ≤ (x9_2 : Int) := of_decide_eq_true (by first | (with_reducible assumption) | assumption); have q227 : x9_2 < (l0_2.length : Int) := of_decide_eq_true (by first | (with_reducible assumption) | assumption); obtain ⟨ad227, A227_0, c227_0, A227_1, c227_1, A227_2, c227_2, e227, hx227_0, hx227_1, hx227_2, hl227_0, hi227_0, hl227_1, hi227_1, hl227_2, hi227_2⟩ := at_T40 HR0_2.out x9_2 p227 q227; obtain rfl : ad222 = ad227 := (by injection e227); replace hx227_0 := (hC HB hx227_0 :); replace hx227_1 := (hC HB hx227_1 :); replace hx227_2 := (hC HB hx227_2 :); have HR227_0 := Aside0.mk hi227_0; have HC227_0 := Aside0.mk hl227_0; clear hi227_0 hl227_0; have HR227_1 := Aside0.mk hi227_1; have HC227_1 := Aside0.mk hl227_1; clear hi227_1 hl227_1; have HR227_2 := Aside0.mk hi227_2; have HC227_2 := Aside0.mk hl227_2; clear hi227_2 hl227_2; replace p227 := eq_true p227; replace q227 := eq_true q227; have p228 : 0 ≤ (x5_1 : Int) := of_decide_eq_true (by first | (with_reducible assumption) | assumption); have q228 : x5_1 < (((rd_T40 l0_2 x9_2).f1).length : Int) := of_decide_eq_true (by first | (with_reducible assumption) | assumption); obtain ⟨ad228, e228, hx228_0⟩ := Kd.at_int HR227_1.out x5_1 p228 q228; cases e228; replace hx228_0 := (hC HB hx228_0 :); replace p228 := eq_true p228; replace q228 := eq_true q228) | ((with_reducible refine gate_builtin (b := .append) (xs := #[.tmp 43, .tmp 53]) rfl ?_); at_builtin; refine Kd.R_append (Kd.int .i64) (w0 := w) w.heap.size rfl (.tmp 43) (.tmp 53) 22 3 (.int .i64 0) 8 rfl Try.underlying22 info3 rfl (by decide) (by omega) u7 x7_2 (rd ((rd_T40 l0_2 x9_2).f1) x5_1) [.int .i64 (rd ((rd_T40 l0_2 x9_2).f1) x5_1)] (fun k_ => some k_ ≠ (u8 : Value).ownBlock ∧ some k_ ≠ (v225 : Value).ownBlock) (fun _ => False) rfl rfl ?aP (fun _ hk => hk.elim) ?aF ?aO ?aB ?aS ?aL ?_; (case aP => exact rfl); (case aB => exact (bZ HB)); (case aF => exact (fun k_ hk => ⟨Kd.fresh' (Kd.R_lt (rP HO_8)) k_ hk, Kd.fresh' (Kd.R_lt (rP HO226)) k_ hk⟩)); (case aO => exact (rP HO_7)); (case aS => exact (below_size (bZ HB))); (case aL => have := LMc29.out; omega); intro v230 w37 ho hb hg hat; rw [← Ny229.out] at ho; replace HO_8 := Aside0.mk (Kd.R_after (ok := (fun k_ => some k_ ≠ (v225 : Value).ownBlock)) (by (with_reducible repeat (first | apply Kd.R_alloc | apply Kd.R_drewN | apply Kd.R_drew)); exact Kd.R_mono HO_8.out (fun _ hk => ⟨hk.2, hk.1⟩)) hg hat); replace HO_213000 := Aside0.mk (Kd.S_after (ok := (fun k_ => some k_ ≠ (u8 : Value).ownBlock ∧ some k_ ≠ (u213001 : Value).ownBlock ∧ some k_ ≠ (u213002 : Value).ownBlock ∧ some k_ ≠ (v225 : Value).ownBlock)) (by (with_reducible repeat (first | apply Kd.S_alloc | apply Kd.S_drewN | apply Kd.S_drew)); exact Kd.S_mono HO_213000.out (fun _ hk => ⟨⟨hk.1.2.1, ⟨hk.1.2.2.1, ⟨hk.1.2.2.2, hk.2⟩⟩⟩, hk.1.1⟩)) hg hat); replace HO_213001 := Aside0.mk (Kd.S_after (ok := (fun k_ => some k_ ≠ (u8 : Value).ownBlock ∧ some k_ ≠ (u213000 : Value).ownBlock ∧ some k_ ≠ (u213002 : Value).ownBlock ∧ some k_ ≠ (v225 : Value).ownBlock)) (by (with_reducible repeat (first | apply Kd.S_alloc | apply Kd.S_drewN | apply Kd.S_drew)); exact Kd.S_mono HO_213001.out (fun _ hk => ⟨⟨hk.1.2.1, ⟨hk.1.2.2.1, ⟨hk.1.2.2.2, hk.2⟩⟩⟩, hk.1.1⟩)) hg hat); replace HO_213002 := Aside0.mk (Kd.S_after (ok := (fun k_ => some k_ ≠ (u8 : Value).ownBlock ∧ some k_ ≠ (u213000 : Value).ownBlock ∧ some k_ ≠ (u213001 : Value).ownBlock ∧ some k_ ≠ (v225 : Value).ownBlock)) (by (with_reducible repeat (first | apply Kd.S_alloc | apply Kd.S_drewN | apply Kd.S_drew)); exact Kd.S_mono HO_213002.out (fun _ hk => ⟨⟨hk.1.2.1, ⟨hk.1.2.2.1, ⟨hk.1.2.2.2, hk.2⟩⟩⟩, hk.1.1⟩)) hg hat); replace BK209 := Aside0.mk (blk_grown (bP BK209) hg (Kd.R_ne HO_7.out BK209.out (by decide))); replace BK210 := Aside0.mk (blk_grown (bP BK210) hg (Kd.R_ne HO_7.out BK210.out (by decide))); replace BK212 := Aside0.mk (blk_grown (bP BK212) hg (Kd.R_ne HO_7.out BK212.out (by decide))); replace HO226 := Aside0.mk (Kd.R_after (ok := (fun k_ => some k_ ≠ (u8 : Value).ownBlock)) (by (with_reducible repeat (first | apply Kd.R_alloc | apply Kd.R_drewN | apply Kd.R_drew)); exact Kd.R_mono HO226.out (fun _ hk => ⟨hk.2, hk.1⟩)) hg hat); replace HB := Aside0.mk (hb); have HO231 := Aside0.mk (ho); clear HO_7; clear ho hb hg hat; obtain ⟨hcz38_0, hcz38_1, hcz38_2, hfz38_0, hfz38_1, hfz38_2⟩ := bK3 (w := w37) BK209; have p232 : 0 ≤ (x9_2 : Int) := of_decide_eq_true (by first | (with_reducible assumption) | assumption); have q232 : x9_2 < (l0_2.length : Int) := of_decide_eq_true (by first | (with_reducible assumption) | assumption); obtain ⟨ad232, A232_0, c232_0, A232_1, c232_1, A232_2, c232_2, e232, hx232_0, hx232_1, hx232_2, hl232_0, hi232_0, hl232_1, hi232_1, hl232_2, hi232_2⟩ := at_T40 HR0_2.out x9_2 p232 q232; obtain rfl : ad222 = ad232 := (by injection e232); replace hx232_0 := (hC HB hx232_0 :); replace hx232_1 := (hC HB hx232_1 :); replace hx232_2 := (hC HB hx232_2 :); have HR232_0 := Aside0.mk hi232_0; have HC232_0 := Aside0.mk hl232_0; clear hi232_0 hl232_0; have HR232_1 := Aside0.mk hi232_1; have HC232_1 := Aside0.mk hl232_1; clear hi232_1 hl232_1; have HR232_2 := Aside0.mk hi232_2; have HC232_2 := Aside0.mk hl232_2; clear hi232_2 hl232_2; replace p232 := eq_true p232; replace q232 := eq_true q232; have p233 : 0 ≤ (x5_1 : Int) := of_decide_eq_true (by first | (with_reducible assumption) | assumption); have q233 : x5_1 < (((rd_T40 l0_2 x9_2).f2).length : Int) := of_decide_eq_true (by first | (with_reducible assumption) | assumption); obtain ⟨ad233, e233, hx233_0⟩ := Kd.at_int HR232_2.out x5_1 p233 q233; cases e233; replace hx233_0 := (hC HB hx233_0 :); replace p233 := eq_true p233; replace q233 := eq_true q233) | ((with_reducible refine gate_builtin (b := .append) (xs := #[.tmp 55, .tmp 65]) rfl ?_); at_builtin; refine Kd.R_append (Kd.int .i64) (w0 := w) w.heap.size rfl (.tmp 55) (.tmp 65) 22 3 (.int .i64 0) 8 rfl Try.underlying22 info3 rfl (by decide) (by omega) u8 x8_2 (rd ((rd_T40 l0_2 x9_2).f2) x5_1) [.int .i64 (rd ((rd_T40 l0_2 x9_2).f2) x5_1)] (fun k_ => some k_ ≠ (v225 : Value).ownBlock ∧ some k_ ≠ (v230 : Value).ownBlock) (fun _ => False) rfl rfl ?aP (fun _ hk => hk.elim) ?aF ?aO ?aB ?aS ?aL ?_; (case aP => exact rfl); (case aB => exact (bZ HB)); (case aF => exact (fun k_ hk => ⟨Kd.fresh' (Kd.R_lt (rP HO226)) k_ hk, Kd.fresh' (Kd.R_lt (rP HO231)) k_ hk⟩)); (case aO => exact (rP HO_8)); (case aS => exact (below_size (bZ HB))); (case aL => have := LMc31.out; omega); intro v235 w39 ho hb hg hat; rw [← Ny234.out] at ho; replace HO_213000 := Aside0.mk (Kd.S_after (ok := (fun k_ => some k_ ≠ (u213001 : Value).ownBlock ∧ some k_ ≠ (u213002 : Value).ownBlock ∧ some k_ ≠ (v225 : Value).ownBlock ∧ some k_ ≠ (v230 : Value).ownBlock)) (by (with_reducible repeat (first | apply Kd.S_alloc | apply Kd.S_drewN | apply Kd.S_drew)); exact Kd.S_mono HO_213000.out (fun _ hk => ⟨⟨hk.1.2.1, ⟨hk.1.2.2.1, ⟨hk.1.2.2.2, hk.2⟩⟩⟩, hk.1.1⟩)) hg hat); replace HO_213001 := Aside0.mk (Kd.S_after (ok := (fun k_ => some k_ ≠ (u213000 : Value).ownBlock ∧ some k_ ≠ (u213002 : Value).ownBlock ∧ some k_ ≠ (v225 : Value).ownBlock ∧ some k_ ≠ (v230 : Value).ownBlock)) (by (with_reducible repeat (first | apply Kd.S_alloc | apply Kd.S_drewN | apply Kd.S_drew)); exact Kd.S_mono HO_213001.out (fun _ hk => ⟨⟨hk.1.2.1, ⟨hk.1.2.2.1, ⟨hk.1.2.2.2, hk.2⟩⟩⟩, hk.1.1⟩)) hg hat); replace HO_213002 := Aside0.mk (Kd.S_after (ok := (fun k_ => some k_ ≠ (u213000 : Value).ownBlock ∧ some k_ ≠ (u213001 : Value).ownBlock ∧ some k_ ≠ (v225 : Value).ownBlock ∧ some k_ ≠ (v230 : Value).ownBlock)) (by (with_reducible repeat (first | apply Kd.S_alloc | apply Kd.S_drewN | apply Kd.S_drew)); exact Kd.S_mono HO_213002.out (fun _ hk => ⟨⟨hk.1.2.1, ⟨hk.1.2.2.1, ⟨hk.1.2.2.2, hk.2⟩⟩⟩, hk.1.1⟩)) hg hat); replace BK209 := Aside0.mk (blk_grown (bP BK209) hg (Kd.R_ne HO_8.out BK209.out (by decide))); replace BK210 := Aside0.mk (blk_grown (bP BK210) hg (Kd.R_ne HO_8.out BK210.out (by decide))); replace BK212 := Aside0.mk (blk_grown (bP BK212) hg (Kd.R_ne HO_8.out BK212.out (by decide))); replace HO226 := Aside0.mk (Kd.R_after (ok := (fun k_ => some k_ ≠ (v230 : Value).ownBlock)) (by (with_reducible repeat (first | apply Kd.R_alloc | apply Kd.R_drewN | apply Kd.R_drew)); exact Kd.R_mono HO226.out (fun _ hk => ⟨hk.2, hk.1⟩)) hg hat); replace HO231 := Aside0.mk (Kd.R_after (ok := (fun k_ => some k_ ≠ (v225 : Value).ownBlock)) (by (with_reducible repeat (first | apply Kd.R_alloc | apply Kd.R_drewN | apply Kd.R_drew)); exact Kd.R_mono HO231.out (fun _ hk => ⟨hk.2, hk.1⟩)) hg hat); replace HB := Aside0.mk (hb); have HO236 := Aside0.mk (ho); clear HO_8; clear ho hb hg hat))
                go_roundg k2
                case measure => have := HK1.out; have := HK2.out; omega
                case rel => exact ⟨(y224), (y229), (y234), (wrap64 (x9_2 + 1)), rS, H', ⟨by have := HK1.out; have := HK2.out; omega⟩, ⟨rP HO226⟩, ⟨rP HO231⟩, ⟨rP HO236⟩, ⟨by (with_reducible repeat (first | apply Kd.S_alloc | apply Kd.S_drewN | apply Kd.S_drew)); exact Kd.S_mono HO_213000.out (fun _ hk => ⟨hk.1.2.2.1, ⟨hk.1.2.2.2, ⟨hk.2, ⟨hk.1.1, hk.1.2.1⟩⟩⟩⟩)⟩, ⟨by (with_reducible repeat (first | apply Kd.S_alloc | apply Kd.S_drewN | apply Kd.S_drew)); exact Kd.S_mono HO_213001.out (fun _ hk => ⟨hk.1.2.2.1, ⟨hk.1.2.2.2, ⟨hk.2, ⟨hk.1.1, hk.1.2.1⟩⟩⟩⟩)⟩, ⟨by (with_reducible repeat (first | apply Kd.S_alloc | apply Kd.S_drewN | apply Kd.S_drew)); exact Kd.S_mono HO_213002.out (fun _ hk => ⟨hk.1.2.2.1, ⟨hk.1.2.2.2, ⟨hk.2, ⟨hk.1.1, hk.1.2.1⟩⟩⟩⟩)⟩, ⟨bP BK209⟩, ⟨bP BK210⟩, ⟨bP BK212⟩, ⟨bZ HB⟩⟩
               ·rw [if_neg c31] at H
                exact absurd H (by simp)
              ·rw [if_neg c30] at H
               exact absurd H (by simp)
             ·rw [if_neg c29] at H
              exact absurd H (by simp)
            ·rw [if_neg c28] at H
             exact absurd H (by simp)
           ·rw [if_neg c27] at H
            exact absurd H (by simp)
          ·rw [if_neg c26] at H
           exact absurd H (by simp)
         ·rw [if_neg c25] at H
          exact absurd H (by simp)
        ·rw [if_neg c24] at H
         exact absurd H (by simp)
       ·rw [if_neg c23] at H
        have c23b0 := decide_eq_false c23
        clear c23
        replace H := Option.bind_eq_some_iff.mp H
        obtain ⟨t237, A400, H⟩ := H
        have A40 := Aside0.mk A400
        clear A400
        by_cases c41 : x213000_1.length < 5864062014805
        ·rw [if_pos c41] at H
         have LMc41 := Aside0.mk c41
         clear c41
         obtain ⟨y240, hy240⟩ : ∃ y_ : List (List Int), y_ = (x213000_1 ++ [t237]) := ⟨_, rfl⟩
         replace H : ((spec_PolyThrough.f k2 x7_2).bind fun t243 => (if x213001_1.length < 5864062014805 then ((spec_PolyThrough.f k2 x8_2).bind fun t249 => (if x213002_1.length < 5864062014805 then (spec_QapOf.l0 k2 (wrap64 (x5_1 + 1)) a0_0 a0_1 l0_2 y240 (x213001_1 ++ [t243]) (x213002_1 ++ [t249])) else (none))) else (none))) = some (r1, r2, r3, r4) := by first | (rw [hy240]; with_reducible exact H) | (have H2_ := (Option.bind_some _ _).symm.trans H; rw [hy240]; with_reducible exact H2_) | (have H2_ := (Option.bind_some _ _).symm.trans H; with_reducible exact H2_) | with_reducible exact H | (rw [hy240]; exact H) | exact H
         have Ny240 := Aside0.mk hy240
         clear hy240
         replace H := Option.bind_eq_some_iff.mp H
         obtain ⟨t243, A420, H⟩ := H
         have A42 := Aside0.mk A420
         clear A420
         by_cases c43 : x213001_1.length < 5864062014805
         ·rw [if_pos c43] at H
          have LMc43 := Aside0.mk c43
          clear c43
          obtain ⟨y246, hy246⟩ : ∃ y_ : List (List Int), y_ = (x213001_1 ++ [t243]) := ⟨_, rfl⟩
          replace H : ((spec_PolyThrough.f k2 x8_2).bind fun t249 => (if x213002_1.length < 5864062014805 then (spec_QapOf.l0 k2 (wrap64 (x5_1 + 1)) a0_0 a0_1 l0_2 y240 y246 (x213002_1 ++ [t249])) else (none))) = some (r1, r2, r3, r4) := by first | (rw [hy246]; with_reducible exact H) | (have H2_ := (Option.bind_some _ _).symm.trans H; rw [hy246]; with_reducible exact H2_) | (have H2_ := (Option.bind_some _ _).symm.trans H; with_reducible exact H2_) | with_reducible exact H | (rw [hy246]; exact H) | exact H
          have Ny246 := Aside0.mk hy246
          clear hy246
          replace H := Option.bind_eq_some_iff.mp H
          obtain ⟨t249, A440, H⟩ := H
          have A44 := Aside0.mk A440
          clear A440
          by_cases c45 : x213002_1.length < 5864062014805
          ·rw [if_pos c45] at H
           have LMc45 := Aside0.mk c45
           clear c45
           obtain ⟨y252, hy252⟩ : ∃ y_ : List (List Int), y_ = (x213002_1 ++ [t249]) := ⟨_, rfl⟩
           replace H : (spec_QapOf.l0 k2 (wrap64 (x5_1 + 1)) a0_0 a0_1 l0_2 y240 y246 y252) = some (r1, r2, r3, r4) := by first | (rw [hy252]; with_reducible exact H) | (have H2_ := (Option.bind_some _ _).symm.trans H; rw [hy252]; with_reducible exact H2_) | (have H2_ := (Option.bind_some _ _).symm.trans H; with_reducible exact H2_) | with_reducible exact H | (rw [hy252]; exact H) | exact H
           have Ny252 := Aside0.mk hy252
           clear hy252
           have H' := Aside0.mk H
           clear H
           obtain ⟨hnb46, hnc46⟩ := nB NB209_210
           obtain ⟨hnb47, hnc47⟩ := nB NB209_212
           obtain ⟨hcz48_0, hcz48_1, hcz48_2, hfz48_0, hfz48_1, hfz48_2⟩ := bK3 (w := wr) BK209
           try go_wp2
           replace HO_6 := Aside0.mk (Kd.R_drew HO_6.out)
           replace HO_7 := Aside0.mk (Kd.R_drew HO_7.out)
           replace HO_8 := Aside0.mk (Kd.R_drew HO_8.out)
           replace HO_213000 := Aside0.mk (Kd.S_drew HO_213000.out)
           replace HO_213001 := Aside0.mk (Kd.S_drew HO_213001.out)
           replace HO_213002 := Aside0.mk (Kd.S_drew HO_213002.out)
           replace BK209 := Aside0.mk (blk_drew BK209.out)
           replace BK210 := Aside0.mk (blk_drew BK210.out)
           replace BK212 := Aside0.mk (blk_drew BK212.out)
           replace HB := Aside0.mk (below_drew1 HB.out)
           obtain ⟨Ao50, co50, eo50⟩ := Kd.R_slice HO_6.out
           (first | subst eo50 | (injection eo50 with f1_ f2_ f3_; have f4_ := f1_.symm; have f5_ := f3_.symm; clear f1_ f2_ f3_; subst f4_; subst f5_))
           refine start_ (n := 8) (S := fun w' => SQ3 w' gb212 (u213000) (u213001) (u213002)) (ds := [7]) #[false, false, false, false, false, false, false, false] (by kernel_rfl) rfl rfl (bT3 BK212) (fun hHeld => ?_); refine with_tabW spec_QapOf.tab16 spec_QapOf.bits16 (fun HT_ HW_ => ?_)
           generalize wr.drew = w49 at HO_6 HO_7 HO_8 HO_213000 HO_213001 HO_213002 BK209 BK210 BK212 HB hHeld ⊢
           refine pI 0 (some 67) HT_.out ?_
           refine pI 2 (some 69) HT_.out ?_
           refine tI3 1 (some 68) HT_.out HW_.out hHeld ?_
           refine oI 3 (some 70) HT_.out (fun K hK => ?_)
           refine gO Try.func51 #[.slice Ao50 x6_2.length co50] ?_
           with_reducible refine (spec_PolyThrough.calls k2 _ _ x6_2 t237 _ ?side1 ?side2 A40.out).mono ?_
           (case side1 => exact cP ((Kd.R_reads' HO_6.out).2.2))
           (case side2 => exact (Kd.R_reads' HO_6.out).2.1)
           rintro e w51 ⟨v238, rfl, ho0, hb⟩
           refine ⟨_, rfl, ?_⟩
           replace HO_213000 := Aside0.mk (Kd.S_elder' (by (with_reducible repeat (first | apply Kd.S_alloc | apply Kd.S_drewN | apply Kd.S_drew)); exact HO_213000.out) (Kd.R_base ho0) hb)
           replace HO_213001 := Aside0.mk (Kd.S_elder' (by (with_reducible repeat (first | apply Kd.S_alloc | apply Kd.S_drewN | apply Kd.S_drew)); exact HO_213001.out) (Kd.R_base ho0) hb)
           replace HO_213002 := Aside0.mk (Kd.S_elder' (by (with_reducible repeat (first | apply Kd.S_alloc | apply Kd.S_drewN | apply Kd.S_drew)); exact HO_213002.out) (Kd.R_base ho0) hb)
           have HO239 := Aside0.mk (Kd.R_lower (Kd.R_new' (Kd.R_new' (Kd.R_new' ho0 (Kd.R_lt (rP HO_6))) (Kd.R_lt (rP HO_7))) (Kd.R_lt (rP HO_8))) (below_size (bZ HB)))
           replace HO_6 := Aside0.mk (Kd.R_elder' (rP HO_6) (Kd.R_base ho0) hb)
           replace HO_7 := Aside0.mk (Kd.R_elder' (rP HO_7) (Kd.R_base ho0) hb)
           replace HO_8 := Aside0.mk (Kd.R_elder' (rP HO_8) (Kd.R_base ho0) hb)
           replace BK209 := bB BK209 hb
           replace BK210 := bB BK210 hb
           replace BK212 := bB BK212 hb
           replace HB := bS HB hb
           (try clear hb)
           (try clear ho0)
           obtain ⟨Ao53, co53, eo53⟩ := Kd.R_slice HO239.out
           (first | subst eo53 | (injection eo53 with f1_ f2_ f3_; have f4_ := f1_.symm; have f5_ := f3_.symm; clear f1_ f2_ f3_; subst f4_; subst f5_))
           refine hK.out _ _ (bT3 BK212) (fun hHeld => ?_)
           clear hK K
           refine nO (some 70) ?_
           refine oI 4 (some 71) HT_.out (fun K hK => ?_)
           refine value_ (w1 := ?_) (v := ?_) (by rfl) rfl ?_ ?_
           rotate_left 2
           ·go_simp
            constructor
            ·rfl
            ·rfl
           refine hK.out _ _ ⟨(blk_cell (blk_alloc BK212.out _) 0).trans rfl, (blk_cell (blk_alloc BK212.out _) 1).trans rfl, (blk_cell (blk_alloc BK212.out _) 2).trans rfl⟩ (fun hHeld => ?_)
           clear hK K
           refine nO (some 71) ?_
           refine oI 5 (some 72) HT_.out (fun K hK => ?_)
           refine Kd.S_append_step (Kd.slice 3 (Kd.int .i64)) (w0 := w) w.heap.size (by rfl) (.tmp 68) (.tmp 71) 48 22 (.slice none 0 0) 24 rfl Try.underlying48 info22 rfl (by decide) (by omega) u213000 x213000_1 t237 [.slice Ao53 t237.length co53] (fun k_ => some k_ ≠ (.slice Ao50 x6_2.length co50 : Value).ownBlock ∧ some k_ ≠ (u7 : Value).ownBlock ∧ some k_ ≠ (u8 : Value).ownBlock ∧ some k_ ≠ (u213001 : Value).ownBlock ∧ some k_ ≠ (u213002 : Value).ownBlock) (fun k_ => some k_ = (.slice Ao53 t237.length co53 : Value).ownBlock) rfl rfl ?aP (fun k_ hk_ => ((Kd.R_mono (ok' := fun k_ => ((fun k_ => some k_ ≠ (.slice Ao50 x6_2.length co50 : Value).ownBlock ∧ some k_ ≠ (u7 : Value).ownBlock ∧ some k_ ≠ (u8 : Value).ownBlock ∧ some k_ ≠ (u213001 : Value).ownBlock ∧ some k_ ≠ (u213002 : Value).ownBlock)) k_ ∧ some k_ ≠ (u213000 : Value).ownBlock) (Kd.R_apart' (Kd.R_apart' (Kd.R_apart' (HO239.out) (Kd.S_typed HO_213001.out) (by decide)) (Kd.S_typed HO_213002.out) (by decide)) (Kd.S_typed HO_213000.out) (by decide)) (fun k_ hk => ⟨⟨hk.1.1.1.1.1.2, ⟨hk.1.1.1.1.2, ⟨hk.1.1.1.2, ⟨hk.1.1.2, hk.1.2⟩⟩⟩⟩, hk.2⟩))).1 k_ hk_.symm) ?aF ?aO ?aB ?aS ?aL ?_
           (case aP => exact Kd.M_row (Kd.R_mono (Kd.R_tight rfl (Kd.R_mono (ok' := fun k_ => ((fun k_ => some k_ ≠ (.slice Ao50 x6_2.length co50 : Value).ownBlock ∧ some k_ ≠ (u7 : Value).ownBlock ∧ some k_ ≠ (u8 : Value).ownBlock ∧ some k_ ≠ (u213001 : Value).ownBlock ∧ some k_ ≠ (u213002 : Value).ownBlock)) k_ ∧ some k_ ≠ (u213000 : Value).ownBlock) (Kd.R_apart' (Kd.R_apart' (Kd.R_apart' (HO239.out) (Kd.S_typed HO_213001.out) (by decide)) (Kd.S_typed HO_213002.out) (by decide)) (Kd.S_typed HO_213000.out) (by decide)) (fun k_ hk => ⟨⟨hk.1.1.1.1.1.2, ⟨hk.1.1.1.1.2, ⟨hk.1.1.1.2, ⟨hk.1.1.2, hk.1.2⟩⟩⟩⟩, hk.2⟩))) (fun _ h_ => h_)))
           (case aB => exact (bZ HB))
           (case aF => exact (fun k_ hk => ⟨Kd.fresh' (Kd.R_lt (rP HO_6)) k_ hk, Kd.fresh' (Kd.R_lt (rP HO_7)) k_ hk, Kd.fresh' (Kd.R_lt (rP HO_8)) k_ hk, Kd.fresh' (Kd.S_lt (by (with_reducible repeat (first | apply Kd.S_alloc | apply Kd.S_drewN | apply Kd.S_drew)); exact HO_213001.out)) k_ hk, Kd.fresh' (Kd.S_lt (by (with_reducible repeat (first | apply Kd.S_alloc | apply Kd.S_drewN | apply Kd.S_drew)); exact HO_213002.out)) k_ hk⟩))
           (case aO => exact (by (with_reducible repeat (first | apply Kd.S_alloc | apply Kd.S_drewN | apply Kd.S_drew)); exact Kd.S_mono HO_213000.out (fun k_ hk => ⟨⟨hk.1.1, ⟨hk.1.2.1, ⟨hk.1.2.2.1, ⟨hk.1.2.2.2.1, hk.1.2.2.2.2⟩⟩⟩⟩, fun e_ => hk.2 e_⟩)))
           (case aS => exact (below_size (bZ HB)))
           (case aL => have := LMc41.out; omega)
           intro v241 w52 ho hb hg hat
           rw [← Ny240.out] at ho
           replace HO_6 := Aside0.mk (Kd.R_over' (rP HO_6) (Kd.S_typed (by (with_reducible repeat (first | apply Kd.S_alloc | apply Kd.S_drewN | apply Kd.S_drew)); exact HO_213000.out)) (by decide) hg)
           replace HO_7 := Aside0.mk (Kd.R_over' (rP HO_7) (Kd.S_typed (by (with_reducible repeat (first | apply Kd.S_alloc | apply Kd.S_drewN | apply Kd.S_drew)); exact HO_213000.out)) (by decide) hg)
           replace HO_8 := Aside0.mk (Kd.R_over' (rP HO_8) (Kd.S_typed (by (with_reducible repeat (first | apply Kd.S_alloc | apply Kd.S_drewN | apply Kd.S_drew)); exact HO_213000.out)) (by decide) hg)
           replace HO_213001 := Aside0.mk (Kd.S_after (ok := (fun k_ => some k_ ≠ (.slice Ao50 x6_2.length co50 : Value).ownBlock ∧ some k_ ≠ (u7 : Value).ownBlock ∧ some k_ ≠ (u8 : Value).ownBlock ∧ some k_ ≠ (u213002 : Value).ownBlock ∧ some k_ ≠ (.slice Ao53 t237.length co53 : Value).ownBlock)) (by (with_reducible repeat (first | apply Kd.S_alloc | apply Kd.S_drewN | apply Kd.S_drew)); exact Kd.S_mono HO_213001.out (fun _ hk => ⟨⟨hk.1.1, ⟨hk.1.2.1, ⟨hk.1.2.2.1, ⟨hk.1.2.2.2.2, hk.2⟩⟩⟩⟩, hk.1.2.2.2.1⟩)) hg hat)
           replace HO_213002 := Aside0.mk (Kd.S_after (ok := (fun k_ => some k_ ≠ (.slice Ao50 x6_2.length co50 : Value).ownBlock ∧ some k_ ≠ (u7 : Value).ownBlock ∧ some k_ ≠ (u8 : Value).ownBlock ∧ some k_ ≠ (u213001 : Value).ownBlock ∧ some k_ ≠ (.slice Ao53 t237.length co53 : Value).ownBlock)) (by (with_reducible repeat (first | apply Kd.S_alloc | apply Kd.S_drewN | apply Kd.S_drew)); exact Kd.S_mono HO_213002.out (fun _ hk => ⟨⟨hk.1.1, ⟨hk.1.2.1, ⟨hk.1.2.2.1, ⟨hk.1.2.2.2.2, hk.2⟩⟩⟩⟩, hk.1.2.2.2.1⟩)) hg hat)
           replace BK209 := Aside0.mk (blk_grown (bP BK209) hg (Kd.S_ne HO_213000.out BK209.out (by decide)))
           replace BK210 := Aside0.mk (blk_grown (bP BK210) hg (Kd.S_ne HO_213000.out BK210.out (by decide)))
           replace BK212 := Aside0.mk (blk_grown (bP BK212) hg (Kd.S_ne HO_213000.out BK212.out (by decide)))
           replace HB := Aside0.mk (hb)
           have HO242 := Aside0.mk (ho)
           clear HO_213000 HO239
           clear ho hb hg hat
           obtain ⟨Ao54, co54, eo54⟩ := Kd.S_slice HO242.out
           (first | subst eo54 | (injection eo54 with f1_ f2_ f3_; have f4_ := f1_.symm; have f5_ := f3_.symm; clear f1_ f2_ f3_; subst f4_; subst f5_))
           refine hK.out _ _ (bT3 BK212) (fun hHeld => ?_)
           clear hK K
           refine nO (some 72) ?_
           refine pI 6 (some 73) HT_.out ?_
           refine last_ (i := 7) (N := none) #[true, true, true, true, true, true, true, true] rfl rfl (one_of HT_.out (by kernel_rfl)) (by decide) (fun K hK => ?_)
           have hs55 : w52.cell? ⟨gb212, 0, none⟩ = some (u213000) := bc BK212 0
           have hfs55 := blk_frozen BK212.out 0
           have hns55_0 := NB209_212.out
           have hns55_1 := NB210_212.out
           have hms55_0 := NB212_209.out
           have hms55_1 := NB212_210.out
           refine skip_ (w1 := ?_) (by rfl) rfl ?_ ?_
           rotate_left
           ·go_simp
            rfl
           refine hK.out _ _ ?_
           clear hK K
           refine done_ (done_of HT_.out (by kernel_rfl)) ?_
           try go_wp2
           obtain ⟨w56, hW_⟩ : ∃ W_ : World, W_ = (w52.setCell ⟨gb212, 0, none⟩ (.slice Ao54 y240.length co54)) := ⟨_, rfl⟩
           have n0_ : Aside0 (Kd.R (Kd.int .i64) 3 (w52.setCell ⟨gb212, 0, none⟩ (.slice Ao54 y240.length co54)) w.heap.size (fun k_ => some k_ ≠ (u7 : Value).ownBlock ∧ some k_ ≠ (u8 : Value).ownBlock) (.slice Ao50 x6_2.length co50) x6_2) := ⟨by (with_reducible repeat (first | apply Kd.R_alloc | apply Kd.R_drewN | apply Kd.R_drew)); exact Kd.R_mono (Kd.R_far (p := ⟨gb212, 0, none⟩) (Kd.R_types HO_6.out BK212.out (by decide)) (fun _ hk => hk.2) (.slice Ao54 y240.length co54)) (fun _ hk => ⟨hk.1.1.1, hk.1.1.2⟩)⟩
           rw [← hW_] at n0_
           have n1_ : Aside0 (Kd.R (Kd.int .i64) 3 (w52.setCell ⟨gb212, 0, none⟩ (.slice Ao54 y240.length co54)) w.heap.size (fun k_ => some k_ ≠ (.slice Ao50 x6_2.length co50 : Value).ownBlock ∧ some k_ ≠ (u8 : Value).ownBlock) u7 x7_2) := ⟨by (with_reducible repeat (first | apply Kd.R_alloc | apply Kd.R_drewN | apply Kd.R_drew)); exact Kd.R_mono (Kd.R_far (p := ⟨gb212, 0, none⟩) (Kd.R_types HO_7.out BK212.out (by decide)) (fun _ hk => hk.2) (.slice Ao54 y240.length co54)) (fun _ hk => ⟨hk.1.1.1, hk.1.1.2⟩)⟩
           rw [← hW_] at n1_
           have n2_ : Aside0 (Kd.R (Kd.int .i64) 3 (w52.setCell ⟨gb212, 0, none⟩ (.slice Ao54 y240.length co54)) w.heap.size (fun k_ => some k_ ≠ (.slice Ao50 x6_2.length co50 : Value).ownBlock ∧ some k_ ≠ (u7 : Value).ownBlock) u8 x8_2) := ⟨by (with_reducible repeat (first | apply Kd.R_alloc | apply Kd.R_drewN | apply Kd.R_drew)); exact Kd.R_mono (Kd.R_far (p := ⟨gb212, 0, none⟩) (Kd.R_types HO_8.out BK212.out (by decide)) (fun _ hk => hk.2) (.slice Ao54 y240.length co54)) (fun _ hk => ⟨hk.1.1.1, hk.1.1.2⟩)⟩
           rw [← hW_] at n2_
           have n3_ : Aside0 (Kd.S (Kd.slice 3 (Kd.int .i64)) 22 (w52.setCell ⟨gb212, 0, none⟩ (.slice Ao54 y240.length co54)) w.heap.size (fun k_ => some k_ ≠ (.slice Ao50 x6_2.length co50 : Value).ownBlock ∧ some k_ ≠ (u7 : Value).ownBlock ∧ some k_ ≠ (u8 : Value).ownBlock ∧ some k_ ≠ (u213002 : Value).ownBlock ∧ some k_ ≠ (.slice Ao54 y240.length co54 : Value).ownBlock) u213001 x213001_1) := ⟨by (with_reducible repeat (first | apply Kd.S_alloc | apply Kd.S_drewN | apply Kd.S_drew)); exact Kd.S_mono (Kd.S_far (p := ⟨gb212, 0, none⟩) (Kd.S_types HO_213001.out BK212.out (by decide)) (fun _ hk => hk.2) (.slice Ao54 y240.length co54)) (fun _ hk => ⟨hk.1.1.1, ⟨hk.1.1.2.1, ⟨hk.1.1.2.2.1, ⟨hk.1.1.2.2.2.1, hk.1.2⟩⟩⟩⟩)⟩
           rw [← hW_] at n3_
           have n4_ : Aside0 (Kd.S (Kd.slice 3 (Kd.int .i64)) 22 (w52.setCell ⟨gb212, 0, none⟩ (.slice Ao54 y240.length co54)) w.heap.size (fun k_ => some k_ ≠ (.slice Ao50 x6_2.length co50 : Value).ownBlock ∧ some k_ ≠ (u7 : Value).ownBlock ∧ some k_ ≠ (u8 : Value).ownBlock ∧ some k_ ≠ (u213001 : Value).ownBlock ∧ some k_ ≠ (.slice Ao54 y240.length co54 : Value).ownBlock) u213002 x213002_1) := ⟨by (with_reducible repeat (first | apply Kd.S_alloc | apply Kd.S_drewN | apply Kd.S_drew)); exact Kd.S_mono (Kd.S_far (p := ⟨gb212, 0, none⟩) (Kd.S_types HO_213002.out BK212.out (by decide)) (fun _ hk => hk.2) (.slice Ao54 y240.length co54)) (fun _ hk => ⟨hk.1.1.1, ⟨hk.1.1.2.1, ⟨hk.1.1.2.2.1, ⟨hk.1.1.2.2.2.1, hk.1.2⟩⟩⟩⟩)⟩
           rw [← hW_] at n4_
           have n5_ : Aside0 (Kd.S (Kd.slice 3 (Kd.int .i64)) 22 (w52.setCell ⟨gb212, 0, none⟩ (.slice Ao54 y240.length co54)) w.heap.size (fun k_ => some k_ ≠ (.slice Ao50 x6_2.length co50 : Value).ownBlock ∧ some k_ ≠ (u7 : Value).ownBlock ∧ some k_ ≠ (u8 : Value).ownBlock ∧ some k_ ≠ (u213001 : Value).ownBlock ∧ some k_ ≠ (u213002 : Value).ownBlock) (.slice Ao54 y240.length co54) y240) := ⟨by (with_reducible repeat (first | apply Kd.S_alloc | apply Kd.S_drewN | apply Kd.S_drew)); exact Kd.S_mono (Kd.S_far (p := ⟨gb212, 0, none⟩) (Kd.S_types HO242.out BK212.out (by decide)) (fun _ hk => hk.2) (.slice Ao54 y240.length co54)) (fun _ hk => ⟨hk.1.1, ⟨hk.1.2.1, ⟨hk.1.2.2.1, ⟨hk.1.2.2.2.1, hk.1.2.2.2.2⟩⟩⟩⟩)⟩
           rw [← hW_] at n5_
           replace BK209 := bW hW_ BK209
           replace BK210 := bW hW_ BK210
           replace BK212 := bX hW_ 61 #[.slice Ao54 y240.length co54, u213001, u213002] BK212
           (try clear HO_6)
           (try clear HO_7)
           (try clear HO_8)
           (try clear HO_213001)
           (try clear HO_213002)
           (try clear HO242)
           have HO_6 := n0_
           clear n0_
           have HO_7 := n1_
           clear n1_
           have HO_8 := n2_
           clear n2_
           have HO_213001 := n3_
           clear n3_
           have HO_213002 := n4_
           clear n4_
           have HO242 := n5_
           clear n5_
           replace HB := zW hW_ HB
           rw [← hW_]
           clear hW_
           replace HO_6 := Aside0.mk (Kd.R_drew HO_6.out)
           replace HO_7 := Aside0.mk (Kd.R_drew HO_7.out)
           replace HO_8 := Aside0.mk (Kd.R_drew HO_8.out)
           replace HO_213001 := Aside0.mk (Kd.S_drew HO_213001.out)
           replace HO_213002 := Aside0.mk (Kd.S_drew HO_213002.out)
           replace HO242 := Aside0.mk (Kd.S_drew HO242.out)
           replace BK209 := Aside0.mk (blk_drew BK209.out)
           replace BK210 := Aside0.mk (blk_drew BK210.out)
           replace BK212 := Aside0.mk (blk_drew BK212.out)
           replace HB := Aside0.mk (below_drew1 HB.out)
           obtain ⟨Ao58, co58, eo58⟩ := Kd.R_slice HO_7.out
           (first | subst eo58 | (injection eo58 with f1_ f2_ f3_; have f4_ := f1_.symm; have f5_ := f3_.symm; clear f1_ f2_ f3_; subst f4_; subst f5_))
           refine start_ (n := 8) (S := fun w' => SQ3 w' gb212 (.slice Ao54 y240.length co54) (u213001) (u213002)) (ds := [7]) #[false, false, false, false, false, false, false, false] (by kernel_rfl) rfl rfl (bT3 BK212) (fun hHeld => ?_); refine with_tabW spec_QapOf.tab17 spec_QapOf.bits17 (fun HT_ HW_ => ?_)
           generalize w56.drew = w57 at HO_6 HO_7 HO_8 HO_213001 HO_213002 HO242 BK209 BK210 BK212 HB hHeld ⊢
           refine pI 0 (some 74) HT_.out ?_
           refine pI 2 (some 76) HT_.out ?_
           refine tI3 1 (some 75) HT_.out HW_.out hHeld ?_
           refine oI 3 (some 77) HT_.out (fun K hK => ?_)
           refine gO Try.func51 #[.slice Ao58 x7_2.length co58] ?_
           with_reducible refine (spec_PolyThrough.calls k2 _ _ x7_2 t243 _ ?side1 ?side2 A42.out).mono ?_
           (case side1 => exact cP ((Kd.R_reads' HO_7.out).2.2))
           (case side2 => exact (Kd.R_reads' HO_7.out).2.1)
           rintro e w59 ⟨v244, rfl, ho0, hb⟩
           refine ⟨_, rfl, ?_⟩
           replace HO_213001 := Aside0.mk (Kd.S_elder' (by (with_reducible repeat (first | apply Kd.S_alloc | apply Kd.S_drewN | apply Kd.S_drew)); exact HO_213001.out) (Kd.R_base ho0) hb)
           replace HO_213002 := Aside0.mk (Kd.S_elder' (by (with_reducible repeat (first | apply Kd.S_alloc | apply Kd.S_drewN | apply Kd.S_drew)); exact HO_213002.out) (Kd.R_base ho0) hb)
           replace HO242 := Aside0.mk (Kd.S_elder' (by (with_reducible repeat (first | apply Kd.S_alloc | apply Kd.S_drewN | apply Kd.S_drew)); exact HO242.out) (Kd.R_base ho0) hb)
           have HO245 := Aside0.mk (Kd.R_lower (Kd.R_new' (Kd.R_new' (Kd.R_new' ho0 (Kd.R_lt (rP HO_6))) (Kd.R_lt (rP HO_7))) (Kd.R_lt (rP HO_8))) (below_size (bZ HB)))
           replace HO_6 := Aside0.mk (Kd.R_elder' (rP HO_6) (Kd.R_base ho0) hb)
           replace HO_7 := Aside0.mk (Kd.R_elder' (rP HO_7) (Kd.R_base ho0) hb)
           replace HO_8 := Aside0.mk (Kd.R_elder' (rP HO_8) (Kd.R_base ho0) hb)
           replace BK209 := bB BK209 hb
           replace BK210 := bB BK210 hb
           replace BK212 := bB BK212 hb
           replace HB := bS HB hb
           (try clear hb)
           (try clear ho0)
           obtain ⟨Ao61, co61, eo61⟩ := Kd.R_slice HO245.out
           (first | subst eo61 | (injection eo61 with f1_ f2_ f3_; have f4_ := f1_.symm; have f5_ := f3_.symm; clear f1_ f2_ f3_; subst f4_; subst f5_))
           refine hK.out _ _ (bT3 BK212) (fun hHeld => ?_)
           clear hK K
           refine nO (some 77) ?_
           refine oI 4 (some 78) HT_.out (fun K hK => ?_)
           refine value_ (w1 := ?_) (v := ?_) (by rfl) rfl ?_ ?_
           rotate_left 2
           ·go_simp
            constructor
            ·rfl
            ·rfl
           refine hK.out _ _ ⟨(blk_cell (blk_alloc BK212.out _) 0).trans rfl, (blk_cell (blk_alloc BK212.out _) 1).trans rfl, (blk_cell (blk_alloc BK212.out _) 2).trans rfl⟩ (fun hHeld => ?_)
           clear hK K
           refine nO (some 78) ?_
           refine oI 5 (some 79) HT_.out (fun K hK => ?_)
           refine Kd.S_append_step (Kd.slice 3 (Kd.int .i64)) (w0 := w) w.heap.size (by rfl) (.tmp 75) (.tmp 78) 48 22 (.slice none 0 0) 24 rfl Try.underlying48 info22 rfl (by decide) (by omega) u213001 x213001_1 t243 [.slice Ao61 t243.length co61] (fun k_ => some k_ ≠ (.slice Ao50 x6_2.length co50 : Value).ownBlock ∧ some k_ ≠ (.slice Ao58 x7_2.length co58 : Value).ownBlock ∧ some k_ ≠ (u8 : Value).ownBlock ∧ some k_ ≠ (u213002 : Value).ownBlock ∧ some k_ ≠ (.slice Ao54 y240.length co54 : Value).ownBlock) (fun k_ => some k_ = (.slice Ao61 t243.length co61 : Value).ownBlock) rfl rfl ?aP (fun k_ hk_ => ((Kd.R_mono (ok' := fun k_ => ((fun k_ => some k_ ≠ (.slice Ao50 x6_2.length co50 : Value).ownBlock ∧ some k_ ≠ (.slice Ao58 x7_2.length co58 : Value).ownBlock ∧ some k_ ≠ (u8 : Value).ownBlock ∧ some k_ ≠ (u213002 : Value).ownBlock ∧ some k_ ≠ (.slice Ao54 y240.length co54 : Value).ownBlock)) k_ ∧ some k_ ≠ (u213001 : Value).ownBlock) (Kd.R_apart' (Kd.R_apart' (Kd.R_apart' (HO245.out) (Kd.S_typed HO_213002.out) (by decide)) (Kd.S_typed HO242.out) (by decide)) (Kd.S_typed HO_213001.out) (by decide)) (fun k_ hk => ⟨⟨hk.1.1.1.1.1.2, ⟨hk.1.1.1.1.2, ⟨hk.1.1.1.2, ⟨hk.1.1.2, hk.1.2⟩⟩⟩⟩, hk.2⟩))).1 k_ hk_.symm) ?aF ?aO ?aB ?aS ?aL ?_
           (case aP => exact Kd.M_row (Kd.R_mono (Kd.R_tight rfl (Kd.R_mono (ok' := fun k_ => ((fun k_ => some k_ ≠ (.slice Ao50 x6_2.length co50 : Value).ownBlock ∧ some k_ ≠ (.slice Ao58 x7_2.length co58 : Value).ownBlock ∧ some k_ ≠ (u8 : Value).ownBlock ∧ some k_ ≠ (u213002 : Value).ownBlock ∧ some k_ ≠ (.slice Ao54 y240.length co54 : Value).ownBlock)) k_ ∧ some k_ ≠ (u213001 : Value).ownBlock) (Kd.R_apart' (Kd.R_apart' (Kd.R_apart' (HO245.out) (Kd.S_typed HO_213002.out) (by decide)) (Kd.S_typed HO242.out) (by decide)) (Kd.S_typed HO_213001.out) (by decide)) (fun k_ hk => ⟨⟨hk.1.1.1.1.1.2, ⟨hk.1.1.1.1.2, ⟨hk.1.1.1.2, ⟨hk.1.1.2, hk.1.2⟩⟩⟩⟩, hk.2⟩))) (fun _ h_ => h_)))
           (case aB => exact (bZ HB))
           (case aF => exact (fun k_ hk => ⟨Kd.fresh' (Kd.R_lt (rP HO_6)) k_ hk, Kd.fresh' (Kd.R_lt (rP HO_7)) k_ hk, Kd.fresh' (Kd.R_lt (rP HO_8)) k_ hk, Kd.fresh' (Kd.S_lt (by (with_reducible repeat (first | apply Kd.S_alloc | apply Kd.S_drewN | apply Kd.S_drew)); exact HO_213002.out)) k_ hk, Kd.fresh' (Kd.S_lt (by (with_reducible repeat (first | apply Kd.S_alloc | apply Kd.S_drewN | apply Kd.S_drew)); exact HO242.out)) k_ hk⟩))
           (case aO => exact (by (with_reducible repeat (first | apply Kd.S_alloc | apply Kd.S_drewN | apply Kd.S_drew)); exact Kd.S_mono HO_213001.out (fun k_ hk => ⟨⟨hk.1.1, ⟨hk.1.2.1, ⟨hk.1.2.2.1, ⟨hk.1.2.2.2.1, hk.1.2.2.2.2⟩⟩⟩⟩, fun e_ => hk.2 e_⟩)))
           (case aS => exact (below_size (bZ HB)))
           (case aL => have := LMc43.out; omega)
           intro v247 w60 ho hb hg hat
           rw [← Ny246.out] at ho
           replace HO_6 := Aside0.mk (Kd.R_over' (rP HO_6) (Kd.S_typed (by (with_reducible repeat (first | apply Kd.S_alloc | apply Kd.S_drewN | apply Kd.S_drew)); exact HO_213001.out)) (by decide) hg)
           replace HO_7 := Aside0.mk (Kd.R_over' (rP HO_7) (Kd.S_typed (by (with_reducible repeat (first | apply Kd.S_alloc | apply Kd.S_drewN | apply Kd.S_drew)); exact HO_213001.out)) (by decide) hg)
           replace HO_8 := Aside0.mk (Kd.R_over' (rP HO_8) (Kd.S_typed (by (with_reducible repeat (first | apply Kd.S_alloc | apply Kd.S_drewN | apply Kd.S_drew)); exact HO_213001.out)) (by decide) hg)
           replace HO_213002 := Aside0.mk (Kd.S_after (ok := (fun k_ => some k_ ≠ (.slice Ao50 x6_2.length co50 : Value).ownBlock ∧ some k_ ≠ (.slice Ao58 x7_2.length co58 : Value).ownBlock ∧ some k_ ≠ (u8 : Value).ownBlock ∧ some k_ ≠ (.slice Ao54 y240.length co54 : Value).ownBlock ∧ some k_ ≠ (.slice Ao61 t243.length co61 : Value).ownBlock)) (by (with_reducible repeat (first | apply Kd.S_alloc | apply Kd.S_drewN | apply Kd.S_drew)); exact Kd.S_mono HO_213002.out (fun _ hk => ⟨⟨hk.1.1, ⟨hk.1.2.1, ⟨hk.1.2.2.1, ⟨hk.1.2.2.2.2, hk.2⟩⟩⟩⟩, hk.1.2.2.2.1⟩)) hg hat)
           replace BK209 := Aside0.mk (blk_grown (bP BK209) hg (Kd.S_ne HO_213001.out BK209.out (by decide)))
           replace BK210 := Aside0.mk (blk_grown (bP BK210) hg (Kd.S_ne HO_213001.out BK210.out (by decide)))
           replace BK212 := Aside0.mk (blk_grown (bP BK212) hg (Kd.S_ne HO_213001.out BK212.out (by decide)))
           replace HO242 := Aside0.mk (Kd.S_after (ok := (fun k_ => some k_ ≠ (.slice Ao50 x6_2.length co50 : Value).ownBlock ∧ some k_ ≠ (.slice Ao58 x7_2.length co58 : Value).ownBlock ∧ some k_ ≠ (u8 : Value).ownBlock ∧ some k_ ≠ (u213002 : Value).ownBlock ∧ some k_ ≠ (.slice Ao61 t243.length co61 : Value).ownBlock)) (by (with_reducible repeat (first | apply Kd.S_alloc | apply Kd.S_drewN | apply Kd.S_drew)); exact Kd.S_mono HO242.out (fun _ hk => ⟨⟨hk.1.1, ⟨hk.1.2.1, ⟨hk.1.2.2.1, ⟨hk.1.2.2.2.2, hk.2⟩⟩⟩⟩, hk.1.2.2.2.1⟩)) hg hat)
           replace HB := Aside0.mk (hb)
           have HO248 := Aside0.mk (ho)
           clear HO_213001 HO245
           clear ho hb hg hat
           obtain ⟨Ao62, co62, eo62⟩ := Kd.S_slice HO248.out
           (first | subst eo62 | (injection eo62 with f1_ f2_ f3_; have f4_ := f1_.symm; have f5_ := f3_.symm; clear f1_ f2_ f3_; subst f4_; subst f5_))
           refine hK.out _ _ (bT3 BK212) (fun hHeld => ?_)
           clear hK K
           refine nO (some 79) ?_
           refine pI 6 (some 80) HT_.out ?_
           refine last_ (i := 7) (N := none) #[true, true, true, true, true, true, true, true] rfl rfl (one_of HT_.out (by kernel_rfl)) (by decide) (fun K hK => ?_)
           have hs63 : w60.cell? ⟨gb212, 1, none⟩ = some (u213001) := bc BK212 1
           have hfs63 := blk_frozen BK212.out 1
           have hns63_0 := NB209_212.out
           have hns63_1 := NB210_212.out
           have hms63_0 := NB212_209.out
           have hms63_1 := NB212_210.out
           refine skip_ (w1 := ?_) (by rfl) rfl ?_ ?_
           rotate_left
           ·go_simp
            rfl
           refine hK.out _ _ ?_
           clear hK K
           refine done_ (done_of HT_.out (by kernel_rfl)) ?_
           try go_wp2
           obtain ⟨w64, hW_⟩ : ∃ W_ : World, W_ = (w60.setCell ⟨gb212, 1, none⟩ (.slice Ao62 y246.length co62)) := ⟨_, rfl⟩
           have n0_ : Aside0 (Kd.R (Kd.int .i64) 3 (w60.setCell ⟨gb212, 1, none⟩ (.slice Ao62 y246.length co62)) w.heap.size (fun k_ => some k_ ≠ (.slice Ao58 x7_2.length co58 : Value).ownBlock ∧ some k_ ≠ (u8 : Value).ownBlock) (.slice Ao50 x6_2.length co50) x6_2) := ⟨by (with_reducible repeat (first | apply Kd.R_alloc | apply Kd.R_drewN | apply Kd.R_drew)); exact Kd.R_mono (Kd.R_far (p := ⟨gb212, 1, none⟩) (Kd.R_types HO_6.out BK212.out (by decide)) (fun _ hk => hk.2) (.slice Ao62 y246.length co62)) (fun _ hk => ⟨hk.1.1.1, hk.1.1.2⟩)⟩
           rw [← hW_] at n0_
           have n1_ : Aside0 (Kd.R (Kd.int .i64) 3 (w60.setCell ⟨gb212, 1, none⟩ (.slice Ao62 y246.length co62)) w.heap.size (fun k_ => some k_ ≠ (.slice Ao50 x6_2.length co50 : Value).ownBlock ∧ some k_ ≠ (u8 : Value).ownBlock) (.slice Ao58 x7_2.length co58) x7_2) := ⟨by (with_reducible repeat (first | apply Kd.R_alloc | apply Kd.R_drewN | apply Kd.R_drew)); exact Kd.R_mono (Kd.R_far (p := ⟨gb212, 1, none⟩) (Kd.R_types HO_7.out BK212.out (by decide)) (fun _ hk => hk.2) (.slice Ao62 y246.length co62)) (fun _ hk => ⟨hk.1.1.1, hk.1.1.2⟩)⟩
           rw [← hW_] at n1_
           have n2_ : Aside0 (Kd.R (Kd.int .i64) 3 (w60.setCell ⟨gb212, 1, none⟩ (.slice Ao62 y246.length co62)) w.heap.size (fun k_ => some k_ ≠ (.slice Ao50 x6_2.length co50 : Value).ownBlock ∧ some k_ ≠ (.slice Ao58 x7_2.length co58 : Value).ownBlock) u8 x8_2) := ⟨by (with_reducible repeat (first | apply Kd.R_alloc | apply Kd.R_drewN | apply Kd.R_drew)); exact Kd.R_mono (Kd.R_far (p := ⟨gb212, 1, none⟩) (Kd.R_types HO_8.out BK212.out (by decide)) (fun _ hk => hk.2) (.slice Ao62 y246.length co62)) (fun _ hk => ⟨hk.1.1.1, hk.1.1.2⟩)⟩
           rw [← hW_] at n2_
           have n3_ : Aside0 (Kd.S (Kd.slice 3 (Kd.int .i64)) 22 (w60.setCell ⟨gb212, 1, none⟩ (.slice Ao62 y246.length co62)) w.heap.size (fun k_ => some k_ ≠ (.slice Ao50 x6_2.length co50 : Value).ownBlock ∧ some k_ ≠ (.slice Ao58 x7_2.length co58 : Value).ownBlock ∧ some k_ ≠ (u8 : Value).ownBlock ∧ some k_ ≠ (.slice Ao54 y240.length co54 : Value).ownBlock ∧ some k_ ≠ (.slice Ao62 y246.length co62 : Value).ownBlock) u213002 x213002_1) := ⟨by (with_reducible repeat (first | apply Kd.S_alloc | apply Kd.S_drewN | apply Kd.S_drew)); exact Kd.S_mono (Kd.S_far (p := ⟨gb212, 1, none⟩) (Kd.S_types HO_213002.out BK212.out (by decide)) (fun _ hk => hk.2) (.slice Ao62 y246.length co62)) (fun _ hk => ⟨hk.1.1.1, ⟨hk.1.1.2.1, ⟨hk.1.1.2.2.1, ⟨hk.1.1.2.2.2.1, hk.1.2⟩⟩⟩⟩)⟩
           rw [← hW_] at n3_
           have n4_ : Aside0 (Kd.S (Kd.slice 3 (Kd.int .i64)) 22 (w60.setCell ⟨gb212, 1, none⟩ (.slice Ao62 y246.length co62)) w.heap.size (fun k_ => some k_ ≠ (.slice Ao50 x6_2.length co50 : Value).ownBlock ∧ some k_ ≠ (.slice Ao58 x7_2.length co58 : Value).ownBlock ∧ some k_ ≠ (u8 : Value).ownBlock ∧ some k_ ≠ (u213002 : Value).ownBlock ∧ some k_ ≠ (.slice Ao62 y246.length co62 : Value).ownBlock) (.slice Ao54 y240.length co54) y240) := ⟨by (with_reducible repeat (first | apply Kd.S_alloc | apply Kd.S_drewN | apply Kd.S_drew)); exact Kd.S_mono (Kd.S_far (p := ⟨gb212, 1, none⟩) (Kd.S_types HO242.out BK212.out (by decide)) (fun _ hk => hk.2) (.slice Ao62 y246.length co62)) (fun _ hk => ⟨hk.1.1.1, ⟨hk.1.1.2.1, ⟨hk.1.1.2.2.1, ⟨hk.1.1.2.2.2.1, hk.1.2⟩⟩⟩⟩)⟩
           rw [← hW_] at n4_
           have n5_ : Aside0 (Kd.S (Kd.slice 3 (Kd.int .i64)) 22 (w60.setCell ⟨gb212, 1, none⟩ (.slice Ao62 y246.length co62)) w.heap.size (fun k_ => some k_ ≠ (.slice Ao50 x6_2.length co50 : Value).ownBlock ∧ some k_ ≠ (.slice Ao58 x7_2.length co58 : Value).ownBlock ∧ some k_ ≠ (u8 : Value).ownBlock ∧ some k_ ≠ (u213002 : Value).ownBlock ∧ some k_ ≠ (.slice Ao54 y240.length co54 : Value).ownBlock) (.slice Ao62 y246.length co62) y246) := ⟨by (with_reducible repeat (first | apply Kd.S_alloc | apply Kd.S_drewN | apply Kd.S_drew)); exact Kd.S_mono (Kd.S_far (p := ⟨gb212, 1, none⟩) (Kd.S_types HO248.out BK212.out (by decide)) (fun _ hk => hk.2) (.slice Ao62 y246.length co62)) (fun _ hk => ⟨hk.1.1, ⟨hk.1.2.1, ⟨hk.1.2.2.1, ⟨hk.1.2.2.2.1, hk.1.2.2.2.2⟩⟩⟩⟩)⟩
           rw [← hW_] at n5_
           replace BK209 := bW hW_ BK209
           replace BK210 := bW hW_ BK210
           replace BK212 := bX hW_ 61 #[.slice Ao54 y240.length co54, .slice Ao62 y246.length co62, u213002] BK212
           (try clear HO_6)
           (try clear HO_7)
           (try clear HO_8)
           (try clear HO_213002)
           (try clear HO242)
           (try clear HO248)
           have HO_6 := n0_
           clear n0_
           have HO_7 := n1_
           clear n1_
           have HO_8 := n2_
           clear n2_
           have HO_213002 := n3_
           clear n3_
           have HO242 := n4_
           clear n4_
           have HO248 := n5_
           clear n5_
           replace HB := zW hW_ HB
           rw [← hW_]
           clear hW_
           replace HO_6 := Aside0.mk (Kd.R_drew HO_6.out)
           replace HO_7 := Aside0.mk (Kd.R_drew HO_7.out)
           replace HO_8 := Aside0.mk (Kd.R_drew HO_8.out)
           replace HO_213002 := Aside0.mk (Kd.S_drew HO_213002.out)
           replace HO242 := Aside0.mk (Kd.S_drew HO242.out)
           replace HO248 := Aside0.mk (Kd.S_drew HO248.out)
           replace BK209 := Aside0.mk (blk_drew BK209.out)
           replace BK210 := Aside0.mk (blk_drew BK210.out)
           replace BK212 := Aside0.mk (blk_drew BK212.out)
           replace HB := Aside0.mk (below_drew1 HB.out)
           obtain ⟨Ao66, co66, eo66⟩ := Kd.R_slice HO_8.out
           (first | subst eo66 | (injection eo66 with f1_ f2_ f3_; have f4_ := f1_.symm; have f5_ := f3_.symm; clear f1_ f2_ f3_; subst f4_; subst f5_))
           refine start_ (n := 8) (S := fun w' => SQ3 w' gb212 (.slice Ao54 y240.length co54) (.slice Ao62 y246.length co62) (u213002)) (ds := [7]) #[false, false, false, false, false, false, false, false] (by kernel_rfl) rfl rfl (bT3 BK212) (fun hHeld => ?_); refine with_tabW spec_QapOf.tab18 spec_QapOf.bits18 (fun HT_ HW_ => ?_)
           generalize w64.drew = w65 at HO_6 HO_7 HO_8 HO_213002 HO242 HO248 BK209 BK210 BK212 HB hHeld ⊢
           refine pI 0 (some 81) HT_.out ?_
           refine pI 2 (some 83) HT_.out ?_
           refine tI3 1 (some 82) HT_.out HW_.out hHeld ?_
           refine oI 3 (some 84) HT_.out (fun K hK => ?_)
           refine gO Try.func51 #[.slice Ao66 x8_2.length co66] ?_
           with_reducible refine (spec_PolyThrough.calls k2 _ _ x8_2 t249 _ ?side1 ?side2 A44.out).mono ?_
           (case side1 => exact cP ((Kd.R_reads' HO_8.out).2.2))
           (case side2 => exact (Kd.R_reads' HO_8.out).2.1)
           rintro e w67 ⟨v250, rfl, ho0, hb⟩
           refine ⟨_, rfl, ?_⟩
           replace HO_213002 := Aside0.mk (Kd.S_elder' (by (with_reducible repeat (first | apply Kd.S_alloc | apply Kd.S_drewN | apply Kd.S_drew)); exact HO_213002.out) (Kd.R_base ho0) hb)
           replace HO242 := Aside0.mk (Kd.S_elder' (by (with_reducible repeat (first | apply Kd.S_alloc | apply Kd.S_drewN | apply Kd.S_drew)); exact HO242.out) (Kd.R_base ho0) hb)
           replace HO248 := Aside0.mk (Kd.S_elder' (by (with_reducible repeat (first | apply Kd.S_alloc | apply Kd.S_drewN | apply Kd.S_drew)); exact HO248.out) (Kd.R_base ho0) hb)
           have HO251 := Aside0.mk (Kd.R_lower (Kd.R_new' (Kd.R_new' (Kd.R_new' ho0 (Kd.R_lt (rP HO_6))) (Kd.R_lt (rP HO_7))) (Kd.R_lt (rP HO_8))) (below_size (bZ HB)))
           replace HO_6 := Aside0.mk (Kd.R_elder' (rP HO_6) (Kd.R_base ho0) hb)
           replace HO_7 := Aside0.mk (Kd.R_elder' (rP HO_7) (Kd.R_base ho0) hb)
           replace HO_8 := Aside0.mk (Kd.R_elder' (rP HO_8) (Kd.R_base ho0) hb)
           replace BK209 := bB BK209 hb
           replace BK210 := bB BK210 hb
           replace BK212 := bB BK212 hb
           replace HB := bS HB hb
           (try clear hb)
           (try clear ho0)
           obtain ⟨Ao69, co69, eo69⟩ := Kd.R_slice HO251.out
           (first | subst eo69 | (injection eo69 with f1_ f2_ f3_; have f4_ := f1_.symm; have f5_ := f3_.symm; clear f1_ f2_ f3_; subst f4_; subst f5_))
           refine hK.out _ _ (bT3 BK212) (fun hHeld => ?_)
           clear hK K
           refine nO (some 84) ?_
           refine oI 4 (some 85) HT_.out (fun K hK => ?_)
           refine value_ (w1 := ?_) (v := ?_) (by rfl) rfl ?_ ?_
           rotate_left 2
           ·go_simp
            constructor
            ·rfl
            ·rfl
           refine hK.out _ _ ⟨(blk_cell (blk_alloc BK212.out _) 0).trans rfl, (blk_cell (blk_alloc BK212.out _) 1).trans rfl, (blk_cell (blk_alloc BK212.out _) 2).trans rfl⟩ (fun hHeld => ?_)
           clear hK K
           refine nO (some 85) ?_
           refine oI 5 (some 86) HT_.out (fun K hK => ?_)
           refine Kd.S_append_step (Kd.slice 3 (Kd.int .i64)) (w0 := w) w.heap.size (by rfl) (.tmp 82) (.tmp 85) 48 22 (.slice none 0 0) 24 rfl Try.underlying48 info22 rfl (by decide) (by omega) u213002 x213002_1 t249 [.slice Ao69 t249.length co69] (fun k_ => some k_ ≠ (.slice Ao50 x6_2.length co50 : Value).ownBlock ∧ some k_ ≠ (.slice Ao58 x7_2.length co58 : Value).ownBlock ∧ some k_ ≠ (.slice Ao66 x8_2.length co66 : Value).ownBlock ∧ some k_ ≠ (.slice Ao54 y240.length co54 : Value).ownBlock ∧ some k_ ≠ (.slice Ao62 y246.length co62 : Value).ownBlock) (fun k_ => some k_ = (.slice Ao69 t249.length co69 : Value).ownBlock) rfl rfl ?aP (fun k_ hk_ => ((Kd.R_mono (ok' := fun k_ => ((fun k_ => some k_ ≠ (.slice Ao50 x6_2.length co50 : Value).ownBlock ∧ some k_ ≠ (.slice Ao58 x7_2.length co58 : Value).ownBlock ∧ some k_ ≠ (.slice Ao66 x8_2.length co66 : Value).ownBlock ∧ some k_ ≠ (.slice Ao54 y240.length co54 : Value).ownBlock ∧ some k_ ≠ (.slice Ao62 y246.length co62 : Value).ownBlock)) k_ ∧ some k_ ≠ (u213002 : Value).ownBlock) (Kd.R_apart' (Kd.R_apart' (Kd.R_apart' (HO251.out) (Kd.S_typed HO242.out) (by decide)) (Kd.S_typed HO248.out) (by decide)) (Kd.S_typed HO_213002.out) (by decide)) (fun k_ hk => ⟨⟨hk.1.1.1.1.1.2, ⟨hk.1.1.1.1.2, ⟨hk.1.1.1.2, ⟨hk.1.1.2, hk.1.2⟩⟩⟩⟩, hk.2⟩))).1 k_ hk_.symm) ?aF ?aO ?aB ?aS ?aL ?_
           (case aP => exact Kd.M_row (Kd.R_mono (Kd.R_tight rfl (Kd.R_mono (ok' := fun k_ => ((fun k_ => some k_ ≠ (.slice Ao50 x6_2.length co50 : Value).ownBlock ∧ some k_ ≠ (.slice Ao58 x7_2.length co58 : Value).ownBlock ∧ some k_ ≠ (.slice Ao66 x8_2.length co66 : Value).ownBlock ∧ some k_ ≠ (.slice Ao54 y240.length co54 : Value).ownBlock ∧ some k_ ≠ (.slice Ao62 y246.length co62 : Value).ownBlock)) k_ ∧ some k_ ≠ (u213002 : Value).ownBlock) (Kd.R_apart' (Kd.R_apart' (Kd.R_apart' (HO251.out) (Kd.S_typed HO242.out) (by decide)) (Kd.S_typed HO248.out) (by decide)) (Kd.S_typed HO_213002.out) (by decide)) (fun k_ hk => ⟨⟨hk.1.1.1.1.1.2, ⟨hk.1.1.1.1.2, ⟨hk.1.1.1.2, ⟨hk.1.1.2, hk.1.2⟩⟩⟩⟩, hk.2⟩))) (fun _ h_ => h_)))
           (case aB => exact (bZ HB))
           (case aF => exact (fun k_ hk => ⟨Kd.fresh' (Kd.R_lt (rP HO_6)) k_ hk, Kd.fresh' (Kd.R_lt (rP HO_7)) k_ hk, Kd.fresh' (Kd.R_lt (rP HO_8)) k_ hk, Kd.fresh' (Kd.S_lt (by (with_reducible repeat (first | apply Kd.S_alloc | apply Kd.S_drewN | apply Kd.S_drew)); exact HO242.out)) k_ hk, Kd.fresh' (Kd.S_lt (by (with_reducible repeat (first | apply Kd.S_alloc | apply Kd.S_drewN | apply Kd.S_drew)); exact HO248.out)) k_ hk⟩))
           (case aO => exact (by (with_reducible repeat (first | apply Kd.S_alloc | apply Kd.S_drewN | apply Kd.S_drew)); exact Kd.S_mono HO_213002.out (fun k_ hk => ⟨⟨hk.1.1, ⟨hk.1.2.1, ⟨hk.1.2.2.1, ⟨hk.1.2.2.2.1, hk.1.2.2.2.2⟩⟩⟩⟩, fun e_ => hk.2 e_⟩)))
           (case aS => exact (below_size (bZ HB)))
           (case aL => have := LMc45.out; omega)
           intro v253 w68 ho hb hg hat
           rw [← Ny252.out] at ho
           replace HO_6 := Aside0.mk (Kd.R_over' (rP HO_6) (Kd.S_typed (by (with_reducible repeat (first | apply Kd.S_alloc | apply Kd.S_drewN | apply Kd.S_drew)); exact HO_213002.out)) (by decide) hg)
           replace HO_7 := Aside0.mk (Kd.R_over' (rP HO_7) (Kd.S_typed (by (with_reducible repeat (first | apply Kd.S_alloc | apply Kd.S_drewN | apply Kd.S_drew)); exact HO_213002.out)) (by decide) hg)
           replace HO_8 := Aside0.mk (Kd.R_over' (rP HO_8) (Kd.S_typed (by (with_reducible repeat (first | apply Kd.S_alloc | apply Kd.S_drewN | apply Kd.S_drew)); exact HO_213002.out)) (by decide) hg)
           replace BK209 := Aside0.mk (blk_grown (bP BK209) hg (Kd.S_ne HO_213002.out BK209.out (by decide)))
           replace BK210 := Aside0.mk (blk_grown (bP BK210) hg (Kd.S_ne HO_213002.out BK210.out (by decide)))
           replace BK212 := Aside0.mk (blk_grown (bP BK212) hg (Kd.S_ne HO_213002.out BK212.out (by decide)))
           replace HO242 := Aside0.mk (Kd.S_after (ok := (fun k_ => some k_ ≠ (.slice Ao50 x6_2.length co50 : Value).ownBlock ∧ some k_ ≠ (.slice Ao58 x7_2.length co58 : Value).ownBlock ∧ some k_ ≠ (.slice Ao66 x8_2.length co66 : Value).ownBlock ∧ some k_ ≠ (.slice Ao62 y246.length co62 : Value).ownBlock ∧ some k_ ≠ (.slice Ao69 t249.length co69 : Value).ownBlock)) (by (with_reducible repeat (first | apply Kd.S_alloc | apply Kd.S_drewN | apply Kd.S_drew)); exact Kd.S_mono HO242.out (fun _ hk => ⟨⟨hk.1.1, ⟨hk.1.2.1, ⟨hk.1.2.2.1, ⟨hk.1.2.2.2.2, hk.2⟩⟩⟩⟩, hk.1.2.2.2.1⟩)) hg hat)
           replace HO248 := Aside0.mk (Kd.S_after (ok := (fun k_ => some k_ ≠ (.slice Ao50 x6_2.length co50 : Value).ownBlock ∧ some k_ ≠ (.slice Ao58 x7_2.length co58 : Value).ownBlock ∧ some k_ ≠ (.slice Ao66 x8_2.length co66 : Value).ownBlock ∧ some k_ ≠ (.slice Ao54 y240.length co54 : Value).ownBlock ∧ some k_ ≠ (.slice Ao69 t249.length co69 : Value).ownBlock)) (by (with_reducible repeat (first | apply Kd.S_alloc | apply Kd.S_drewN | apply Kd.S_drew)); exact Kd.S_mono HO248.out (fun _ hk => ⟨⟨hk.1.1, ⟨hk.1.2.1, ⟨hk.1.2.2.1, ⟨hk.1.2.2.2.2, hk.2⟩⟩⟩⟩, hk.1.2.2.2.1⟩)) hg hat)
           replace HB := Aside0.mk (hb)
           have HO254 := Aside0.mk (ho)
           clear HO_213002 HO251
           clear ho hb hg hat
           obtain ⟨Ao70, co70, eo70⟩ := Kd.S_slice HO254.out
           (first | subst eo70 | (injection eo70 with f1_ f2_ f3_; have f4_ := f1_.symm; have f5_ := f3_.symm; clear f1_ f2_ f3_; subst f4_; subst f5_))
           refine hK.out _ _ (bT3 BK212) (fun hHeld => ?_)
           clear hK K
           refine nO (some 86) ?_
           refine pI 6 (some 87) HT_.out ?_
           refine last_ (i := 7) (N := none) #[true, true, true, true, true, true, true, true] rfl rfl (one_of HT_.out (by kernel_rfl)) (by decide) (fun K hK => ?_)
           have hs71 : w68.cell? ⟨gb212, 2, none⟩ = some (u213002) := bc BK212 2
           have hfs71 := blk_frozen BK212.out 2
           have hns71_0 := NB209_212.out
           have hns71_1 := NB210_212.out
           have hms71_0 := NB212_209.out
           have hms71_1 := NB212_210.out
           refine skip_ (w1 := ?_) (by rfl) rfl ?_ ?_
           rotate_left
           ·go_simp
            rfl
           refine hK.out _ _ ?_
           clear hK K
           refine done_ (done_of HT_.out (by kernel_rfl)) ?_
           try go_wp2
           go_roundg k2
           case measure => have := HK1.out; have := HK2.out; omega
           case rel => exact ⟨(wrap64 (x5_1 + 1)), (y240), (y246), (y252), (.slice Ao54 y240.length co54), (.slice Ao62 y246.length co62), (.slice Ao70 y252.length co70), rS, H', ⟨by have := HK1.out; have := HK2.out; omega⟩, ⟨by (with_reducible repeat (first | apply Kd.S_alloc | apply Kd.S_drewN | apply Kd.S_drew)); exact Kd.S_mono (Kd.S_far (p := ⟨gb212, 2, none⟩) (Kd.S_types HO242.out BK212.out (by decide)) (fun _ hk => hk.2) (.slice Ao70 y252.length co70)) (fun _ hk => ⟨hk.1.1.2.2.2.1, hk.1.2⟩)⟩, ⟨by (with_reducible repeat (first | apply Kd.S_alloc | apply Kd.S_drewN | apply Kd.S_drew)); exact Kd.S_mono (Kd.S_far (p := ⟨gb212, 2, none⟩) (Kd.S_types HO248.out BK212.out (by decide)) (fun _ hk => hk.2) (.slice Ao70 y252.length co70)) (fun _ hk => ⟨hk.1.1.2.2.2.1, hk.1.2⟩)⟩, ⟨by (with_reducible repeat (first | apply Kd.S_alloc | apply Kd.S_drewN | apply Kd.S_drew)); exact Kd.S_mono (Kd.S_far (p := ⟨gb212, 2, none⟩) (Kd.S_types HO254.out BK212.out (by decide)) (fun _ hk => hk.2) (.slice Ao70 y252.length co70)) (fun _ hk => ⟨hk.1.2.2.2.1, hk.1.2.2.2.2⟩)⟩, ⟨bP BK209⟩, ⟨bP BK210⟩, ⟨bU BK212⟩, ⟨bZ HB⟩⟩
          ·rw [if_neg c45] at H
           exact absurd H (by simp)
         ·rw [if_neg c43] at H
          exact absurd H (by simp)
        ·rw [if_neg c41] at H
         exact absurd H (by simp)
    ·rw [if_neg c13] at H
     have c13b0 := decide_eq_false c13
     clear c13
     simp only [Option.some.injEq, Prod.mk.injEq] at H
     obtain ⟨rfl, rfl, rfl, rfl⟩ := H
     obtain ⟨hnb72, hnc72⟩ := nB NB209_210
     obtain ⟨hnb73, hnc73⟩ := nB NB209_212
     obtain ⟨hcz74_0, hcz74_1, hcz74_2, hfz74_0, hfz74_1, hfz74_2⟩ := bK3 (w := wr) BK209
     obtain ⟨hnb75, hnc75⟩ := nB NB212_210
     obtain ⟨hcz76_0, hcz76_1, hcz76_2, hfz76_0, hfz76_1, hfz76_2⟩ := bK3 (w := wr) BK212
     obtain ⟨Ao77, co77, eo77⟩ := Kd.S_slice HO_213000.out
     subst eo77
     obtain ⟨hcz78_0, hcz78_1, hcz78_2, hfz78_0, hfz78_1, hfz78_2⟩ := bK3 (w := wr) BK210
     obtain ⟨Ao79, co79, eo79⟩ := Kd.S_slice HO_213001.out
     subst eo79
     obtain ⟨Ao80, co80, eo80⟩ := Kd.S_slice HO_213002.out
     subst eo80
     go_wp2
     refine bodyPost_ret (results_ct rfl _ _ gb210 61 #[.slice Ao77 x213000_1.length co77, .slice Ao79 x213001_1.length co79, .slice Ao80 x213002_1.length co80] (0, 0) _ rfl (bU BK210) Try.underlying61 rfl (by kernel_rfl)) rfl ?_
     exact ⟨_, _, _, by first | rfl | (simp [errW_none, errW_some] <;> rfl) | (simp [*, errW_none, errW_some] <;> rfl), by (with_reducible repeat (first | apply Kd.S_alloc | apply Kd.S_drewN | apply Kd.S_drew)); exact Kd.S_mono (Kd.S_far (p := ⟨gb210, 2, none⟩) (Kd.S_far (p := ⟨gb210, 1, none⟩) (Kd.S_far (p := ⟨gb210, 0, none⟩) (Kd.S_types HO_213000.out BK210.out (by decide)) (fun _ hk => hk.2) (.slice Ao77 x213000_1.length co77)) (fun _ hk => hk.2) (.slice Ao79 x213001_1.length co79)) (fun _ hk => hk.2) (.slice Ao80 x213002_1.length co80)) (fun _ hk => ⟨hk.1.1, hk.1.2⟩), by (with_reducible repeat (first | apply Kd.S_alloc | apply Kd.S_drewN | apply Kd.S_drew)); exact Kd.S_mono (Kd.S_far (p := ⟨gb210, 2, none⟩) (Kd.S_far (p := ⟨gb210, 1, none⟩) (Kd.S_far (p := ⟨gb210, 0, none⟩) (Kd.S_types HO_213001.out BK210.out (by decide)) (fun _ hk => hk.2) (.slice Ao77 x213000_1.length co77)) (fun _ hk => hk.2) (.slice Ao79 x213001_1.length co79)) (fun _ hk => hk.2) (.slice Ao80 x213002_1.length co80)) (fun _ hk => ⟨hk.1.1, hk.1.2⟩), by (with_reducible repeat (first | apply Kd.S_alloc | apply Kd.S_drewN | apply Kd.S_drew)); exact Kd.S_mono (Kd.S_far (p := ⟨gb210, 2, none⟩) (Kd.S_far (p := ⟨gb210, 1, none⟩) (Kd.S_far (p := ⟨gb210, 0, none⟩) (Kd.S_types HO_213002.out BK210.out (by decide)) (fun _ hk => hk.2) (.slice Ao77 x213000_1.length co77)) (fun _ hk => hk.2) (.slice Ao79 x213001_1.length co79)) (fun _ hk => hk.2) (.slice Ao80 x213002_1.length co80)) (fun _ hk => ⟨hk.1.1, hk.1.2⟩), bZ HB⟩
 ·replace c3 := Bool.eq_false_iff.mpr c3
  subst c3
  rw [if_neg (show ¬ (false = true) by decide)] at H
  simp only [Option.some.injEq, Prod.mk.injEq] at H
  obtain ⟨rfl, rfl, rfl, rfl⟩ := H
  go_enter Try.func55, Try.ntmps55
  go_wp2_with (first | (refine gB 1 #[.int .i64 a0_0, .int .i64 a0_1, .slice A0_2 l0_2.length c0_2] 32 ?_; intro gb209 hg w81 BK209 hb; have GW209 := bG HB hg; replace HB := bS HB hb; clear hb hg) | (refine gB 2 #[.slice none 0 0, .slice none 0 0, .slice none 0 0] 61 ?_; intro gb210 hg w82 BK210 hb; have GW210 := bG HB hg; replace HB := bS HB hb; obtain ⟨NB209_210, NB210_209⟩ := bN BK209 hg; replace BK209 := bB BK209 hb; clear hb hg; obtain ⟨hnb83, hnc83⟩ := nB NB209_210; obtain ⟨hcz84_0, hcz84_1, hcz84_2, hfz84_0, hfz84_1, hfz84_2⟩ := bK3 (w := w82) BK209) | (refine gC (some 11) Try.func81 #[.agg #[.int .i64 a0_0, .int .i64 a0_1, .slice A0_2 l0_2.length c0_2]] ?_; (with_reducible refine (spec_SystemOk.calls k a0_0 a0_1 _ _ l0_2 false _ ?side1 ?side2 A2.out).mono ?_); (case side1 => exact cP (Kd.C_below HR0_2.out HB.out)); (case side2 => exact HC0_2.out); rintro e w85 ⟨rfl, hb⟩; refine ⟨_, rfl, ?_⟩; replace BK209 := bB BK209 hb; replace BK210 := bB BK210 hb; replace HB := bS HB hb; (try clear hb); obtain ⟨hcz86_0, hcz86_1, hcz86_2, hfz86_0, hfz86_1, hfz86_2⟩ := bK3 (w := w85) BK210))
  refine bodyPost_ret (results_ct rfl _ _ gb210 61 #[.slice none 0 0, .slice none 0 0, .slice none 0 0] (0, 0) _ rfl (bU BK210) Try.underlying61 rfl (by kernel_rfl)) rfl ?_
  exact ⟨_, _, _, by first | rfl | (simp [errW_none, errW_some] <;> rfl) | (simp [*, errW_none, errW_some] <;> rfl), by first | exact Kd.S_nil _ _ _ _ _ | exact Kd.N_nil _ _ _ _ _ | exact Kd.V_nil _ _ _ _ _ | exact Kd.Q_nil _ _ _ _ _ | exact Kd.R_nil _ _ _ _ _, by first | exact Kd.S_nil _ _ _ _ _ | exact Kd.N_nil _ _ _ _ _ | exact Kd.V_nil _ _ _ _ _ | exact Kd.Q_nil _ _ _ _ _ | exact Kd.R_nil _ _ _ _ _, by first | exact Kd.S_nil _ _ _ _ _ | exact Kd.N_nil _ _ _ _ _ | exact Kd.V_nil _ _ _ _ _ | exact Kd.Q_nil _ _ _ _ _ | exact Kd.R_nil _ _ _ _ _, bZ HB⟩

end Go.Proofs.Ytcnejiflpioaiaa.Pf
end
section
namespace Go.Proofs.Ytcnejiflpioaiaa.Pf
open Go.RowKit Go.Proofs.YtcnejiflpioaiaaW.PrintWords Go.Proofs.YtcnejiflpioaiaaW.PrintLast Go.Proofs.YtcnejiflpioaiaaW.PrintMore
attribute [local go_sem] max2_int min2_int max_two min_two max_three min_three max_four min_four   -- for this text's walks alone
set_option linter.unusedVariables false
set_option linter.unusedSimpArgs false
/-! ### laws_toIntS: function 16 -/
def laws_toIntS.l0 : Nat → List Int → List Int → Int → Option (List Int)
 | 0, _, _, _ => none
 | k + 1, x0, x3, x4 => if x4 < (x0.length : Int) then (if 0 ≤ x4 then (if x4 < (x3.length : Int) then (laws_toIntS.l0 k x0 (x3.set (x4 : Int).toNat (rd x0 x4)) (wrap64 (x4 + 1))) else (none)) else (none)) else (some x3)
def laws_toIntS.f (k : Nat) (l0 : List Int) : Option (List Int) := if 0 ≤ (l0.length : Int) then (if ((l0.length : Int) : Int).toNat ≤ 35184372088832 then (laws_toIntS.l0 k l0 (List.replicate ((l0.length : Int) : Int).toNat 0) 0) else (none)) else (none)
theorem laws_toIntS.mono_l : ∀ k, (∀ y0 y1 y2, LeO (laws_toIntS.l0 k y0 y1 y2) (laws_toIntS.l0 (k + 1) y0 y1 y2))
 | 0 => fun _ _ _ r h => by simp [laws_toIntS.l0] at h
 | k + 1 => by
  have ih0 := laws_toIntS.mono_l k
  ·intro y0 y1 y2
   unfold laws_toIntS.l0
   with_reducible repeat' first | exact ih0 _ _ _ | exact LeO.refl _ | exact LeO.none _ | refine LeO.ite ?_ ?_ | refine LeO.bind ?_ (fun _ => ?_)
theorem laws_toIntS.mono : ∀ a0 k, LeO (laws_toIntS.f k a0) (laws_toIntS.f (k + 1) a0) := by
 intro a0 k
 have ih0 := laws_toIntS.mono_l k
 unfold laws_toIntS.f
 with_reducible repeat' first | exact ih0 _ _ _ | exact LeO.refl _ | exact LeO.none _ | refine LeO.ite ?_ ?_ | refine LeO.bind ?_ (fun _ => ?_)
set_option maxHeartbeats 8000000 in
set_option maxRecDepth 100000 in
theorem laws_toIntS.calls (k : Nat) (A0 : Option Addr) (c0 : Nat) (l0 : List Int) (r : List Int) (w : World) (hr0 : Kd.C (Kd.int .i64) w A0 l0.length l0) (hc0 : l0.length ≤ c0) (h : laws_toIntS.f k l0 = some r) :
  Calls Try.prog 16 #[.slice A0 l0.length c0] w fun e w' => ∃ v0_ : Value, e = .returned (v0_) ∧ Kd.R (Kd.int .i64) 3 w' w.heap.size (fun _ => True) v0_ r ∧ Below w.heap.size w w' := by
 have HR0 := Aside0.mk hr0
 have HC0 := Aside0.mk hc0
 clear hr0 hc0
 have HB := Aside0.mk (Below.refl w.heap.size w)
 have H : (if 0 ≤ (l0.length : Int) then (if ((l0.length : Int) : Int).toNat ≤ 35184372088832 then (laws_toIntS.l0 k l0 (List.replicate ((l0.length : Int) : Int).toNat 0) 0) else (none)) else (none)) = some r := h
 clear h
 by_cases c2 : 0 ≤ (l0.length : Int)
 ·rw [if_pos c2] at H
  have c2b0 := eq_true c2
  have c2b1 := decide_eq_true c2
  clear c2
  by_cases c3 : ((l0.length : Int) : Int).toNat ≤ 35184372088832
  ·rw [if_pos c3] at H
   have c3b0 := eq_true c3
   have c3b1 := decide_eq_true c3
   clear c3
   obtain ⟨y255, hy255⟩ : ∃ y_ : List Int, y_ = (List.replicate ((l0.length : Int) : Int).toNat 0) := ⟨_, rfl⟩
   replace H : (laws_toIntS.l0 k l0 y255 0) = some r := by first | (rw [hy255]; with_reducible exact H) | (have H2_ := (Option.bind_some _ _).symm.trans H; rw [hy255]; with_reducible exact H2_) | (have H2_ := (Option.bind_some _ _).symm.trans H; with_reducible exact H2_) | with_reducible exact H | (rw [hy255]; exact H) | exact H
   have Ny255 := Aside0.mk hy255
   clear hy255
   have H' := Aside0.mk H
   clear H
   go_enter Try.func16, Try.ntmps16
   go_wp2_with (first | ((with_reducible refine gate_dst (N := 7) rfl ?_); refine Kd.R_make (Kd.int .i64) _ 3 rfl (N := 7) rfl 22 _ _ rfl (l0.length : Int) rfl rfl Try.underlying22 (.int .i64 0) 8 info3 rfl (by decide) (by omega) 0 (ok := fun _ => True) (okp := fun _ => True) rfl (fun _ hk => hk) trivial (of_decide_eq_true (by first | (with_reducible assumption) | assumption)) (Nat.le_trans (Nat.mul_le_mul_right _ (of_decide_eq_true (by first | (with_reducible assumption) | assumption) : (l0.length : Int).toNat ≤ 35184372088832)) (by omega)) (Below.refl _ _) (Nat.le_refl _) ?_; intro v256 w4 ho5 hb hg_ hnew_; clear hg_ hnew_; (first | rw [← Ny255.out] at ho5 | (simp only [Int.reduceToNat] at ho5; rw [← Ny255.out] at ho5)); have HO257 := Aside0.mk (Kd.R_lower ho5 (below_size (bZ HB))); replace HB := bS HB hb; clear hb ho5))
   go_loopg [4] k (fun kq v4 w' => ∃ (x3_1 : List Int) (x4_1 : Int), v4 = .int .i64 x4_1 ∧ Aside0 (laws_toIntS.l0 kq l0 x3_1 x4_1 = some r) ∧ Aside0 (kq ≤ k) ∧ Aside0 (Kd.R (Kd.int .i64) 3 w' w.heap.size (fun _ => True) v256 x3_1) ∧ Aside0 (Below w.heap.size w w'))
   case atStart => exact ⟨(y255), (0), rS, H', ⟨Nat.le_refl _⟩, ⟨rP HO257⟩, ⟨bZ HB⟩⟩
   case round =>
    clear H'
    try clear c1
    try clear c2
    try clear c2b0
    try clear c2b1
    try clear p2
    try clear c3
    try clear c3b0
    try clear c3b1
    obtain ⟨x3_1, x4_1, rfl, HA, HK1, HO_3, HB⟩ := hrel
    cases gk with
    | zero => exact absurd HA.out (by simp [laws_toIntS.l0])
    | succ k1 =>
     have H := HA.out
     clear HA
     simp only [laws_toIntS.l0] at H
     by_cases c6 : x4_1 < (l0.length : Int)
     ·rw [if_pos c6] at H
      have c6b0 := decide_eq_true c6
      clear c6
      by_cases c7 : 0 ≤ x4_1
      ·rw [if_pos c7] at H
       have c7b0 := decide_eq_true c7
       clear c7
       by_cases c8 : x4_1 < (x3_1.length : Int)
       ·rw [if_pos c8] at H
        have c8b0 := decide_eq_true c8
        clear c8
        obtain ⟨y259, hy259⟩ : ∃ y_ : List Int, y_ = (x3_1.set (x4_1 : Int).toNat (rd l0 x4_1)) := ⟨_, rfl⟩
        replace H : (laws_toIntS.l0 k1 l0 y259 (wrap64 (x4_1 + 1))) = some r := by first | (rw [hy259]; with_reducible exact H) | (have H2_ := (Option.bind_some _ _).symm.trans H; rw [hy259]; with_reducible exact H2_) | (have H2_ := (Option.bind_some _ _).symm.trans H; with_reducible exact H2_) | with_reducible exact H | (rw [hy259]; exact H) | exact H
        have Ny259 := Aside0.mk hy259
        clear hy259
        have H' := Aside0.mk H
        clear H
        have p258 : 0 ≤ (x4_1 : Int) := of_decide_eq_true (by first | (with_reducible assumption) | assumption)
        have q258 : x4_1 < (l0.length : Int) := of_decide_eq_true (by first | (with_reducible assumption) | assumption)
        obtain ⟨ad258, e258, hx258_0⟩ := Kd.at_int HR0.out x4_1 p258 q258
        cases e258
        replace hx258_0 := (hC HB hx258_0 :)
        replace p258 := eq_true p258
        replace q258 := eq_true q258
        have p9 : 0 ≤ (x4_1 : Int) := of_decide_eq_true (by first | (with_reducible assumption) | assumption)
        have q9 : (x4_1 : Int) < ((x3_1.length : Int) : Int) := of_decide_eq_true (by first | (with_reducible assumption) | assumption)
        obtain ⟨go9, co9, eo9, gb9, gl9, cl9, HG9⟩ := Kd.R_form HO_3.out (by omega)
        (first | cases eo9 | (injection eo9 with ea_ en_ ec_; (first | subst ea_ | (injection ea_ with ea_; subst ea_)); subst ec_; clear en_))
        have GB9 := Aside0.mk gb9
        have GG9 := Aside0.mk HG9
        clear gb9 gl9 HG9
        obtain ⟨hx9_0, hf9_0⟩ := Kd.R_celln 0 HO_3.out (x4_1 : Int) p9 q9
        replace p9 := eq_true p9
        replace q9 := eq_true q9
        have HP10 := Kd.R_putg HO_3.out (x4_1 : Int) (rd l0 x4_1)
        go_wp2_with (first | ((with_reducible refine gate_store (t := 3) (p := 20) rfl ?_); refine store_event (t := 3) (p := 20) (v := ?vo_w11) (w1 := (wr.setCell ⟨go9, (x4_1 : Int).toNat, none⟩ (.int .i64 (rd l0 x4_1)))) ?hg ?ho ?hn ?hr ?_; (case ho => rfl); (case hg => rfl); (case hn => rfl); (case hr => first | (go_simp; done) | (go_simp; rfl)); intro w11 hw; have hg : wr.grownBy w11 (some go9) := (by rw [hw]; exact HP10.2); have hp_ : Kd.R (Kd.int .i64) 3 w11 w.heap.size (fun _ => True) (.slice (some ⟨go9, 0, none⟩) x3_1.length co9) y259 := (by rw [hw, Ny259.out]; exact HP10.1); clear HP10; replace HO_3 := Aside0.mk (hp_); replace HB := Aside0.mk ((by rw [hw]; exact below_set (HB.out) GB9.out : Below w.heap.size w w11)); clear hg hw hp_))
        go_roundg k1
        case measure => have := HK1.out; omega
        case rel => exact ⟨(y259), (wrap64 (x4_1 + 1)), rS, H', ⟨by have := HK1.out; omega⟩, ⟨rP HO_3⟩, ⟨bZ HB⟩⟩
       ·rw [if_neg c8] at H
        exact absurd H (by simp)
      ·rw [if_neg c7] at H
       exact absurd H (by simp)
     ·rw [if_neg c6] at H
      have c6b0 := decide_eq_false c6
      clear c6
      obtain rfl := Option.some.inj H
      go_wp2
      go_ret
      exact ⟨_, by first | rfl | (simp [errW_none, errW_some] <;> rfl) | (simp [*, errW_none, errW_some] <;> rfl), by (with_reducible repeat (first | apply Kd.R_alloc | apply Kd.R_drewN | apply Kd.R_drew)); exact HO_3.out, bZ HB⟩
  ·rw [if_neg c3] at H
   exact absurd H (by simp)
 ·rw [if_neg c2] at H
  exact absurd H (by simp)
/-! ### laws_toRow: function 96 -/
def laws_toRow.f (k : Nat) (l0_0 : List Int) (l0_1 : List Int) (l0_2 : List Int) : Option (List Int × List Int × List Int) := (laws_toIntS.f k l0_0).bind fun t263 => ((laws_toIntS.f k l0_1).bind fun t266 => ((laws_toIntS.f k l0_2).bind fun t269 => (some (t263, t266, t269))))
theorem laws_toRow.mono : ∀ a0 a1 a2 k, LeO (laws_toRow.f k a0 a1 a2) (laws_toRow.f (k + 1) a0 a1 a2) := by
 intro a0 a1 a2 k
 unfold laws_toRow.f
 with_reducible repeat' first | exact laws_toIntS.mono _ _ | exact LeO.refl _ | exact LeO.none _ | refine LeO.ite ?_ ?_ | refine LeO.bind ?_ (fun _ => ?_)
set_option maxHeartbeats 8000000 in
set_option maxRecDepth 100000 in
theorem laws_toRow.calls (k : Nat) (A0_0 : Option Addr) (c0_0 : Nat) (l0_0 : List Int) (A0_1 : Option Addr) (c0_1 : Nat) (l0_1 : List Int) (A0_2 : Option Addr) (c0_2 : Nat) (l0_2 : List Int) (r1 : List Int) (r2 : List Int) (r3 : List Int) (w : World) (hr0_0 : Kd.C (Kd.int .i64) w A0_0 l0_0.length l0_0) (hc0_0 : l0_0.length ≤ c0_0) (hr0_1 : Kd.C (Kd.int .i64) w A0_1 l0_1.length l0_1) (hc0_1 : l0_1.length ≤ c0_1) (hr0_2 : Kd.C (Kd.int .i64) w A0_2 l0_2.length l0_2) (hc0_2 : l0_2.length ≤ c0_2) (h : laws_toRow.f k l0_0 l0_1 l0_2 = some (r1, r2, r3)) :
  Calls Try.prog 96 #[.agg #[.slice A0_0 l0_0.length c0_0, .slice A0_1 l0_1.length c0_1, .slice A0_2 l0_2.length c0_2]] w fun e w' => ∃ v0_ v1_ v2_ : Value, e = .returned (.agg #[v0_, v1_, v2_]) ∧ Kd.R (Kd.int .i64) 3 w' w.heap.size (fun k_ => some k_ ≠ (v1_ : Value).ownBlock ∧ some k_ ≠ (v2_ : Value).ownBlock) v0_ r1 ∧ Kd.R (Kd.int .i64) 3 w' w.heap.size (fun k_ => some k_ ≠ (v0_ : Value).ownBlock ∧ some k_ ≠ (v2_ : Value).ownBlock) v1_ r2 ∧ Kd.R (Kd.int .i64) 3 w' w.heap.size (fun k_ => some k_ ≠ (v0_ : Value).ownBlock ∧ some k_ ≠ (v1_ : Value).ownBlock) v2_ r3 ∧ Below w.heap.size w w' := by
 have hu92 := Try.underlying92
 have hu40 := Try.underlying40
 have HR0_0 := Aside0.mk hr0_0
 have HC0_0 := Aside0.mk hc0_0
 clear hr0_0 hc0_0
 have HR0_1 := Aside0.mk hr0_1
 have HC0_1 := Aside0.mk hc0_1
 clear hr0_1 hc0_1
 have HR0_2 := Aside0.mk hr0_2
 have HC0_2 := Aside0.mk hc0_2
 clear hr0_2 hc0_2
 have HB := Aside0.mk (Below.refl w.heap.size w)
 have H : ((laws_toIntS.f k l0_0).bind fun t263 => ((laws_toIntS.f k l0_1).bind fun t266 => ((laws_toIntS.f k l0_2).bind fun t269 => (some (t263, t266, t269))))) = some (r1, r2, r3) := h
 clear h
 replace H := Option.bind_eq_some_iff.mp H
 obtain ⟨t263, A20, H⟩ := H
 have A2 := Aside0.mk A20
 clear A20
 replace H := Option.bind_eq_some_iff.mp H
 obtain ⟨t266, A30, H⟩ := H
 have A3 := Aside0.mk A30
 clear A30
 replace H := Option.bind_eq_some_iff.mp H
 obtain ⟨t269, A40, H⟩ := H
 have A4 := Aside0.mk A40
 clear A40
 simp only [Option.some.injEq, Prod.mk.injEq] at H
 obtain ⟨rfl, rfl, rfl⟩ := H
 go_enter Try.func96, Try.ntmps96
 go_wp2_with (first | (refine gB 1 #[.slice A0_0 l0_0.length c0_0, .slice A0_1 l0_1.length c0_1, .slice A0_2 l0_2.length c0_2] 92 ?_; intro gb260 hg w5 BK260 hb; have GW260 := bG HB hg; replace HB := bS HB hb; clear hb hg) | (refine gB 2 #[.slice none 0 0, .slice none 0 0, .slice none 0 0] 40 ?_; intro gb261 hg w6 BK261 hb; have GW261 := bG HB hg; replace HB := bS HB hb; obtain ⟨NB260_261, NB261_260⟩ := bN BK260 hg; replace BK260 := bB BK260 hb; clear hb hg) | (refine gB 3 #[.slice none 0 0, .slice none 0 0, .slice none 0 0] 40 ?_; intro gb262 hg w7 BK262 hb; have GW262 := bG HB hg; replace HB := bS HB hb; obtain ⟨NB260_262, NB262_260⟩ := bN BK260 hg; replace BK260 := bB BK260 hb; obtain ⟨NB261_262, NB262_261⟩ := bN BK261 hg; replace BK261 := bB BK261 hb; clear hb hg; obtain ⟨hnb8, hnc8⟩ := nB NB260_261; obtain ⟨hnb9, hnc9⟩ := nB NB260_262; obtain ⟨hcz10_0, hcz10_1, hcz10_2, hfz10_0, hfz10_1, hfz10_2⟩ := bK3 (w := w7) BK260) | (refine gC (some 6) Try.func16 #[.slice A0_0 l0_0.length c0_0] ?_; (with_reducible refine (laws_toIntS.calls k _ _ l0_0 t263 _ ?side1 ?side2 A2.out).mono ?_); (case side1 => exact cP (Kd.C_below HR0_0.out HB.out)); (case side2 => exact HC0_0.out); rintro e w11 ⟨v264, rfl, ho0, hb⟩; refine ⟨_, rfl, ?_⟩; have HO265 := Aside0.mk (Kd.R_lower ho0 (below_size (bZ HB))); replace BK260 := bB BK260 hb; replace BK261 := bB BK261 hb; replace BK262 := bB BK262 hb; replace HB := bS HB hb; (try clear hb); (try clear ho0); obtain ⟨Ao12, co12, eo12⟩ := Kd.R_slice HO265.out; subst eo12; obtain ⟨hnb13, hnc13⟩ := nB NB262_261; obtain ⟨hcz14_0, hcz14_1, hcz14_2, hfz14_0, hfz14_1, hfz14_2⟩ := bK3 (w := w11) BK262; obtain ⟨hcz15_0, hcz15_1, hcz15_2, hfz15_0, hfz15_1, hfz15_2⟩ := bK3 (w := w11) BK260) | (refine gC (some 10) Try.func16 #[.slice A0_1 l0_1.length c0_1] ?_; (with_reducible refine (laws_toIntS.calls k _ _ l0_1 t266 _ ?side1 ?side2 A3.out).mono ?_); (case side1 => exact Kd.C_below HR0_1.out (bZ HB)); (case side2 => exact HC0_1.out); rintro e w16 ⟨v267, rfl, ho0, hb⟩; refine ⟨_, rfl, ?_⟩; have HO268 := Aside0.mk (Kd.R_lower (Kd.R_new' ho0 (Kd.R_lt (by (with_reducible repeat (first | apply Kd.R_alloc | apply Kd.R_drewN | apply Kd.R_drew)); exact (Kd.R_mono (Kd.R_far (p := ⟨gb262, 0, none⟩) (Kd.R_types HO265.out BK262.out (by decide)) (fun _ hk => hk.2) (.slice Ao12 t263.length co12)) (fun _ h_ => h_.1))))) (below_size (bZ HB))); replace HO265 := Aside0.mk (Kd.R_elder' (by (with_reducible repeat (first | apply Kd.R_alloc | apply Kd.R_drewN | apply Kd.R_drew)); exact (Kd.R_mono (Kd.R_far (p := ⟨gb262, 0, none⟩) (Kd.R_types HO265.out BK262.out (by decide)) (fun _ hk => hk.2) (.slice Ao12 t263.length co12)) (fun _ h_ => h_.1))) (Kd.R_base ho0) hb); replace BK260 := bB BK260 hb; replace BK261 := bB BK261 hb; replace BK262 := bV 40 #[.slice Ao12 t263.length co12, .slice none 0 0, .slice none 0 0] BK262 hb; replace HB := bS HB hb; (try clear hb); (try clear ho0); obtain ⟨Ao17, co17, eo17⟩ := Kd.R_slice HO268.out; subst eo17; obtain ⟨hcz18_0, hcz18_1, hcz18_2, hfz18_0, hfz18_1, hfz18_2⟩ := bK3 (w := w16) BK262; obtain ⟨hcz19_0, hcz19_1, hcz19_2, hfz19_0, hfz19_1, hfz19_2⟩ := bK3 (w := w16) BK260) | (refine gC (some 14) Try.func16 #[.slice A0_2 l0_2.length c0_2] ?_; (with_reducible refine (laws_toIntS.calls k _ _ l0_2 t269 _ ?side1 ?side2 A4.out).mono ?_); (case side1 => exact Kd.C_below HR0_2.out (bZ HB)); (case side2 => exact HC0_2.out); rintro e w20 ⟨v270, rfl, ho0, hb⟩; refine ⟨_, rfl, ?_⟩; have HO271 := Aside0.mk (Kd.R_lower (Kd.R_new' (Kd.R_new' ho0 (Kd.R_lt (by (with_reducible repeat (first | apply Kd.R_alloc | apply Kd.R_drewN | apply Kd.R_drew)); exact (Kd.R_mono (Kd.R_far (p := ⟨gb262, 1, none⟩) (Kd.R_types HO265.out BK262.out (by decide)) (fun _ hk => hk.2) (.slice Ao17 t266.length co17)) (fun _ h_ => h_.1))))) (Kd.R_lt (by (with_reducible repeat (first | apply Kd.R_alloc | apply Kd.R_drewN | apply Kd.R_drew)); exact (Kd.R_mono (Kd.R_far (p := ⟨gb262, 1, none⟩) (Kd.R_types HO268.out BK262.out (by decide)) (fun _ hk => hk.2) (.slice Ao17 t266.length co17)) (fun _ h_ => h_.1))))) (below_size (bZ HB))); replace HO265 := Aside0.mk (Kd.R_elder' (by (with_reducible repeat (first | apply Kd.R_alloc | apply Kd.R_drewN | apply Kd.R_drew)); exact (Kd.R_mono (Kd.R_far (p := ⟨gb262, 1, none⟩) (Kd.R_types HO265.out BK262.out (by decide)) (fun _ hk => hk.2) (.slice Ao17 t266.length co17)) (fun _ h_ => h_.1))) (Kd.R_base ho0) hb); replace HO268 := Aside0.mk (Kd.R_elder' (by (with_reducible repeat (first | apply Kd.R_alloc | apply Kd.R_drewN | apply Kd.R_drew)); exact (Kd.R_mono (Kd.R_far (p := ⟨gb262, 1, none⟩) (Kd.R_types HO268.out BK262.out (by decide)) (fun _ hk => hk.2) (.slice Ao17 t266.length co17)) (fun _ h_ => h_.1))) (Kd.R_base ho0) hb); replace BK260 := bB BK260 hb; replace BK261 := bB BK261 hb; replace BK262 := bV 40 #[.slice Ao12 t263.length co12, .slice Ao17 t266.length co17, .slice none 0 0] BK262 hb; replace HB := bS HB hb; (try clear hb); (try clear ho0); obtain ⟨Ao21, co21, eo21⟩ := Kd.R_slice HO271.out; subst eo21; obtain ⟨hcz22_0, hcz22_1, hcz22_2, hfz22_0, hfz22_1, hfz22_2⟩ := bK3 (w := w20) BK262; obtain ⟨hcz23_0, hcz23_1, hcz23_2, hfz23_0, hfz23_1, hfz23_2⟩ := bK3 (w := w20) BK261))
 refine rC gb261 40 #[.slice Ao12 t263.length co12, .slice Ao17 t266.length co17, .slice Ao21 t269.length co21] (bU BK261) Try.underlying40 ?_
 exact ⟨_, _, _, by first | rfl | (simp [errW_none, errW_some] <;> rfl) | (simp [*, errW_none, errW_some] <;> rfl), by (with_reducible repeat (first | apply Kd.R_alloc | apply Kd.R_drewN | apply Kd.R_drew)); exact Kd.R_mono (Kd.R_far (p := ⟨gb261, 2, none⟩) (Kd.R_far (p := ⟨gb261, 1, none⟩) (Kd.R_far (p := ⟨gb261, 0, none⟩) (Kd.R_far (p := ⟨gb262, 2, none⟩) (Kd.R_types (Kd.R_types HO265.out BK262.out (by decide)) BK261.out (by decide)) (fun _ hk => hk.1.2) (.slice Ao21 t269.length co21)) (fun _ hk => hk.2) (.slice Ao12 t263.length co12)) (fun _ hk => hk.2) (.slice Ao17 t266.length co17)) (fun _ hk => hk.2) (.slice Ao21 t269.length co21)) (fun _ hk => ⟨hk.1.1.1.2, hk.1.1.2⟩), by (with_reducible repeat (first | apply Kd.R_alloc | apply Kd.R_drewN | apply Kd.R_drew)); exact Kd.R_mono (Kd.R_far (p := ⟨gb261, 2, none⟩) (Kd.R_far (p := ⟨gb261, 1, none⟩) (Kd.R_far (p := ⟨gb261, 0, none⟩) (Kd.R_far (p := ⟨gb262, 2, none⟩) (Kd.R_types (Kd.R_types HO268.out BK262.out (by decide)) BK261.out (by decide)) (fun _ hk => hk.1.2) (.slice Ao21 t269.length co21)) (fun _ hk => hk.2) (.slice Ao12 t263.length co12)) (fun _ hk => hk.2) (.slice Ao17 t266.length co17)) (fun _ hk => hk.2) (.slice Ao21 t269.length co21)) (fun _ hk => ⟨hk.1.1.1.2, hk.1.1.2⟩), by (with_reducible repeat (first | apply Kd.R_alloc | apply Kd.R_drewN | apply Kd.R_drew)); exact Kd.R_mono (Kd.R_far (p := ⟨gb261, 2, none⟩) (Kd.R_far (p := ⟨gb261, 1, none⟩) (Kd.R_far (p := ⟨gb261, 0, none⟩) (Kd.R_far (p := ⟨gb262, 2, none⟩) (Kd.R_types (Kd.R_types HO271.out BK262.out (by decide)) BK261.out (by decide)) (fun _ hk => hk.1.2) (.slice Ao21 t269.length co21)) (fun _ hk => hk.2) (.slice Ao12 t263.length co12)) (fun _ hk => hk.2) (.slice Ao17 t266.length co17)) (fun _ hk => hk.2) (.slice Ao21 t269.length co21)) (fun _ hk => ⟨hk.1.1.1.2, hk.1.1.2⟩), bZ HB⟩
/-! ### laws_toRowS: function 82 -/
def laws_toRowS.l0 : Nat → List (S92) → List (S40) → Int → Option ((List (S40)))
 | 0, _, _, _ => none
 | k + 1, x0, x3, x4 => if x4 < (x0.length : Int) then (if 0 ≤ x4 then ((laws_toRow.f k ((rd_T92 x0 x4).f0) ((rd_T92 x0 x4).f1) ((rd_T92 x0 x4).f2)).bind fun bt276 => (if x4 < (x3.length : Int) then (laws_toRowS.l0 k x0 (x3.set (x4 : Int).toNat (⟨bt276.1, bt276.2.1, bt276.2.2⟩ : S40)) (wrap64 (x4 + 1))) else (none))) else (none)) else (some x3)
def laws_toRowS.f (k : Nat) (l0 : List (S92)) : Option ((List (S40))) := if 0 ≤ (l0.length : Int) then (if ((l0.length : Int) : Int).toNat ≤ 3909374676536 then (laws_toRowS.l0 k l0 (List.replicate ((l0.length : Int) : Int).toNat z40) 0) else (none)) else (none)
theorem laws_toRowS.mono_l : ∀ k, (∀ y0 y1 y2, LeO (laws_toRowS.l0 k y0 y1 y2) (laws_toRowS.l0 (k + 1) y0 y1 y2))
 | 0 => fun _ _ _ r h => by simp [laws_toRowS.l0] at h
 | k + 1 => by
  have ih0 := laws_toRowS.mono_l k
  ·intro y0 y1 y2
   unfold laws_toRowS.l0
   with_reducible repeat' first | exact ih0 _ _ _ | exact laws_toRow.mono _ _ _ _ | exact LeO.refl _ | exact LeO.none _ | refine LeO.ite ?_ ?_ | refine LeO.bind ?_ (fun _ => ?_)
theorem laws_toRowS.mono : ∀ a0 k, LeO (laws_toRowS.f k a0) (laws_toRowS.f (k + 1) a0) := by
 intro a0 k
 have ih0 := laws_toRowS.mono_l k
 unfold laws_toRowS.f
 with_reducible repeat' first | exact ih0 _ _ _ | exact laws_toRow.mono _ _ _ _ | exact LeO.refl _ | exact LeO.none _ | refine LeO.ite ?_ ?_ | refine LeO.bind ?_ (fun _ => ?_)
set_option maxHeartbeats 8000000 in
set_option maxRecDepth 100000 in
theorem laws_toRowS.calls (k : Nat) (A0 : Option Addr) (c0 : Nat) (l0 : List (S92)) (r : List (S40)) (w : World) (hr0 : Kd.C k92 w A0 l0.length l0) (hc0 : l0.length ≤ c0) (h : laws_toRowS.f k l0 = some r) :
  Calls Try.prog 82 #[.slice A0 l0.length c0] w fun e w' => ∃ v0_ : Value, e = .returned (v0_) ∧ Kd.S k40 40 w' w.heap.size (fun _ => True) v0_ r ∧ Below w.heap.size w w' := by
 have hu92 := Try.underlying92
 have hu40 := Try.underlying40
 have HR0 := Aside0.mk hr0
 have HC0 := Aside0.mk hc0
 clear hr0 hc0
 have HB := Aside0.mk (Below.refl w.heap.size w)
 have H : (if 0 ≤ (l0.length : Int) then (if ((l0.length : Int) : Int).toNat ≤ 3909374676536 then (laws_toRowS.l0 k l0 (List.replicate ((l0.length : Int) : Int).toNat z40) 0) else (none)) else (none)) = some r := h
 clear h
 by_cases c2 : 0 ≤ (l0.length : Int)
 ·rw [if_pos c2] at H
  have c2b0 := eq_true c2
  have c2b1 := decide_eq_true c2
  clear c2
  by_cases c3 : ((l0.length : Int) : Int).toNat ≤ 3909374676536
  ·rw [if_pos c3] at H
   have c3b0 := eq_true c3
   have c3b1 := decide_eq_true c3
   clear c3
   obtain ⟨y272, hy272⟩ : ∃ y_ : List (S40), y_ = (List.replicate ((l0.length : Int) : Int).toNat z40) := ⟨_, rfl⟩
   replace H : (laws_toRowS.l0 k l0 y272 0) = some r := by first | (rw [hy272]; with_reducible exact H) | (have H2_ := (Option.bind_some _ _).symm.trans H; rw [hy272]; with_reducible exact H2_) | (have H2_ := (Option.bind_some _ _).symm.trans H; with_reducible exact H2_) | with_reducible exact H | (rw [hy272]; exact H) | exact H
   have Ny272 := Aside0.mk hy272
   clear hy272
   have H' := Aside0.mk H
   clear H
   go_enter Try.func82, Try.ntmps82
   go_wp2_with (first | ((with_reducible refine gate_dst (N := 7) rfl ?_); refine Kd.S_make k40 _ 40 rfl (N := 7) rfl 30 _ _ rfl (l0.length : Int) rfl rfl Try.underlying30 (.agg #[(.slice none 0 0), (.slice none 0 0), (.slice none 0 0)]) 72 info40 rfl (by decide) (by omega) z40 (ok := fun _ => True) (okp := fun _ => True) (k40_mkM _ _ _ z40 (Kd.R_nil _ _ _ _ _) (Kd.R_nil _ _ _ _ _) (Kd.R_nil _ _ _ _ _) (fun k_ e_ => by simp [Value.ownBlock] at e_) (fun k_ e_ => by simp [Value.ownBlock] at e_) (fun k_ e_ => by simp [Value.ownBlock] at e_)) (fun _ hk => hk) trivial (of_decide_eq_true (by first | (with_reducible assumption) | assumption)) (Nat.le_trans (Nat.mul_le_mul_right _ (of_decide_eq_true (by first | (with_reducible assumption) | assumption) : (l0.length : Int).toNat ≤ 3909374676536)) (by omega)) (Below.refl _ _) (Nat.le_refl _) ?_; intro v273 w4 ho5 hb hg_ hnew_; clear hg_ hnew_; (first | rw [← Ny272.out] at ho5 | (simp only [Int.reduceToNat] at ho5; rw [← Ny272.out] at ho5)); have HO274 := Aside0.mk (Kd.S_lower ho5 (below_size (bZ HB))); replace HB := bS HB hb; clear hb ho5))
   go_loopg [4] k (fun kq v4 w' => ∃ (x3_1 : List (S40)) (x4_1 : Int), v4 = .int .i64 x4_1 ∧ Aside0 (laws_toRowS.l0 kq l0 x3_1 x4_1 = some r) ∧ Aside0 (kq ≤ k) ∧ Aside0 (Kd.S k40 40 w' w.heap.size (fun _ => True) v273 x3_1) ∧ Aside0 (Below w.heap.size w w'))
   case atStart => exact ⟨(y272), (0), rS, H', ⟨Nat.le_refl _⟩, ⟨by (with_reducible repeat (first | apply Kd.S_alloc | apply Kd.S_drewN | apply Kd.S_drew)); exact HO274.out⟩, ⟨bZ HB⟩⟩
   case round =>
    clear H'
    try clear c2
    try clear c2b0
    try clear c2b1
    try clear p2
    try clear c3
    try clear c3b0
    try clear c3b1
    obtain ⟨x3_1, x4_1, rfl, HA, HK1, HO_3, HB⟩ := hrel
    cases gk with
    | zero => exact absurd HA.out (by simp [laws_toRowS.l0])
    | succ k1 =>
     have H := HA.out
     clear HA
     simp only [laws_toRowS.l0] at H
     by_cases c6 : x4_1 < (l0.length : Int)
     ·rw [if_pos c6] at H
      have c6b0 := decide_eq_true c6
      clear c6
      by_cases c7 : 0 ≤ x4_1
      ·rw [if_pos c7] at H
       have c7b0 := decide_eq_true c7
       clear c7
       replace H := Option.bind_eq_some_iff.mp H
       obtain ⟨⟨t276, t279, t282⟩, A80, H⟩ := H
       have A8 := Aside0.mk A80
       clear A80
       by_cases c9 : x4_1 < (x3_1.length : Int)
       ·rw [if_pos c9] at H
        have c9b0 := decide_eq_true c9
        clear c9
        obtain ⟨y285, hy285⟩ : ∃ y_ : List (S40), y_ = (x3_1.set (x4_1 : Int).toNat (⟨t276, t279, t282⟩ : S40)) := ⟨_, rfl⟩
        replace H : (laws_toRowS.l0 k1 l0 y285 (wrap64 (x4_1 + 1))) = some r := by first | (rw [hy285]; with_reducible exact H) | (have H2_ := (Option.bind_some _ _).symm.trans H; rw [hy285]; with_reducible exact H2_) | (have H2_ := (Option.bind_some _ _).symm.trans H; with_reducible exact H2_) | with_reducible exact H | (rw [hy285]; exact H) | exact H
        have Ny285 := Aside0.mk hy285
        clear hy285
        have H' := Aside0.mk H
        clear H
        have p275 : 0 ≤ (x4_1 : Int) := of_decide_eq_true (by first | (with_reducible assumption) | assumption)
        have q275 : x4_1 < (l0.length : Int) := of_decide_eq_true (by first | (with_reducible assumption) | assumption)
        obtain ⟨ad275, A275_0, c275_0, A275_1, c275_1, A275_2, c275_2, e275, hx275_0, hx275_1, hx275_2, hl275_0, hi275_0, hl275_1, hi275_1, hl275_2, hi275_2⟩ := at_T92 HR0.out x4_1 p275 q275
        cases e275
        replace hx275_0 := (hC HB hx275_0 :)
        replace hx275_1 := (hC HB hx275_1 :)
        replace hx275_2 := (hC HB hx275_2 :)
        have HR275_0 := Aside0.mk hi275_0
        have HC275_0 := Aside0.mk hl275_0
        clear hi275_0 hl275_0
        have HR275_1 := Aside0.mk hi275_1
        have HC275_1 := Aside0.mk hl275_1
        clear hi275_1 hl275_1
        have HR275_2 := Aside0.mk hi275_2
        have HC275_2 := Aside0.mk hl275_2
        clear hi275_2 hl275_2
        replace p275 := eq_true p275
        replace q275 := eq_true q275
        go_wp2_with (first | (refine gC (some 20) Try.func96 #[.agg #[.slice A275_0 ((rd_T92 l0 x4_1).f0).length c275_0, .slice A275_1 ((rd_T92 l0 x4_1).f1).length c275_1, .slice A275_2 ((rd_T92 l0 x4_1).f2).length c275_2]] ?_; (with_reducible refine (laws_toRow.calls k1 _ _ ((rd_T92 l0 x4_1).f0) _ _ ((rd_T92 l0 x4_1).f1) _ _ ((rd_T92 l0 x4_1).f2) t276 t279 t282 _ ?side1 ?side2 ?side3 ?side4 ?side5 ?side6 A8.out).mono ?_); (case side1 => exact cP (Kd.C_below HR275_0.out HB.out)); (case side2 => exact HC275_0.out); (case side3 => exact cP (Kd.C_below HR275_1.out HB.out)); (case side4 => exact HC275_1.out); (case side5 => exact cP (Kd.C_below HR275_2.out HB.out)); (case side6 => exact HC275_2.out); rintro e w11 ⟨v277, v280, v283, rfl, ho0, ho1, ho2, hb⟩; refine ⟨_, rfl, ?_⟩; replace HO_3 := Aside0.mk (Kd.S_mono (Kd.S_told (Kd.S_told (Kd.S_told (Kd.S_old (by (with_reducible repeat (first | apply Kd.S_alloc | apply Kd.S_drewN | apply Kd.S_drew)); exact HO_3.out) hb) (Kd.R_base ho0)) (Kd.R_base ho1)) (Kd.R_base ho2)) (fun _ h_ => h_.1)); have HO278 := Aside0.mk (Kd.R_lower ho0 (below_size (bZ HB))); have HO281 := Aside0.mk (Kd.R_lower ho1 (below_size (bZ HB))); have HO284 := Aside0.mk (Kd.R_lower ho2 (below_size (bZ HB))); replace HB := bS HB hb; (try clear hb); (try clear ho0); (try clear ho1); (try clear ho2); have p10 : 0 ≤ (x4_1 : Int) := of_decide_eq_true (by first | (with_reducible assumption) | assumption); have q10 : (x4_1 : Int) < ((x3_1.length : Int) : Int) := of_decide_eq_true (by first | (with_reducible assumption) | assumption); obtain ⟨go10, co10, eo10, gb10, gl10, cl10, HG10⟩ := Kd.S_form HO_3.out (by omega); (first | cases eo10 | (injection eo10 with ea_ en_ ec_; (first | subst ea_ | (injection ea_ with ea_; subst ea_)); subst ec_; clear en_)); have GB10 := Aside0.mk gb10; have GG10 := Aside0.mk HG10; clear gb10 gl10 HG10; obtain ⟨_, ce10, hcl10, hM10, hcc10, hfr10, _, _⟩ := Kd.S_elem HO_3.out z40 (x4_1 : Int) p10 q10; obtain ⟨ve10_0, ve10_1, ve10_2, rfl, ge10_0, ge10_1, ge10_2⟩ := k40_openM hM10; have hx10_0 : w11.cell? ⟨go10, (x4_1 : Int).toNat * 3, none⟩ = some (ve10_0) := hcc10 0 _ rfl; have hx10_1 : w11.cell? ⟨go10, (x4_1 : Int).toNat * 3 + 1, none⟩ = some (ve10_1) := hcc10 1 _ rfl; have hx10_2 : w11.cell? ⟨go10, (x4_1 : Int).toNat * 3 + 2, none⟩ = some (ve10_2) := hcc10 2 _ rfl; have hf10_0 : w11.frozen? ⟨go10, (x4_1 : Int).toNat * 3, none⟩ = false := hfr10 0; have hf10_1 : w11.frozen? ⟨go10, (x4_1 : Int).toNat * 3 + 1, none⟩ = false := hfr10 1; have hf10_2 : w11.frozen? ⟨go10, (x4_1 : Int).toNat * 3 + 2, none⟩ = false := hfr10 2; clear hcl10 hcc10 hfr10; (try clear hM10); replace p10 := eq_true p10; replace q10 := eq_true q10; have n_ := Aside0.mk (Kd.S_mono (ok' := (fun k_ => some k_ ≠ (v277 : Value).ownBlock ∧ some k_ ≠ (v280 : Value).ownBlock ∧ some k_ ≠ (v283 : Value).ownBlock)) HO_3.out (fun k_ hk => ⟨hk.1.1.2, ⟨hk.1.2, hk.2⟩⟩)); clear HO_3; have HO_3 := n_; clear n_; have HX12 := Aside0.mk (show Kd.S k40 40 w11 w.heap.size (fun k_ => ((fun _ => True)) k_ ∧ ¬ ((fun k_ => some k_ = (v277 : Value).ownBlock ∨ some k_ = (v280 : Value).ownBlock ∨ some k_ = (v283 : Value).ownBlock)) k_) (.slice (some ⟨go10, 0, none⟩) x3_1.length co10) x3_1 from (by (with_reducible repeat (first | apply Kd.S_alloc | apply Kd.S_drewN | apply Kd.S_drew)); exact Kd.S_mono HO_3.out (fun k_ hk => ⟨trivial, fun e_ => e_.elim (fun h_ => hk.1 h_) (fun h_ => h_.elim (fun h_ => hk.2.1 h_) (fun h_ => hk.2.2 h_))⟩))); obtain ⟨oki12, ce12, hcl12, hM12, hcc12, hfr12, hoki12, hH12⟩ := Kd.S_elem HX12.out z40 (x4_1 : Int) (of_decide_eq_true (by first | (with_reducible assumption) | assumption)) (by have h_ : (x4_1 : Int) < ((x3_1.length : Int) : Int) := of_decide_eq_true (by first | (with_reducible assumption) | assumption); first | exact h_ | (have e_ := (Kd.S_reads' HO_3.out).1; omega) | simpa using h_); obtain ⟨ve12_0, ve12_1, ve12_2, rfl, ge12_0, ge12_1, ge12_2⟩ := k40_openM hM12; have HP12 := Kd.S_seg hH12 (of_decide_eq_true (by first | (with_reducible assumption) | assumption)) (by have h_ : (x4_1 : Int) < ((x3_1.length : Int) : Int) := of_decide_eq_true (by first | (with_reducible assumption) | assumption); first | exact h_ | (have e_ := (Kd.S_reads' HO_3.out).1; omega) | simpa using h_) (seg := [v277, v280, v283]) (j := 0) (show 3 ≤ 3 from by decide) (x' := (⟨t276, t279, t282⟩ : S40)) (k40_mkM _ _ _ (⟨t276, t279, t282⟩ : S40) (Kd.R_mono (Kd.R_tight rfl (Kd.R_mono (ok' := fun k_ => ((fun _ => True)) k_ ∧ k_ ≠ go10) (Kd.R_apart' (HO278.out) (Kd.S_typed HO_3.out) (by decide)) (fun k_ hk => ⟨trivial, fun e_ => (hk.2) (by rw [e_]; rfl)⟩))) (fun _ h_ => Or.inr (Or.inl h_))) (Kd.R_mono (Kd.R_tight rfl (Kd.R_mono (ok' := fun k_ => ((fun _ => True)) k_ ∧ k_ ≠ go10) (Kd.R_apart' (HO281.out) (Kd.S_typed HO_3.out) (by decide)) (fun k_ hk => ⟨trivial, fun e_ => (hk.2) (by rw [e_]; rfl)⟩))) (fun _ h_ => Or.inr (Or.inr (Or.inl h_)))) (Kd.R_mono (Kd.R_tight rfl (Kd.R_mono (ok' := fun k_ => ((fun _ => True)) k_ ∧ k_ ≠ go10) (Kd.R_apart' (HO284.out) (Kd.S_typed HO_3.out) (by decide)) (fun k_ hk => ⟨trivial, fun e_ => (hk.2) (by rw [e_]; rfl)⟩))) (fun _ h_ => Or.inr (Or.inr (Or.inr (h_))))) (fun k_ e_ e2_ => by first | (have h_ := HO278.out.1 k_ e_; first | exact h_ e2_.symm | exact h_.1 e2_.symm | exact h_.2 e2_.symm | exact h_.1.1 e2_.symm | exact h_.2.1 e2_.symm | exact h_.1.2 e2_.symm | exact h_.2.2 e2_.symm | exact h_.1.1.1 e2_.symm | exact h_.2.1.1 e2_.symm | exact h_.1.2.1 e2_.symm | exact h_.2.2.1 e2_.symm | exact h_.1.1.2 e2_.symm | exact h_.2.1.2 e2_.symm | exact h_.1.2.2 e2_.symm | exact h_.2.2.2 e2_.symm | exact h_.1.1.1.1 e2_.symm | exact h_.2.1.1.1 e2_.symm | exact h_.1.2.1.1 e2_.symm | exact h_.2.2.1.1 e2_.symm | exact h_.1.1.2.1 e2_.symm | exact h_.2.1.2.1 e2_.symm | exact h_.1.2.2.1 e2_.symm | exact h_.2.2.2.1 e2_.symm | exact h_.1.1.1.2 e2_.symm | exact h_.2.1.1.2 e2_.symm | exact h_.1.2.1.2 e2_.symm | exact h_.2.2.1.2 e2_.symm | exact h_.1.1.2.2 e2_.symm | exact h_.2.1.2.2 e2_.symm | exact h_.1.2.2.2 e2_.symm | exact h_.2.2.2.2 e2_.symm | exact h_.1.1.1.1.1 e2_.symm | exact h_.2.1.1.1.1 e2_.symm | exact h_.1.2.1.1.1 e2_.symm | exact h_.2.2.1.1.1 e2_.symm | exact h_.1.1.2.1.1 e2_.symm | exact h_.2.1.2.1.1 e2_.symm | exact h_.1.2.2.1.1 e2_.symm | exact h_.2.2.2.1.1 e2_.symm | exact h_.1.1.1.2.1 e2_.symm | exact h_.2.1.1.2.1 e2_.symm | exact h_.1.2.1.2.1 e2_.symm | exact h_.2.2.1.2.1 e2_.symm | exact h_.1.1.2.2.1 e2_.symm | exact h_.2.1.2.2.1 e2_.symm | exact h_.1.2.2.2.1 e2_.symm | exact h_.2.2.2.2.1 e2_.symm | exact h_.1.1.1.1.2 e2_.symm | exact h_.2.1.1.1.2 e2_.symm | exact h_.1.2.1.1.2 e2_.symm | exact h_.2.2.1.1.2 e2_.symm | exact h_.1.1.2.1.2 e2_.symm | exact h_.2.1.2.1.2 e2_.symm | exact h_.1.2.2.1.2 e2_.symm | exact h_.2.2.2.1.2 e2_.symm | exact h_.1.1.1.2.2 e2_.symm | exact h_.2.1.1.2.2 e2_.symm | exact h_.1.2.1.2.2 e2_.symm | exact h_.2.2.1.2.2 e2_.symm | exact h_.1.1.2.2.2 e2_.symm | exact h_.2.1.2.2.2 e2_.symm | exact h_.1.2.2.2.2 e2_.symm | exact h_.2.2.2.2.2 e2_.symm | exact h_.1.1.1.1.1.1 e2_.symm | exact h_.2.1.1.1.1.1 e2_.symm | exact h_.1.2.1.1.1.1 e2_.symm | exact h_.2.2.1.1.1.1 e2_.symm | exact h_.1.1.2.1.1.1 e2_.symm | exact h_.2.1.2.1.1.1 e2_.symm | exact h_.1.2.2.1.1.1 e2_.symm | exact h_.2.2.2.1.1.1 e2_.symm | exact h_.1.1.1.2.1.1 e2_.symm | exact h_.2.1.1.2.1.1 e2_.symm | exact h_.1.2.1.2.1.1 e2_.symm | exact h_.2.2.1.2.1.1 e2_.symm | exact h_.1.1.2.2.1.1 e2_.symm | exact h_.2.1.2.2.1.1 e2_.symm | exact h_.1.2.2.2.1.1 e2_.symm | exact h_.2.2.2.2.1.1 e2_.symm | exact h_.1.1.1.1.2.1 e2_.symm | exact h_.2.1.1.1.2.1 e2_.symm | exact h_.1.2.1.1.2.1 e2_.symm | exact h_.2.2.1.1.2.1 e2_.symm | exact h_.1.1.2.1.2.1 e2_.symm | exact h_.2.1.2.1.2.1 e2_.symm | exact h_.1.2.2.1.2.1 e2_.symm | exact h_.2.2.2.1.2.1 e2_.symm | exact h_.1.1.1.2.2.1 e2_.symm | exact h_.2.1.1.2.2.1 e2_.symm | exact h_.1.2.1.2.2.1 e2_.symm | exact h_.2.2.1.2.2.1 e2_.symm | exact h_.1.1.2.2.2.1 e2_.symm | exact h_.2.1.2.2.2.1 e2_.symm | exact h_.1.2.2.2.2.1 e2_.symm | exact h_.2.2.2.2.2.1 e2_.symm | exact h_.1.1.1.1.1.2 e2_.symm | exact h_.2.1.1.1.1.2 e2_.symm | exact h_.1.2.1.1.1.2 e2_.symm | exact h_.2.2.1.1.1.2 e2_.symm | exact h_.1.1.2.1.1.2 e2_.symm | exact h_.2.1.2.1.1.2 e2_.symm | exact h_.1.2.2.1.1.2 e2_.symm | exact h_.2.2.2.1.1.2 e2_.symm | exact h_.1.1.1.2.1.2 e2_.symm | exact h_.2.1.1.2.1.2 e2_.symm | exact h_.1.2.1.2.1.2 e2_.symm | exact h_.2.2.1.2.1.2 e2_.symm | exact h_.1.1.2.2.1.2 e2_.symm | exact h_.2.1.2.2.1.2 e2_.symm | exact h_.1.2.2.2.1.2 e2_.symm | exact h_.2.2.2.2.1.2 e2_.symm | exact h_.1.1.1.1.2.2 e2_.symm | exact h_.2.1.1.1.2.2 e2_.symm | exact h_.1.2.1.1.2.2 e2_.symm | exact h_.2.2.1.1.2.2 e2_.symm | exact h_.1.1.2.1.2.2 e2_.symm | exact h_.2.1.2.1.2.2 e2_.symm | exact h_.1.2.2.1.2.2 e2_.symm | exact h_.2.2.2.1.2.2 e2_.symm | exact h_.1.1.1.2.2.2 e2_.symm | exact h_.2.1.1.2.2.2 e2_.symm | exact h_.1.2.1.2.2.2 e2_.symm | exact h_.2.2.1.2.2.2 e2_.symm | exact h_.1.1.2.2.2.2 e2_.symm | exact h_.2.1.2.2.2.2 e2_.symm | exact h_.1.2.2.2.2.2 e2_.symm | exact h_.2.2.2.2.2.2 e2_.symm) | (have h_ := HO281.out.1 k_ e2_; first | exact h_ e_.symm | exact h_.1 e_.symm | exact h_.2 e_.symm | exact h_.1.1 e_.symm | exact h_.2.1 e_.symm | exact h_.1.2 e_.symm | exact h_.2.2 e_.symm | exact h_.1.1.1 e_.symm | exact h_.2.1.1 e_.symm | exact h_.1.2.1 e_.symm | exact h_.2.2.1 e_.symm | exact h_.1.1.2 e_.symm | exact h_.2.1.2 e_.symm | exact h_.1.2.2 e_.symm | exact h_.2.2.2 e_.symm | exact h_.1.1.1.1 e_.symm | exact h_.2.1.1.1 e_.symm | exact h_.1.2.1.1 e_.symm | exact h_.2.2.1.1 e_.symm | exact h_.1.1.2.1 e_.symm | exact h_.2.1.2.1 e_.symm | exact h_.1.2.2.1 e_.symm | exact h_.2.2.2.1 e_.symm | exact h_.1.1.1.2 e_.symm | exact h_.2.1.1.2 e_.symm | exact h_.1.2.1.2 e_.symm | exact h_.2.2.1.2 e_.symm | exact h_.1.1.2.2 e_.symm | exact h_.2.1.2.2 e_.symm | exact h_.1.2.2.2 e_.symm | exact h_.2.2.2.2 e_.symm | exact h_.1.1.1.1.1 e_.symm | exact h_.2.1.1.1.1 e_.symm | exact h_.1.2.1.1.1 e_.symm | exact h_.2.2.1.1.1 e_.symm | exact h_.1.1.2.1.1 e_.symm | exact h_.2.1.2.1.1 e_.symm | exact h_.1.2.2.1.1 e_.symm | exact h_.2.2.2.1.1 e_.symm | exact h_.1.1.1.2.1 e_.symm | exact h_.2.1.1.2.1 e_.symm | exact h_.1.2.1.2.1 e_.symm | exact h_.2.2.1.2.1 e_.symm | exact h_.1.1.2.2.1 e_.symm | exact h_.2.1.2.2.1 e_.symm | exact h_.1.2.2.2.1 e_.symm | exact h_.2.2.2.2.1 e_.symm | exact h_.1.1.1.1.2 e_.symm | exact h_.2.1.1.1.2 e_.symm | exact h_.1.2.1.1.2 e_.symm | exact h_.2.2.1.1.2 e_.symm | exact h_.1.1.2.1.2 e_.symm | exact h_.2.1.2.1.2 e_.symm | exact h_.1.2.2.1.2 e_.symm | exact h_.2.2.2.1.2 e_.symm | exact h_.1.1.1.2.2 e_.symm | exact h_.2.1.1.2.2 e_.symm | exact h_.1.2.1.2.2 e_.symm | exact h_.2.2.1.2.2 e_.symm | exact h_.1.1.2.2.2 e_.symm | exact h_.2.1.2.2.2 e_.symm | exact h_.1.2.2.2.2 e_.symm | exact h_.2.2.2.2.2 e_.symm | exact h_.1.1.1.1.1.1 e_.symm | exact h_.2.1.1.1.1.1 e_.symm | exact h_.1.2.1.1.1.1 e_.symm | exact h_.2.2.1.1.1.1 e_.symm | exact h_.1.1.2.1.1.1 e_.symm | exact h_.2.1.2.1.1.1 e_.symm | exact h_.1.2.2.1.1.1 e_.symm | exact h_.2.2.2.1.1.1 e_.symm | exact h_.1.1.1.2.1.1 e_.symm | exact h_.2.1.1.2.1.1 e_.symm | exact h_.1.2.1.2.1.1 e_.symm | exact h_.2.2.1.2.1.1 e_.symm | exact h_.1.1.2.2.1.1 e_.symm | exact h_.2.1.2.2.1.1 e_.symm | exact h_.1.2.2.2.1.1 e_.symm | exact h_.2.2.2.2.1.1 e_.symm | exact h_.1.1.1.1.2.1 e_.symm | exact h_.2.1.1.1.2.1 e_.symm | exact h_.1.2.1.1.2.1 e_.symm | exact h_.2.2.1.1.2.1 e_.symm | exact h_.1.1.2.1.2.1 e_.symm | exact h_.2.1.2.1.2.1 e_.symm | exact h_.1.2.2.1.2.1 e_.symm | exact h_.2.2.2.1.2.1 e_.symm | exact h_.1.1.1.2.2.1 e_.symm | exact h_.2.1.1.2.2.1 e_.symm | exact h_.1.2.1.2.2.1 e_.symm | exact h_.2.2.1.2.2.1 e_.symm | exact h_.1.1.2.2.2.1 e_.symm | exact h_.2.1.2.2.2.1 e_.symm | exact h_.1.2.2.2.2.1 e_.symm | exact h_.2.2.2.2.2.1 e_.symm | exact h_.1.1.1.1.1.2 e_.symm | exact h_.2.1.1.1.1.2 e_.symm | exact h_.1.2.1.1.1.2 e_.symm | exact h_.2.2.1.1.1.2 e_.symm | exact h_.1.1.2.1.1.2 e_.symm | exact h_.2.1.2.1.1.2 e_.symm | exact h_.1.2.2.1.1.2 e_.symm | exact h_.2.2.2.1.1.2 e_.symm | exact h_.1.1.1.2.1.2 e_.symm | exact h_.2.1.1.2.1.2 e_.symm | exact h_.1.2.1.2.1.2 e_.symm | exact h_.2.2.1.2.1.2 e_.symm | exact h_.1.1.2.2.1.2 e_.symm | exact h_.2.1.2.2.1.2 e_.symm | exact h_.1.2.2.2.1.2 e_.symm | exact h_.2.2.2.2.1.2 e_.symm | exact h_.1.1.1.1.2.2 e_.symm | exact h_.2.1.1.1.2.2 e_.symm | exact h_.1.2.1.1.2.2 e_.symm | exact h_.2.2.1.1.2.2 e_.symm | exact h_.1.1.2.1.2.2 e_.symm | exact h_.2.1.2.1.2.2 e_.symm | exact h_.1.2.2.1.2.2 e_.symm | exact h_.2.2.2.1.2.2 e_.symm | exact h_.1.1.1.2.2.2 e_.symm | exact h_.2.1.1.2.2.2 e_.symm | exact h_.1.2.1.2.2.2 e_.symm | exact h_.2.2.1.2.2.2 e_.symm | exact h_.1.1.2.2.2.2 e_.symm | exact h_.2.1.2.2.2.2 e_.symm | exact h_.1.2.2.2.2.2 e_.symm | exact h_.2.2.2.2.2.2 e_.symm)) (fun k_ e_ e2_ => by first | (have h_ := HO278.out.1 k_ e_; first | exact h_ e2_.symm | exact h_.1 e2_.symm | exact h_.2 e2_.symm | exact h_.1.1 e2_.symm | exact h_.2.1 e2_.symm | exact h_.1.2 e2_.symm | exact h_.2.2 e2_.symm | exact h_.1.1.1 e2_.symm | exact h_.2.1.1 e2_.symm | exact h_.1.2.1 e2_.symm | exact h_.2.2.1 e2_.symm | exact h_.1.1.2 e2_.symm | exact h_.2.1.2 e2_.symm | exact h_.1.2.2 e2_.symm | exact h_.2.2.2 e2_.symm | exact h_.1.1.1.1 e2_.symm | exact h_.2.1.1.1 e2_.symm | exact h_.1.2.1.1 e2_.symm | exact h_.2.2.1.1 e2_.symm | exact h_.1.1.2.1 e2_.symm | exact h_.2.1.2.1 e2_.symm | exact h_.1.2.2.1 e2_.symm | exact h_.2.2.2.1 e2_.symm | exact h_.1.1.1.2 e2_.symm | exact h_.2.1.1.2 e2_.symm | exact h_.1.2.1.2 e2_.symm | exact h_.2.2.1.2 e2_.symm | exact h_.1.1.2.2 e2_.symm | exact h_.2.1.2.2 e2_.symm | exact h_.1.2.2.2 e2_.symm | exact h_.2.2.2.2 e2_.symm | exact h_.1.1.1.1.1 e2_.symm | exact h_.2.1.1.1.1 e2_.symm | exact h_.1.2.1.1.1 e2_.symm | exact h_.2.2.1.1.1 e2_.symm | exact h_.1.1.2.1.1 e2_.symm | exact h_.2.1.2.1.1 e2_.symm | exact h_.1.2.2.1.1 e2_.symm | exact h_.2.2.2.1.1 e2_.symm | exact h_.1.1.1.2.1 e2_.symm | exact h_.2.1.1.2.1 e2_.symm | exact h_.1.2.1.2.1 e2_.symm | exact h_.2.2.1.2.1 e2_.symm | exact h_.1.1.2.2.1 e2_.symm | exact h_.2.1.2.2.1 e2_.symm | exact h_.1.2.2.2.1 e2_.symm | exact h_.2.2.2.2.1 e2_.symm | exact h_.1.1.1.1.2 e2_.symm | exact h_.2.1.1.1.2 e2_.symm | exact h_.1.2.1.1.2 e2_.symm | exact h_.2.2.1.1.2 e2_.symm | exact h_.1.1.2.1.2 e2_.symm | exact h_.2.1.2.1.2 e2_.symm | exact h_.1.2.2.1.2 e2_.symm | exact h_.2.2.2.1.2 e2_.symm | exact h_.1.1.1.2.2 e2_.symm | exact h_.2.1.1.2.2 e2_.symm | exact h_.1.2.1.2.2 e2_.symm | exact h_.2.2.1.2.2 e2_.symm | exact h_.1.1.2.2.2 e2_.symm | exact h_.2.1.2.2.2 e2_.symm | exact h_.1.2.2.2.2 e2_.symm | exact h_.2.2.2.2.2 e2_.symm | exact h_.1.1.1.1.1.1 e2_.symm | exact h_.2.1.1.1.1.1 e2_.symm | exact h_.1.2.1.1.1.1 e2_.symm | exact h_.2.2.1.1.1.1 e2_.symm | exact h_.1.1.2.1.1.1 e2_.symm | exact h_.2.1.2.1.1.1 e2_.symm | exact h_.1.2.2.1.1.1 e2_.symm | exact h_.2.2.2.1.1.1 e2_.symm | exact h_.1.1.1.2.1.1 e2_.symm | exact h_.2.1.1.2.1.1 e2_.symm | exact h_.1.2.1.2.1.1 e2_.symm | exact h_.2.2.1.2.1.1 e2_.symm | exact h_.1.1.2.2.1.1 e2_.symm | exact h_.2.1.2.2.1.1 e2_.symm | exact h_.1.2.2.2.1.1 e2_.symm | exact h_.2.2.2.2.1.1 e2_.symm | exact h_.1.1.1.1.2.1 e2_.symm | exact h_.2.1.1.1.2.1 e2_.symm | exact h_.1.2.1.1.2.1 e2_.symm | exact h_.2.2.1.1.2.1 e2_.symm | exact h_.1.1.2.1.2.1 e2_.symm | exact h_.2.1.2.1.2.1 e2_.symm | exact h_.1.2.2.1.2.1 e2_.symm | exact h_.2.2.2.1.2.1 e2_.symm | exact h_.1.1.1.2.2.1 e2_.symm | exact h_.2.1.1.2.2.1 e2_.symm | exact h_.1.2.1.2.2.1 e2_.symm | exact h_.2.2.1.2.2.1 e2_.symm | exact h_.1.1.2.2.2.1 e2_.symm | exact h_.2.1.2.2.2.1 e2_.symm | exact h_.1.2.2.2.2.1 e2_.symm | exact h_.2.2.2.2.2.1 e2_.symm | exact h_.1.1.1.1.1.2 e2_.symm | exact h_.2.1.1.1.1.2 e2_.symm | exact h_.1.2.1.1.1.2 e2_.symm | exact h_.2.2.1.1.1.2 e2_.symm | exact h_.1.1.2.1.1.2 e2_.symm | exact h_.2.1.2.1.1.2 e2_.symm | exact h_.1.2.2.1.1.2 e2_.symm | exact h_.2.2.2.1.1.2 e2_.symm | exact h_.1.1.1.2.1.2 e2_.symm | exact h_.2.1.1.2.1.2 e2_.symm | exact h_.1.2.1.2.1.2 e2_.symm | exact h_.2.2.1.2.1.2 e2_.symm | exact h_.1.1.2.2.1.2 e2_.symm | exact h_.2.1.2.2.1.2 e2_.symm | exact h_.1.2.2.2.1.2 e2_.symm | exact h_.2.2.2.2.1.2 e2_.symm | exact h_.1.1.1.1.2.2 e2_.symm | exact h_.2.1.1.1.2.2 e2_.symm | exact h_.1.2.1.1.2.2 e2_.symm | exact h_.2.2.1.1.2.2 e2_.symm | exact h_.1.1.2.1.2.2 e2_.symm | exact h_.2.1.2.1.2.2 e2_.symm | exact h_.1.2.2.1.2.2 e2_.symm | exact h_.2.2.2.1.2.2 e2_.symm | exact h_.1.1.1.2.2.2 e2_.symm | exact h_.2.1.1.2.2.2 e2_.symm | exact h_.1.2.1.2.2.2 e2_.symm | exact h_.2.2.1.2.2.2 e2_.symm | exact h_.1.1.2.2.2.2 e2_.symm | exact h_.2.1.2.2.2.2 e2_.symm | exact h_.1.2.2.2.2.2 e2_.symm | exact h_.2.2.2.2.2.2 e2_.symm) | (have h_ := HO284.out.1 k_ e2_; first | exact h_ e_.symm | exact h_.1 e_.symm | exact h_.2 e_.symm | exact h_.1.1 e_.symm | exact h_.2.1 e_.symm | exact h_.1.2 e_.symm | exact h_.2.2 e_.symm | exact h_.1.1.1 e_.symm | exact h_.2.1.1 e_.symm | exact h_.1.2.1 e_.symm | exact h_.2.2.1 e_.symm | exact h_.1.1.2 e_.symm | exact h_.2.1.2 e_.symm | exact h_.1.2.2 e_.symm | exact h_.2.2.2 e_.symm | exact h_.1.1.1.1 e_.symm | exact h_.2.1.1.1 e_.symm | exact h_.1.2.1.1 e_.symm | exact h_.2.2.1.1 e_.symm | exact h_.1.1.2.1 e_.symm | exact h_.2.1.2.1 e_.symm | exact h_.1.2.2.1 e_.symm | exact h_.2.2.2.1 e_.symm | exact h_.1.1.1.2 e_.symm | exact h_.2.1.1.2 e_.symm | exact h_.1.2.1.2 e_.symm | exact h_.2.2.1.2 e_.symm | exact h_.1.1.2.2 e_.symm | exact h_.2.1.2.2 e_.symm | exact h_.1.2.2.2 e_.symm | exact h_.2.2.2.2 e_.symm | exact h_.1.1.1.1.1 e_.symm | exact h_.2.1.1.1.1 e_.symm | exact h_.1.2.1.1.1 e_.symm | exact h_.2.2.1.1.1 e_.symm | exact h_.1.1.2.1.1 e_.symm | exact h_.2.1.2.1.1 e_.symm | exact h_.1.2.2.1.1 e_.symm | exact h_.2.2.2.1.1 e_.symm | exact h_.1.1.1.2.1 e_.symm | exact h_.2.1.1.2.1 e_.symm | exact h_.1.2.1.2.1 e_.symm | exact h_.2.2.1.2.1 e_.symm | exact h_.1.1.2.2.1 e_.symm | exact h_.2.1.2.2.1 e_.symm | exact h_.1.2.2.2.1 e_.symm | exact h_.2.2.2.2.1 e_.symm | exact h_.1.1.1.1.2 e_.symm | exact h_.2.1.1.1.2 e_.symm | exact h_.1.2.1.1.2 e_.symm | exact h_.2.2.1.1.2 e_.symm | exact h_.1.1.2.1.2 e_.symm | exact h_.2.1.2.1.2 e_.symm | exact h_.1.2.2.1.2 e_.symm | exact h_.2.2.2.1.2 e_.symm | exact h_.1.1.1.2.2 e_.symm | exact h_.2.1.1.2.2 e_.symm | exact h_.1.2.1.2.2 e_.symm | exact h_.2.2.1.2.2 e_.symm | exact h_.1.1.2.2.2 e_.symm | exact h_.2.1.2.2.2 e_.symm | exact h_.1.2.2.2.2 e_.symm | exact h_.2.2.2.2.2 e_.symm | exact h_.1.1.1.1.1.1 e_.symm | exact h_.2.1.1.1.1.1 e_.symm | exact h_.1.2.1.1.1.1 e_.symm | exact h_.2.2.1.1.1.1 e_.symm | exact h_.1.1.2.1.1.1 e_.symm | exact h_.2.1.2.1.1.1 e_.symm | exact h_.1.2.2.1.1.1 e_.symm | exact h_.2.2.2.1.1.1 e_.symm | exact h_.1.1.1.2.1.1 e_.symm | exact h_.2.1.1.2.1.1 e_.symm | exact h_.1.2.1.2.1.1 e_.symm | exact h_.2.2.1.2.1.1 e_.symm | exact h_.1.1.2.2.1.1 e_.symm | exact h_.2.1.2.2.1.1 e_.symm | exact h_.1.2.2.2.1.1 e_.symm | exact h_.2.2.2.2.1.1 e_.symm | exact h_.1.1.1.1.2.1 e_.symm | exact h_.2.1.1.1.2.1 e_.symm | exact h_.1.2.1.1.2.1 e_.symm | exact h_.2.2.1.1.2.1 e_.symm | exact h_.1.1.2.1.2.1 e_.symm | exact h_.2.1.2.1.2.1 e_.symm | exact h_.1.2.2.1.2.1 e_.symm | exact h_.2.2.2.1.2.1 e_.symm | exact h_.1.1.1.2.2.1 e_.symm | exact h_.2.1.1.2.2.1 e_.symm | exact h_.1.2.1.2.2.1 e_.symm | exact h_.2.2.1.2.2.1 e_.symm | exact h_.1.1.2.2.2.1 e_.symm | exact h_.2.1.2.2.2.1 e_.symm | exact h_.1.2.2.2.2.1 e_.symm | exact h_.2.2.2.2.2.1 e_.symm | exact h_.1.1.1.1.1.2 e_.symm | exact h_.2.1.1.1.1.2 e_.symm | exact h_.1.2.1.1.1.2 e_.symm | exact h_.2.2.1.1.1.2 e_.symm | exact h_.1.1.2.1.1.2 e_.symm | exact h_.2.1.2.1.1.2 e_.symm | exact h_.1.2.2.1.1.2 e_.symm | exact h_.2.2.2.1.1.2 e_.symm | exact h_.1.1.1.2.1.2 e_.symm | exact h_.2.1.1.2.1.2 e_.symm | exact h_.1.2.1.2.1.2 e_.symm | exact h_.2.2.1.2.1.2 e_.symm | exact h_.1.1.2.2.1.2 e_.symm | exact h_.2.1.2.2.1.2 e_.symm | exact h_.1.2.2.2.1.2 e_.symm | exact h_.2.2.2.2.1.2 e_.symm | exact h_.1.1.1.1.2.2 e_.symm | exact h_.2.1.1.1.2.2 e_.symm | exact h_.1.2.1.1.2.2 e_.symm | exact h_.2.2.1.1.2.2 e_.symm | exact h_.1.1.2.1.2.2 e_.symm | exact h_.2.1.2.1.2.2 e_.symm | exact h_.1.2.2.1.2.2 e_.symm | exact h_.2.2.2.1.2.2 e_.symm | exact h_.1.1.1.2.2.2 e_.symm | exact h_.2.1.1.2.2.2 e_.symm | exact h_.1.2.1.2.2.2 e_.symm | exact h_.2.2.1.2.2.2 e_.symm | exact h_.1.1.2.2.2.2 e_.symm | exact h_.2.1.2.2.2.2 e_.symm | exact h_.1.2.2.2.2.2 e_.symm | exact h_.2.2.2.2.2.2 e_.symm)) (fun k_ e_ e2_ => by first | (have h_ := HO281.out.1 k_ e_; first | exact h_ e2_.symm | exact h_.1 e2_.symm | exact h_.2 e2_.symm | exact h_.1.1 e2_.symm | exact h_.2.1 e2_.symm | exact h_.1.2 e2_.symm | exact h_.2.2 e2_.symm | exact h_.1.1.1 e2_.symm | exact h_.2.1.1 e2_.symm | exact h_.1.2.1 e2_.symm | exact h_.2.2.1 e2_.symm | exact h_.1.1.2 e2_.symm | exact h_.2.1.2 e2_.symm | exact h_.1.2.2 e2_.symm | exact h_.2.2.2 e2_.symm | exact h_.1.1.1.1 e2_.symm | exact h_.2.1.1.1 e2_.symm | exact h_.1.2.1.1 e2_.symm | exact h_.2.2.1.1 e2_.symm | exact h_.1.1.2.1 e2_.symm | exact h_.2.1.2.1 e2_.symm | exact h_.1.2.2.1 e2_.symm | exact h_.2.2.2.1 e2_.symm | exact h_.1.1.1.2 e2_.symm | exact h_.2.1.1.2 e2_.symm | exact h_.1.2.1.2 e2_.symm | exact h_.2.2.1.2 e2_.symm | exact h_.1.1.2.2 e2_.symm | exact h_.2.1.2.2 e2_.symm | exact h_.1.2.2.2 e2_.symm | exact h_.2.2.2.2 e2_.symm | exact h_.1.1.1.1.1 e2_.symm | exact h_.2.1.1.1.1 e2_.symm | exact h_.1.2.1.1.1 e2_.symm | exact h_.2.2.1.1.1 e2_.symm | exact h_.1.1.2.1.1 e2_.symm | exact h_.2.1.2.1.1 e2_.symm | exact h_.1.2.2.1.1 e2_.symm | exact h_.2.2.2.1.1 e2_.symm | exact h_.1.1.1.2.1 e2_.symm | exact h_.2.1.1.2.1 e2_.symm | exact h_.1.2.1.2.1 e2_.symm | exact h_.2.2.1.2.1 e2_.symm | exact h_.1.1.2.2.1 e2_.symm | exact h_.2.1.2.2.1 e2_.symm | exact h_.1.2.2.2.1 e2_.symm | exact h_.2.2.2.2.1 e2_.symm | exact h_.1.1.1.1.2 e2_.symm | exact h_.2.1.1.1.2 e2_.symm | exact h_.1.2.1.1.2 e2_.symm | exact h_.2.2.1.1.2 e2_.symm | exact h_.1.1.2.1.2 e2_.symm | exact h_.2.1.2.1.2 e2_.symm | exact h_.1.2.2.1.2 e2_.symm | exact h_.2.2.2.1.2 e2_.symm | exact h_.1.1.1.2.2 e2_.symm | exact h_.2.1.1.2.2 e2_.symm | exact h_.1.2.1.2.2 e2_.symm | exact h_.2.2.1.2.2 e2_.symm | exact h_.1.1.2.2.2 e2_.symm | exact h_.2.1.2.2.2 e2_.symm | exact h_.1.2.2.2.2 e2_.symm | exact h_.2.2.2.2.2 e2_.symm | exact h_.1.1.1.1.1.1 e2_.symm | exact h_.2.1.1.1.1.1 e2_.symm | exact h_.1.2.1.1.1.1 e2_.symm | exact h_.2.2.1.1.1.1 e2_.symm | exact h_.1.1.2.1.1.1 e2_.symm | exact h_.2.1.2.1.1.1 e2_.symm | exact h_.1.2.2.1.1.1 e2_.symm | exact h_.2.2.2.1.1.1 e2_.symm | exact h_.1.1.1.2.1.1 e2_.symm | exact h_.2.1.1.2.1.1 e2_.symm | exact h_.1.2.1.2.1.1 e2_.symm | exact h_.2.2.1.2.1.1 e2_.symm | exact h_.1.1.2.2.1.1 e2_.symm | exact h_.2.1.2.2.1.1 e2_.symm | exact h_.1.2.2.2.1.1 e2_.symm | exact h_.2.2.2.2.1.1 e2_.symm | exact h_.1.1.1.1.2.1 e2_.symm | exact h_.2.1.1.1.2.1 e2_.symm | exact h_.1.2.1.1.2.1 e2_.symm | exact h_.2.2.1.1.2.1 e2_.symm | exact h_.1.1.2.1.2.1 e2_.symm | exact h_.2.1.2.1.2.1 e2_.symm | exact h_.1.2.2.1.2.1 e2_.symm | exact h_.2.2.2.1.2.1 e2_.symm | exact h_.1.1.1.2.2.1 e2_.symm | exact h_.2.1.1.2.2.1 e2_.symm | exact h_.1.2.1.2.2.1 e2_.symm | exact h_.2.2.1.2.2.1 e2_.symm | exact h_.1.1.2.2.2.1 e2_.symm | exact h_.2.1.2.2.2.1 e2_.symm | exact h_.1.2.2.2.2.1 e2_.symm | exact h_.2.2.2.2.2.1 e2_.symm | exact h_.1.1.1.1.1.2 e2_.symm | exact h_.2.1.1.1.1.2 e2_.symm | exact h_.1.2.1.1.1.2 e2_.symm | exact h_.2.2.1.1.1.2 e2_.symm | exact h_.1.1.2.1.1.2 e2_.symm | exact h_.2.1.2.1.1.2 e2_.symm | exact h_.1.2.2.1.1.2 e2_.symm | exact h_.2.2.2.1.1.2 e2_.symm | exact h_.1.1.1.2.1.2 e2_.symm | exact h_.2.1.1.2.1.2 e2_.symm | exact h_.1.2.1.2.1.2 e2_.symm | exact h_.2.2.1.2.1.2 e2_.symm | exact h_.1.1.2.2.1.2 e2_.symm | exact h_.2.1.2.2.1.2 e2_.symm | exact h_.1.2.2.2.1.2 e2_.symm | exact h_.2.2.2.2.1.2 e2_.symm | exact h_.1.1.1.1.2.2 e2_.symm | exact h_.2.1.1.1.2.2 e2_.symm | exact h_.1.2.1.1.2.2 e2_.symm | exact h_.2.2.1.1.2.2 e2_.symm | exact h_.1.1.2.1.2.2 e2_.symm | exact h_.2.1.2.1.2.2 e2_.symm | exact h_.1.2.2.1.2.2 e2_.symm | exact h_.2.2.2.1.2.2 e2_.symm | exact h_.1.1.1.2.2.2 e2_.symm | exact h_.2.1.1.2.2.2 e2_.symm | exact h_.1.2.1.2.2.2 e2_.symm | exact h_.2.2.1.2.2.2 e2_.symm | exact h_.1.1.2.2.2.2 e2_.symm | exact h_.2.1.2.2.2.2 e2_.symm | exact h_.1.2.2.2.2.2 e2_.symm | exact h_.2.2.2.2.2.2 e2_.symm) | (have h_ := HO284.out.1 k_ e2_; first | exact h_ e_.symm | exact h_.1 e_.symm | exact h_.2 e_.symm | exact h_.1.1 e_.symm | exact h_.2.1 e_.symm | exact h_.1.2 e_.symm | exact h_.2.2 e_.symm | exact h_.1.1.1 e_.symm | exact h_.2.1.1 e_.symm | exact h_.1.2.1 e_.symm | exact h_.2.2.1 e_.symm | exact h_.1.1.2 e_.symm | exact h_.2.1.2 e_.symm | exact h_.1.2.2 e_.symm | exact h_.2.2.2 e_.symm | exact h_.1.1.1.1 e_.symm | exact h_.2.1.1.1 e_.symm | exact h_.1.2.1.1 e_.symm | exact h_.2.2.1.1 e_.symm | exact h_.1.1.2.1 e_.symm | exact h_.2.1.2.1 e_.symm | exact h_.1.2.2.1 e_.symm | exact h_.2.2.2.1 e_.symm | exact h_.1.1.1.2 e_.symm | exact h_.2.1.1.2 e_.symm | exact h_.1.2.1.2 e_.symm | exact h_.2.2.1.2 e_.symm | exact h_.1.1.2.2 e_.symm | exact h_.2.1.2.2 e_.symm | exact h_.1.2.2.2 e_.symm | exact h_.2.2.2.2 e_.symm | exact h_.1.1.1.1.1 e_.symm | exact h_.2.1.1.1.1 e_.symm | exact h_.1.2.1.1.1 e_.symm | exact h_.2.2.1.1.1 e_.symm | exact h_.1.1.2.1.1 e_.symm | exact h_.2.1.2.1.1 e_.symm | exact h_.1.2.2.1.1 e_.symm | exact h_.2.2.2.1.1 e_.symm | exact h_.1.1.1.2.1 e_.symm | exact h_.2.1.1.2.1 e_.symm | exact h_.1.2.1.2.1 e_.symm | exact h_.2.2.1.2.1 e_.symm | exact h_.1.1.2.2.1 e_.symm | exact h_.2.1.2.2.1 e_.symm | exact h_.1.2.2.2.1 e_.symm | exact h_.2.2.2.2.1 e_.symm | exact h_.1.1.1.1.2 e_.symm | exact h_.2.1.1.1.2 e_.symm | exact h_.1.2.1.1.2 e_.symm | exact h_.2.2.1.1.2 e_.symm | exact h_.1.1.2.1.2 e_.symm | exact h_.2.1.2.1.2 e_.symm | exact h_.1.2.2.1.2 e_.symm | exact h_.2.2.2.1.2 e_.symm | exact h_.1.1.1.2.2 e_.symm | exact h_.2.1.1.2.2 e_.symm | exact h_.1.2.1.2.2 e_.symm | exact h_.2.2.1.2.2 e_.symm | exact h_.1.1.2.2.2 e_.symm | exact h_.2.1.2.2.2 e_.symm | exact h_.1.2.2.2.2 e_.symm | exact h_.2.2.2.2.2 e_.symm | exact h_.1.1.1.1.1.1 e_.symm | exact h_.2.1.1.1.1.1 e_.symm | exact h_.1.2.1.1.1.1 e_.symm | exact h_.2.2.1.1.1.1 e_.symm | exact h_.1.1.2.1.1.1 e_.symm | exact h_.2.1.2.1.1.1 e_.symm | exact h_.1.2.2.1.1.1 e_.symm | exact h_.2.2.2.1.1.1 e_.symm | exact h_.1.1.1.2.1.1 e_.symm | exact h_.2.1.1.2.1.1 e_.symm | exact h_.1.2.1.2.1.1 e_.symm | exact h_.2.2.1.2.1.1 e_.symm | exact h_.1.1.2.2.1.1 e_.symm | exact h_.2.1.2.2.1.1 e_.symm | exact h_.1.2.2.2.1.1 e_.symm | exact h_.2.2.2.2.1.1 e_.symm | exact h_.1.1.1.1.2.1 e_.symm | exact h_.2.1.1.1.2.1 e_.symm | exact h_.1.2.1.1.2.1 e_.symm | exact h_.2.2.1.1.2.1 e_.symm | exact h_.1.1.2.1.2.1 e_.symm | exact h_.2.1.2.1.2.1 e_.symm | exact h_.1.2.2.1.2.1 e_.symm | exact h_.2.2.2.1.2.1 e_.symm | exact h_.1.1.1.2.2.1 e_.symm | exact h_.2.1.1.2.2.1 e_.symm | exact h_.1.2.1.2.2.1 e_.symm | exact h_.2.2.1.2.2.1 e_.symm | exact h_.1.1.2.2.2.1 e_.symm | exact h_.2.1.2.2.2.1 e_.symm | exact h_.1.2.2.2.2.1 e_.symm | exact h_.2.2.2.2.2.1 e_.symm | exact h_.1.1.1.1.1.2 e_.symm | exact h_.2.1.1.1.1.2 e_.symm | exact h_.1.2.1.1.1.2 e_.symm | exact h_.2.2.1.1.1.2 e_.symm | exact h_.1.1.2.1.1.2 e_.symm | exact h_.2.1.2.1.1.2 e_.symm | exact h_.1.2.2.1.1.2 e_.symm | exact h_.2.2.2.1.1.2 e_.symm | exact h_.1.1.1.2.1.2 e_.symm | exact h_.2.1.1.2.1.2 e_.symm | exact h_.1.2.1.2.1.2 e_.symm | exact h_.2.2.1.2.1.2 e_.symm | exact h_.1.1.2.2.1.2 e_.symm | exact h_.2.1.2.2.1.2 e_.symm | exact h_.1.2.2.2.1.2 e_.symm | exact h_.2.2.2.2.1.2 e_.symm | exact h_.1.1.1.1.2.2 e_.symm | exact h_.2.1.1.1.2.2 e_.symm | exact h_.1.2.1.1.2.2 e_.symm | exact h_.2.2.1.1.2.2 e_.symm | exact h_.1.1.2.1.2.2 e_.symm | exact h_.2.1.2.1.2.2 e_.symm | exact h_.1.2.2.1.2.2 e_.symm | exact h_.2.2.2.1.2.2 e_.symm | exact h_.1.1.1.2.2.2 e_.symm | exact h_.2.1.1.2.2.2 e_.symm | exact h_.1.2.1.2.2.2 e_.symm | exact h_.2.2.1.2.2.2 e_.symm | exact h_.1.1.2.2.2.2 e_.symm | exact h_.2.1.2.2.2.2 e_.symm | exact h_.1.2.2.2.2.2 e_.symm | exact h_.2.2.2.2.2.2 e_.symm))) (fun _ hk => hk) (fun k_ hk_ => hk_.elim (fun h_ => ((Kd.R_mono (ok' := fun k_ => ((fun _ => True)) k_ ∧ k_ ≠ go10) (Kd.R_apart' (HO278.out) (Kd.S_typed HO_3.out) (by decide)) (fun k_ hk => ⟨trivial, fun e_ => (hk.2) (by rw [e_]; rfl)⟩))).1 k_ h_.symm) (fun h_ => h_.elim (fun h_ => ((Kd.R_mono (ok' := fun k_ => ((fun _ => True)) k_ ∧ k_ ≠ go10) (Kd.R_apart' (HO281.out) (Kd.S_typed HO_3.out) (by decide)) (fun k_ hk => ⟨trivial, fun e_ => (hk.2) (by rw [e_]; rfl)⟩))).1 k_ h_.symm) (fun h_ => ((Kd.R_mono (ok' := fun k_ => ((fun _ => True)) k_ ∧ k_ ≠ go10) (Kd.R_apart' (HO284.out) (Kd.S_typed HO_3.out) (by decide)) (fun k_ hk => ⟨trivial, fun e_ => (hk.2) (by rw [e_]; rfl)⟩))).1 k_ h_.symm))); have hx12_0 := hcc12 0 _ rfl; (try simp only [show (k40).sz = 3 from rfl, Nat.mul_one, Nat.add_zero] at hx12_0); have hf12_0 := hfr12 0; (try simp only [show (k40).sz = 3 from rfl, Nat.mul_one, Nat.add_zero] at hf12_0); have hx12_1 := hcc12 1 _ rfl; (try simp only [show (k40).sz = 3 from rfl, Nat.mul_one, Nat.add_zero] at hx12_1); have hf12_1 := hfr12 1; (try simp only [show (k40).sz = 3 from rfl, Nat.mul_one, Nat.add_zero] at hf12_1); have hx12_2 := hcc12 2 _ rfl; (try simp only [show (k40).sz = 3 from rfl, Nat.mul_one, Nat.add_zero] at hx12_2); have hf12_2 := hfr12 2; (try simp only [show (k40).sz = 3 from rfl, Nat.mul_one, Nat.add_zero] at hf12_2); clear hcl12 hcc12 hfr12 hoki12 hH12; (try clear hM12)) | ((with_reducible refine gate_store (t := 40) (p := 21) rfl ?_); have hst277_ : ∀ (a_ : Addr) (m_ : Mode) (W_ : World), (store a_ v277 m_).run Try.prog W_ = stored Try.prog W_ a_ v277 m_ := fun a_ m_ W_ => run_store Try.prog W_ a_ v277 m_ (by obtain ⟨A_, c_, e_⟩ := Kd.R_slice HO278.out; rw [e_]; rfl); have hst280_ : ∀ (a_ : Addr) (m_ : Mode) (W_ : World), (store a_ v280 m_).run Try.prog W_ = stored Try.prog W_ a_ v280 m_ := fun a_ m_ W_ => run_store Try.prog W_ a_ v280 m_ (by obtain ⟨A_, c_, e_⟩ := Kd.R_slice HO281.out; rw [e_]; rfl); have hst283_ : ∀ (a_ : Addr) (m_ : Mode) (W_ : World), (store a_ v283 m_).run Try.prog W_ = stored Try.prog W_ a_ v283 m_ := fun a_ m_ W_ => run_store Try.prog W_ a_ v283 m_ (by obtain ⟨A_, c_, e_⟩ := Kd.R_slice HO284.out; rw [e_]; rfl); refine store_event (t := 40) (p := 21) (v := ?vo_w13) (w1 := (((w11.setCell ⟨go10, (x4_1 : Int).toNat * 3, none⟩ (v277)).setCell ⟨go10, (x4_1 : Int).toNat * 3 + 1, none⟩ (v280)).setCell ⟨go10, (x4_1 : Int).toNat * 3 + 2, none⟩ (v283))) ?hg ?ho ?hn ?hr ?_; (case ho => rfl); (case hg => rfl); (case hn => rfl); (case hr => first | (go_simp; done) | (go_simp; rfl)); (try clear hst277_); (try clear hst280_); (try clear hst283_); intro w13 hw; have hg : w11.grownBy w13 (some go10) := (by rw [hw]; exact HP12.2); have hp_ : Kd.S k40 40 w13 w.heap.size (fun _ => True) (.slice (some ⟨go10, 0, none⟩) x3_1.length co10) y285 := (by rw [hw, Ny285.out]; exact HP12.1); clear HP12; replace HO_3 := Aside0.mk (hp_); replace HB := Aside0.mk ((by rw [hw]; exact below_set (below_set (below_set (HB.out) GB10.out) GB10.out) GB10.out : Below w.heap.size w w13)); clear HO278 HO281 HO284; clear hg hw hp_))
        go_roundg k1
        case measure => have := HK1.out; omega
        case rel => exact ⟨(y285), (wrap64 (x4_1 + 1)), rS, H', ⟨by have := HK1.out; omega⟩, ⟨by (with_reducible repeat (first | apply Kd.S_alloc | apply Kd.S_drewN | apply Kd.S_drew)); exact HO_3.out⟩, ⟨bZ HB⟩⟩
       ·rw [if_neg c9] at H
        exact absurd H (by simp)
      ·rw [if_neg c7] at H
       exact absurd H (by simp)
     ·rw [if_neg c6] at H
      have c6b0 := decide_eq_false c6
      clear c6
      obtain rfl := Option.some.inj H
      go_wp2
      go_ret
      exact ⟨_, by first | rfl | (simp [errW_none, errW_some] <;> rfl) | (simp [*, errW_none, errW_some] <;> rfl), by (with_reducible repeat (first | apply Kd.S_alloc | apply Kd.S_drewN | apply Kd.S_drew)); exact HO_3.out, bZ HB⟩
  ·rw [if_neg c3] at H
   exact absurd H (by simp)
 ·rw [if_neg c2] at H
  exact absurd H (by simp)
/-! ### laws_toSystem: function 56 -/
def laws_toSystem.f (k : Nat) (a0_0 : Int) (a0_1 : Int) (l0_2 : List (S92)) : Option (Int × Int × (List (S40))) := (laws_toRowS.f k l0_2).bind fun t289 => (some (a0_0, a0_1, t289))
theorem laws_toSystem.mono : ∀ a0 a1 a2 k, LeO (laws_toSystem.f k a0 a1 a2) (laws_toSystem.f (k + 1) a0 a1 a2) := by
 intro a0 a1 a2 k
 unfold laws_toSystem.f
 with_reducible repeat' first | exact laws_toRowS.mono _ _ | exact LeO.refl _ | exact LeO.none _ | refine LeO.ite ?_ ?_ | refine LeO.bind ?_ (fun _ => ?_)
set_option maxHeartbeats 8000000 in
set_option maxRecDepth 100000 in
theorem laws_toSystem.calls (k : Nat) (a0_0 : Int) (a0_1 : Int) (A0_2 : Option Addr) (c0_2 : Nat) (l0_2 : List (S92)) (r1 : Int) (r2 : Int) (r3 : List (S40)) (w : World) (hr0_2 : Kd.C k92 w A0_2 l0_2.length l0_2) (hc0_2 : l0_2.length ≤ c0_2) (h : laws_toSystem.f k a0_0 a0_1 l0_2 = some (r1, r2, r3)) :
  Calls Try.prog 56 #[.agg #[.int .i64 a0_0, .int .i64 a0_1, .slice A0_2 l0_2.length c0_2]] w fun e w' => ∃ v2_ : Value, e = .returned (.agg #[.int .i64 r1, .int .i64 r2, v2_]) ∧ Kd.S k40 40 w' w.heap.size (fun _ => True) v2_ r3 ∧ Below w.heap.size w w' := by
 have hu58 := Try.underlying58
 have hu32 := Try.underlying32
 have HR0_2 := Aside0.mk hr0_2
 have HC0_2 := Aside0.mk hc0_2
 clear hr0_2 hc0_2
 have HB := Aside0.mk (Below.refl w.heap.size w)
 have H : ((laws_toRowS.f k l0_2).bind fun t289 => (some (a0_0, a0_1, t289))) = some (r1, r2, r3) := h
 clear h
 replace H := Option.bind_eq_some_iff.mp H
 obtain ⟨t289, A20, H⟩ := H
 have A2 := Aside0.mk A20
 clear A20
 simp only [Option.some.injEq, Prod.mk.injEq] at H
 obtain ⟨rfl, rfl, rfl⟩ := H
 go_enter Try.func56, Try.ntmps56
 go_wp2_with (first | (refine gB 1 #[.int .i64 a0_0, .int .i64 a0_1, .slice A0_2 l0_2.length c0_2] 58 ?_; intro gb286 hg w3 BK286 hb; have GW286 := bG HB hg; replace HB := bS HB hb; clear hb hg) | (refine gB 2 #[.int .i64 0, .int .i64 0, .slice none 0 0] 32 ?_; intro gb287 hg w4 BK287 hb; have GW287 := bG HB hg; replace HB := bS HB hb; obtain ⟨NB286_287, NB287_286⟩ := bN BK286 hg; replace BK286 := bB BK286 hb; clear hb hg) | (refine gB 3 #[.int .i64 0, .int .i64 0, .slice none 0 0] 32 ?_; intro gb288 hg w5 BK288 hb; have GW288 := bG HB hg; replace HB := bS HB hb; obtain ⟨NB286_288, NB288_286⟩ := bN BK286 hg; replace BK286 := bB BK286 hb; obtain ⟨NB287_288, NB288_287⟩ := bN BK287 hg; replace BK287 := bB BK287 hb; clear hb hg; obtain ⟨hnb6, hnc6⟩ := nB NB286_287; obtain ⟨hnb7, hnc7⟩ := nB NB286_288; obtain ⟨hcz8_0, hcz8_1, hcz8_2, hfz8_0, hfz8_1, hfz8_2⟩ := bK3 (w := w5) BK286; obtain ⟨hnb9, hnc9⟩ := nB NB288_287; obtain ⟨hcz10_0, hcz10_1, hcz10_2, hfz10_0, hfz10_1, hfz10_2⟩ := bK3 (w := w5) BK288) | (refine gC (some 12) Try.func82 #[.slice A0_2 l0_2.length c0_2] ?_; (with_reducible refine (laws_toRowS.calls k _ _ l0_2 t289 _ ?side1 ?side2 A2.out).mono ?_); (case side1 => exact Kd.C_below HR0_2.out (bZ HB)); (case side2 => exact HC0_2.out); rintro e w11 ⟨v290, rfl, ho0, hb⟩; refine ⟨_, rfl, ?_⟩; have HO291 := Aside0.mk (Kd.S_lower ho0 (below_size (bZ HB))); replace BK286 := bB BK286 hb; replace BK287 := bB BK287 hb; replace BK288 := bV 32 #[.int .i64 a0_0, .int .i64 a0_1, .slice none 0 0] BK288 hb; replace HB := bS HB hb; (try clear hb); (try clear ho0); obtain ⟨Ao12, co12, eo12⟩ := Kd.S_slice HO291.out; subst eo12; obtain ⟨hcz13_0, hcz13_1, hcz13_2, hfz13_0, hfz13_1, hfz13_2⟩ := bK3 (w := w11) BK288; obtain ⟨hcz14_0, hcz14_1, hcz14_2, hfz14_0, hfz14_1, hfz14_2⟩ := bK3 (w := w11) BK287))
 refine rC gb287 32 #[.int .i64 a0_0, .int .i64 a0_1, .slice Ao12 t289.length co12] (bU BK287) Try.underlying32 ?_
 exact ⟨_, by first | rfl | (simp [errW_none, errW_some] <;> rfl) | (simp [*, errW_none, errW_some] <;> rfl), by (with_reducible repeat (first | apply Kd.S_alloc | apply Kd.S_drewN | apply Kd.S_drew)); exact Kd.S_mono (Kd.S_far (p := ⟨gb287, 2, none⟩) (Kd.S_far (p := ⟨gb287, 1, none⟩) (Kd.S_far (p := ⟨gb287, 0, none⟩) (Kd.S_far (p := ⟨gb288, 2, none⟩) (Kd.S_types (Kd.S_types HO291.out BK288.out (by decide)) BK287.out (by decide)) (fun _ hk => hk.1.2) (.slice Ao12 t289.length co12)) (fun _ hk => hk.2) (.int .i64 a0_0)) (fun _ hk => hk.2) (.int .i64 a0_1)) (fun _ hk => hk.2) (.slice Ao12 t289.length co12)) (fun _ hk => trivial), bZ HB⟩
/-! ### impl_remainder: function 87 -/
def impl_remainder.f (a0 : Int) (a1 : Int) : Option (Int) := if a1 = 0 then (none) else (if (Int.tmod a0 a1) < 0 then (some (wrap64 ((Int.tmod a0 a1) + a1))) else (some (Int.tmod a0 a1)))
set_option maxHeartbeats 8000000 in
set_option maxRecDepth 100000 in
theorem impl_remainder.calls (a0 : Int) (a1 : Int) (r : Int) (w : World) (h : impl_remainder.f a0 a1 = some r) :
  Calls Try.prog 87 #[.int .i64 a0, .int .i64 a1] w fun e w' => e = .returned (.int .i64 r) ∧ Drawn0 w w' := by
 have H : (if a1 = 0 then (none) else (if (Int.tmod a0 a1) < 0 then (some (wrap64 ((Int.tmod a0 a1) + a1))) else (some (Int.tmod a0 a1)))) = some r := h
 clear h
 by_cases c3 : a1 = 0
 ·rw [if_pos c3] at H
  exact absurd H (by simp)
 ·rw [if_neg c3] at H
  have c3b0 : (a1 == 0) = false := beq_eq_false_iff_ne.mpr c3
  have c3b1 : (a1 != 0) = true := bne_iff_ne.mpr c3
  by_cases c4 : (Int.tmod a0 a1) < 0
  ·rw [if_pos c4] at H
   have c4b0 := decide_eq_true c4
   clear c4
   obtain rfl := Option.some.inj H
   go_enter Try.func87, Try.ntmps87
   go_wp2
   go_ret
   exact ⟨rS, rD⟩
  ·rw [if_neg c4] at H
   have c4b0 := decide_eq_false c4
   clear c4
   obtain rfl := Option.some.inj H
   go_enter Try.func87, Try.ntmps87
   go_wp2
   go_ret
   exact ⟨rS, rD⟩
/-! ### impl_ScOf: function 63 -/
def impl_ScOf.f (a0 : Int) : Option (Int) := (impl_remainder.f a0 1009).bind fun t292 => (some t292)
set_option maxHeartbeats 8000000 in
set_option maxRecDepth 100000 in
theorem impl_ScOf.calls (a0 : Int) (r : Int) (w : World) (h : impl_ScOf.f a0 = some r) :
  Calls Try.prog 63 #[.int .i64 a0] w fun e w' => e = .returned (.int .i64 r) ∧ Drawn0 w w' := by
 have H : ((impl_remainder.f a0 1009).bind fun t292 => (some t292)) = some r := h
 clear h
 replace H := Option.bind_eq_some_iff.mp H
 obtain ⟨t292, A20, H⟩ := H
 have A2 := Aside0.mk A20
 clear A20
 obtain rfl := Option.some.inj H
 go_enter Try.func63, Try.ntmps63
 go_wp2_with (first | (refine gC (some 4) Try.func87 #[.int .i64 a0, .int .i64 1009] ?_; (with_reducible refine (impl_remainder.calls a0 1009 t292 _ A2.out).mono ?_); rintro e w' ⟨rfl, ⟨nd, rfl⟩⟩; refine ⟨_, rfl, ?_⟩))
 go_ret
 exact ⟨rS, rD⟩
end Go.Proofs.Ytcnejiflpioaiaa.Pf
end
section
namespace Go.Proofs.Ytcnejiflpioaiaa.Pf
open Go.RowKit Go.Proofs.YtcnejiflpioaiaaW.PrintWords Go.Proofs.YtcnejiflpioaiaaW.PrintLast Go.Proofs.YtcnejiflpioaiaaW.PrintMore
attribute [local go_sem] max2_int min2_int max_two min_two max_three min_three max_four min_four   -- for this text's walks alone
set_option linter.unusedVariables false
set_option linter.unusedSimpArgs false

/-! ### impl_PolyTrim: function 20 -/
mutual
def impl_PolyTrim.l0 : Nat → List Int → List Int → Int → Int → Option (List Int)
 | 0, _, _, _, _ => none
 | k + 1, x3, x6, x7, x8 => if x8 < x7 then (if 0 ≤ x8 then (if x8 < (x6.length : Int) then ((impl_ScOf.f (rd x6 x8)).bind fun t294 => (if x3.length < 17592186044416 then (impl_PolyTrim.l0 k (x3 ++ [t294]) x6 x7 (wrap64 (x8 + 1))) else (none))) else (none)) else (none)) else (impl_PolyTrim.l1 k x3)
def impl_PolyTrim.l1 : Nat → List Int → Option (List Int)
 | 0, _ => none
 | k + 1, x3 => if (x3.length : Int) > 0 then (if 0 ≤ (wrap64 ((x3.length : Int) - 1)) then (if (wrap64 ((x3.length : Int) - 1)) < (x3.length : Int) then (if (rd x3 (wrap64 ((x3.length : Int) - 1))) = 0 then (if (wrap64 ((x3.length : Int) - 1)) ≤ (x3.length : Int) then (impl_PolyTrim.l1 k (x3.take ((wrap64 ((x3.length : Int) - 1)) : Int).toNat)) else (none)) else (some x3)) else (none)) else (none)) else (some x3)
end
def impl_PolyTrim.f (k : Nat) (l0 : List Int) : Option (List Int) := impl_PolyTrim.l0 k ([] : List Int) l0 (l0.length : Int) 0
theorem impl_PolyTrim.mono_l : ∀ k, (∀ y0 y1 y2 y3, LeO (impl_PolyTrim.l0 k y0 y1 y2 y3) (impl_PolyTrim.l0 (k + 1) y0 y1 y2 y3)) ∧ (∀ y0, LeO (impl_PolyTrim.l1 k y0) (impl_PolyTrim.l1 (k + 1) y0))
 | 0 => ⟨fun _ _ _ _ r h => by simp [impl_PolyTrim.l0] at h, fun _ r h => by simp [impl_PolyTrim.l1] at h⟩
 | k + 1 => by
  obtain ⟨ih0, ih1⟩ := impl_PolyTrim.mono_l k
  refine ⟨?_, ?_⟩
  ·intro y0 y1 y2 y3
   unfold impl_PolyTrim.l0
   with_reducible repeat' first | exact ih0 _ _ _ _ | exact ih1 _ | exact LeO.refl _ | exact LeO.none _ | refine LeO.ite ?_ ?_ | refine LeO.bind ?_ (fun _ => ?_)
  ·intro y0
   unfold impl_PolyTrim.l1
   with_reducible repeat' first | exact ih0 _ _ _ _ | exact ih1 _ | exact LeO.refl _ | exact LeO.none _ | refine LeO.ite ?_ ?_ | refine LeO.bind ?_ (fun _ => ?_)
theorem impl_PolyTrim.mono : ∀ a0 k, LeO (impl_PolyTrim.f k a0) (impl_PolyTrim.f (k + 1) a0) := by
 intro a0 k
 obtain ⟨ih0, ih1⟩ := impl_PolyTrim.mono_l k
 unfold impl_PolyTrim.f
 with_reducible repeat' first | exact ih0 _ _ _ _ | exact ih1 _ | exact LeO.refl _ | exact LeO.none _ | refine LeO.ite ?_ ?_ | refine LeO.bind ?_ (fun _ => ?_)
set_option maxHeartbeats 8000000 in
set_option maxRecDepth 100000 in
theorem impl_PolyTrim.calls (k : Nat) (A0 : Option Addr) (c0 : Nat) (l0 : List Int) (r : List Int) (w : World) (hr0 : Kd.C (Kd.int .i64) w A0 l0.length l0) (hc0 : l0.length ≤ c0) (h : impl_PolyTrim.f k l0 = some r) :
  Calls Try.prog 20 #[.slice A0 l0.length c0] w fun e w' => ∃ v0_ : Value, e = .returned (v0_) ∧ Kd.R (Kd.int .i64) 3 w' w.heap.size (fun _ => True) v0_ r ∧ Below w.heap.size w w' := by
 have HR0 := Aside0.mk hr0
 have HC0 := Aside0.mk hc0
 clear hr0 hc0
 have HB := Aside0.mk (Below.refl w.heap.size w)
 have H : (impl_PolyTrim.l0 k ([] : List Int) l0 (l0.length : Int) 0) = some r := h
 clear h
 have H' := Aside0.mk H
 clear H
 go_enter Try.func20, Try.ntmps20
 go_wp2
 go_loopg [3, 8] k (fun kq v3 v8 w' => ∃ (x3_1 : List Int) (x8_1 : Int), v8 = .int .i64 x8_1 ∧ Aside0 (impl_PolyTrim.l0 kq x3_1 l0 (l0.length : Int) x8_1 = some r) ∧ Aside0 (kq ≤ k) ∧ Aside0 (Kd.R (Kd.int .i64) 3 w' w.heap.size (fun _ => True) v3 x3_1) ∧ Aside0 (Below w.heap.size w w'))
 case atStart => exact ⟨(([] : List Int)), (0), rS, H', ⟨Nat.le_refl _⟩, ⟨by first | exact Kd.R_nil _ _ _ _ _ | exact Kd.N_nil _ _ _ _ _ | exact Kd.V_nil _ _ _ _ _ | exact Kd.Q_nil _ _ _ _ _ | exact Kd.S_nil _ _ _ _ _⟩, ⟨bZ HB⟩⟩
 case round =>
  clear H'
  obtain ⟨x3_1, x8_1, rfl, HA, HK1, HO_3, HB⟩ := hrel
  cases gk with
  | zero => exact absurd HA.out (by simp [impl_PolyTrim.l0])
  | succ k1 =>
   have H := HA.out
   clear HA
   simp only [impl_PolyTrim.l0] at H
   by_cases c2 : x8_1 < (l0.length : Int)
   ·rw [if_pos c2] at H
    have c2b0 := decide_eq_true c2
    clear c2
    by_cases c3 : 0 ≤ x8_1
    ·rw [if_pos c3] at H
     have c3b0 := decide_eq_true c3
     clear c3
     by_cases c4 : x8_1 < (l0.length : Int)
     ·rw [if_pos c4] at H
      have c4b0 := decide_eq_true c4
      clear c4
      replace H := Option.bind_eq_some_iff.mp H
      obtain ⟨t294, A50, H⟩ := H
      have A5 := Aside0.mk A50
      clear A50
      by_cases c6 : x3_1.length < 17592186044416
      ·rw [if_pos c6] at H
       have LMc6 := Aside0.mk c6
       clear c6
       obtain ⟨y295, hy295⟩ : ∃ y_ : List Int, y_ = (x3_1 ++ [t294]) := ⟨_, rfl⟩
       replace H : (impl_PolyTrim.l0 k1 y295 l0 (l0.length : Int) (wrap64 (x8_1 + 1))) = some r := by first | (rw [hy295]; with_reducible exact H) | (have H2_ := (Option.bind_some _ _).symm.trans H; rw [hy295]; with_reducible exact H2_) | (have H2_ := (Option.bind_some _ _).symm.trans H; with_reducible exact H2_) | with_reducible exact H | (rw [hy295]; exact H) | exact H
       have Ny295 := Aside0.mk hy295
       clear hy295
       have H' := Aside0.mk H
       clear H
       have p293 : 0 ≤ (x8_1 : Int) := of_decide_eq_true (by first | (with_reducible assumption) | assumption)
       have q293 : x8_1 < (l0.length : Int) := of_decide_eq_true (by first | (with_reducible assumption) | assumption)
       obtain ⟨ad293, e293, hx293_0⟩ := Kd.at_int HR0.out x8_1 p293 q293
       cases e293
       replace hx293_0 := (hC HB hx293_0 :)
       replace p293 := eq_true p293
       replace q293 := eq_true q293
       go_wp2_with (first | (refine gC (some 14) Try.func63 #[.int .i64 (rd l0 x8_1)] ?_; (with_reducible refine (impl_ScOf.calls (rd l0 x8_1) t294 _ A5.out).mono ?_); rintro e w' ⟨rfl, ⟨nd, rfl⟩⟩; refine ⟨_, rfl, ?_⟩) | ((with_reducible refine gate_builtin (b := .append) (xs := #[.tmp 12, .tmp 15]) rfl ?_); (try (refine gate_guard (by rfl) ?_; dsimp only)); at_builtin; refine Kd.R_append (Kd.int .i64) (w0 := w) w.heap.size rfl (.tmp 12) (.tmp 15) 22 3 (.int .i64 0) 8 rfl Try.underlying22 info3 rfl (by decide) (by omega) u3 x3_1 t294 [.int .i64 t294] (fun _ => True) (fun _ => False) rfl rfl ?aP (fun _ hk => hk.elim) ?aF ?aO ?aB ?aS ?aL ?_; (case aP => exact rfl); (case aB => exact (bZ HB)); (case aF => exact (fun _ _ => trivial)); (case aO => exact (rP HO_3)); (case aS => exact (below_size (bZ HB))); (case aL => have := LMc6.out; omega); intro v296 w7 ho hb hg hat; rw [← Ny295.out] at ho; replace HB := Aside0.mk (hb); have HO297 := Aside0.mk (ho); clear HO_3; clear ho hb hg hat))
       go_roundg k1
       case measure => have := HK1.out; omega
       case rel => exact ⟨(y295), (wrap64 (x8_1 + 1)), rS, H', ⟨by have := HK1.out; omega⟩, ⟨rP HO297⟩, ⟨bZ HB⟩⟩
      ·rw [if_neg c6] at H
       exact absurd H (by simp)
     ·rw [if_neg c4] at H
      exact absurd H (by simp)
    ·rw [if_neg c3] at H
     exact absurd H (by simp)
   ·rw [if_neg c2] at H
    have c2b0 := decide_eq_false c2
    clear c2
    have H' := Aside0.mk H
    clear H
    go_wp2
    go_loopg [3] k1 (fun kq v3 w' => ∃ (x3_2 : List Int), Aside0 (impl_PolyTrim.l1 kq x3_2 = some r) ∧ Aside0 (kq ≤ k1) ∧ Aside0 (Kd.R (Kd.int .i64) 3 w' w.heap.size (fun _ => True) v3 x3_2) ∧ Aside0 (Below w.heap.size w w'))
    case atStart => exact ⟨(x3_1), H', ⟨Nat.le_refl _⟩, ⟨rP HO_3⟩, ⟨bZ HB⟩⟩
    case round =>
     clear H'
     try clear c2
     try clear c2b0
     try clear p2
     try clear q2
     try clear hx2
     try clear c3
     try clear c3b0
     try clear c4
     try clear c4b0
     try clear c6
     try clear p6
     try clear hx293_0
     try clear p293
     try clear q293
     obtain ⟨x3_2, HA, HK2, HO_3, HB⟩ := hrel
     cases gk with
     | zero => exact absurd HA.out (by simp [impl_PolyTrim.l1])
     | succ k2 =>
      have H := HA.out
      clear HA
      simp only [impl_PolyTrim.l1] at H
      by_cases c8 : (x3_2.length : Int) > 0
      ·rw [if_pos c8] at H
       have c8b0 := decide_eq_true c8
       have c8b1 : decide (0 < x3_2.length) = true := decide_eq_true (by omega)
       clear c8
       obtain ⟨ji9, hji9⟩ : ∃ j_ : Int, (wrap64 ((x3_2.length : Int) - 1)) = j_ := ⟨_, rfl⟩
       replace H : (if 0 ≤ (ji9) then (if (ji9) < (x3_2.length : Int) then (if (rd x3_2 (ji9)) = 0 then (if (ji9) ≤ (x3_2.length : Int) then (impl_PolyTrim.l1 k2 (x3_2.take ((ji9) : Int).toNat)) else (none)) else (some x3_2)) else (none)) else (none)) = some r := by first | (rw [hji9] at H; exact H) | (simp only [hji9] at H ⊢; exact H)
       have hji9w : (IntKind.i64.wrap ((x3_2.length : Int) - 1)) = ji9 := (i64_w _).trans hji9
       by_cases c10 : 0 ≤ (ji9)
       ·rw [if_pos c10] at H
        have c10b0 := decide_eq_true c10
        clear c10
        by_cases c11 : (ji9) < (x3_2.length : Int)
        ·rw [if_pos c11] at H
         have c11b0 := decide_eq_true c11
         clear c11
         by_cases c12 : (rd x3_2 (ji9)) = 0
         ·rw [if_pos c12] at H
          have c12b0 : ((rd x3_2 (ji9)) == 0) = true := beq_iff_eq.mpr c12
          have c12b1 : ((rd x3_2 (ji9)) != 0) = false := bne_eq_false_iff_eq.mpr c12
          clear c12
          by_cases c13 : (ji9) ≤ (x3_2.length : Int)
          ·rw [if_pos c13] at H
           have c13b0 := eq_true c13
           have c13b1 := decide_eq_true c13
           clear c13
           obtain ⟨y299, hy299⟩ : ∃ y_ : List Int, y_ = (x3_2.take ((ji9) : Int).toNat) := ⟨_, rfl⟩
           replace H : (impl_PolyTrim.l1 k2 y299) = some r := by first | (rw [hy299]; with_reducible exact H) | (have H2_ := (Option.bind_some _ _).symm.trans H; rw [hy299]; with_reducible exact H2_) | (have H2_ := (Option.bind_some _ _).symm.trans H; with_reducible exact H2_) | with_reducible exact H | (rw [hy299]; exact H) | exact H
           have Ny299 := Aside0.mk hy299
           clear hy299
           have H' := Aside0.mk H
           clear H
           obtain ⟨Ao14, co14, eo14⟩ := Kd.R_slice HO_3.out
           subst eo14
           have p298 : 0 ≤ ((ji9) : Int) := of_decide_eq_true (by first | (with_reducible assumption) | assumption)
           have q298 : (ji9) < (x3_2.length : Int) := of_decide_eq_true (by first | (with_reducible assumption) | assumption)
           obtain ⟨ad298, e298, hx298_0⟩ := Kd.at_int (Kd.R_reads' HO_3.out).2.2 (ji9) p298 q298
           cases e298
           replace p298 := eq_true p298
           replace q298 := eq_true q298
           have q15 : ((ji9) : Int) ≤ ((x3_2.length : Int) : Int) := of_decide_eq_true (by first | (with_reducible assumption) | assumption)
           obtain ⟨i015, hi015, _, hsz15, _⟩ := info_parts info3
           have hcut15 := cut_to (P := Try.prog) 22 3 .i64 Try.underlying22 hi015 (some ad298) x3_2.length co14 (ji9) (of_decide_eq_true (by first | (with_reducible assumption) | assumption)) q15 (Kd.R_reads' HO_3.out).2.1
           have hr15 := Kd.R_take (m := ((ji9) : Int).toNat) HO_3.out (by omega)
           have hy15 : y299.length = ((ji9) : Int).toNat := (by rw [Ny299.out, List.length_take]; omega)
           rw [← Ny299.out] at hr15
           rw [← hy15] at hr15 hcut15
           clear hy15 hi015 hsz15 HO_3
           have HO301 := Aside0.mk hr15
           clear hr15
           replace q15 := eq_true q15
           go_wp2
           go_roundg k2
           case measure => have := HK1.out; have := HK2.out; omega
           case rel => exact ⟨(y299), H', ⟨by have := HK1.out; have := HK2.out; omega⟩, ⟨rP HO301⟩, ⟨bZ HB⟩⟩
          ·rw [if_neg c13] at H
           exact absurd H (by simp)
         ·rw [if_neg c12] at H
          have c12b0 : ((rd x3_2 (ji9)) == 0) = false := beq_eq_false_iff_ne.mpr c12
          have c12b1 : ((rd x3_2 (ji9)) != 0) = true := bne_iff_ne.mpr c12
          obtain rfl := Option.some.inj H
          obtain ⟨Ao16, co16, eo16⟩ := Kd.R_slice HO_3.out
          subst eo16
          have p298 : 0 ≤ ((ji9) : Int) := of_decide_eq_true (by first | (with_reducible assumption) | assumption)
          have q298 : (ji9) < (x3_2.length : Int) := of_decide_eq_true (by first | (with_reducible assumption) | assumption)
          obtain ⟨ad298, e298, hx298_0⟩ := Kd.at_int (Kd.R_reads' HO_3.out).2.2 (ji9) p298 q298
          cases e298
          replace p298 := eq_true p298
          replace q298 := eq_true q298
          go_wp2
          go_ret
          exact ⟨_, by first | rfl | (simp [errW_none, errW_some] <;> rfl) | (simp only [← hji9]; first | rfl | (simp [errW_none, errW_some] <;> rfl)) | (simp [*, errW_none, errW_some] <;> rfl), by (with_reducible repeat (first | apply Kd.R_alloc | apply Kd.R_drewN | apply Kd.R_drew)); exact HO_3.out, bZ HB⟩
        ·rw [if_neg c11] at H
         exact absurd H (by simp)
       ·rw [if_neg c10] at H
        exact absurd H (by simp)
      ·rw [if_neg c8] at H
       have c8b0 := decide_eq_false c8
       have c8b1 : decide (0 < x3_2.length) = false := decide_eq_false (by omega)
       clear c8
       obtain rfl := Option.some.inj H
       obtain ⟨Ao17, co17, eo17⟩ := Kd.R_slice HO_3.out
       subst eo17
       go_wp2
       go_ret
       exact ⟨_, by first | rfl | (simp [errW_none, errW_some] <;> rfl) | (simp [*, errW_none, errW_some] <;> rfl), by (with_reducible repeat (first | apply Kd.R_alloc | apply Kd.R_drewN | apply Kd.R_drew)); exact HO_3.out, bZ HB⟩

end Go.Proofs.Ytcnejiflpioaiaa.Pf
end
section
namespace Go.Proofs.Ytcnejiflpioaiaa.Pf
open Go.RowKit Go.Proofs.YtcnejiflpioaiaaW.PrintWords Go.Proofs.YtcnejiflpioaiaaW.PrintLast Go.Proofs.YtcnejiflpioaiaaW.PrintMore
attribute [local go_sem] max2_int min2_int max_two min_two max_three min_three max_four min_four   -- for this text's walks alone
set_option linter.unusedVariables false
set_option linter.unusedSimpArgs false
/-! ### impl_ScAdd: function 50 -/
def impl_ScAdd.f (a0 : Int) (a1 : Int) : Option (Int) := (impl_ScOf.f a0).bind fun t302 => ((impl_ScOf.f a1).bind fun t303 => ((impl_ScOf.f (wrap64 (t302 + t303))).bind fun t304 => (some t304)))
set_option maxHeartbeats 8000000 in
set_option maxRecDepth 100000 in
theorem impl_ScAdd.calls (a0 : Int) (a1 : Int) (r : Int) (w : World) (h : impl_ScAdd.f a0 a1 = some r) :
  Calls Try.prog 50 #[.int .i64 a0, .int .i64 a1] w fun e w' => e = .returned (.int .i64 r) ∧ Drawn0 w w' := by
 have H : ((impl_ScOf.f a0).bind fun t302 => ((impl_ScOf.f a1).bind fun t303 => ((impl_ScOf.f (wrap64 (t302 + t303))).bind fun t304 => (some t304)))) = some r := h
 clear h
 replace H := Option.bind_eq_some_iff.mp H
 obtain ⟨t302, A30, H⟩ := H
 have A3 := Aside0.mk A30
 clear A30
 replace H := Option.bind_eq_some_iff.mp H
 obtain ⟨t303, A40, H⟩ := H
 have A4 := Aside0.mk A40
 clear A40
 replace H := Option.bind_eq_some_iff.mp H
 obtain ⟨t304, A50, H⟩ := H
 have A5 := Aside0.mk A50
 clear A50
 obtain rfl := Option.some.inj H
 go_enter Try.func50, Try.ntmps50
 go_wp2_with (first | (refine gC (some 6) Try.func63 #[.int .i64 a0] ?_; (with_reducible refine (impl_ScOf.calls a0 t302 _ A3.out).mono ?_); rintro e w' ⟨rfl, ⟨nd, rfl⟩⟩; refine ⟨_, rfl, ?_⟩) | (refine gC (some 8) Try.func63 #[.int .i64 a1] ?_; (with_reducible refine (impl_ScOf.calls a1 t303 _ A4.out).mono ?_); rintro e w' ⟨rfl, ⟨nd, rfl⟩⟩; refine ⟨_, rfl, ?_⟩) | (refine gC (some 10) Try.func63 #[.int .i64 (wrap64 (t302 + t303))] ?_; (with_reducible refine (impl_ScOf.calls (wrap64 (t302 + t303)) t304 _ A5.out).mono ?_); rintro e w' ⟨rfl, ⟨nd, rfl⟩⟩; refine ⟨_, rfl, ?_⟩))
 go_ret
 exact ⟨rS, rD⟩
end Go.Proofs.Ytcnejiflpioaiaa.Pf
end
section
namespace Go.Proofs.Ytcnejiflpioaiaa.Pf
open Go.RowKit Go.Proofs.YtcnejiflpioaiaaW.PrintWords Go.Proofs.YtcnejiflpioaiaaW.PrintLast Go.Proofs.YtcnejiflpioaiaaW.PrintMore
attribute [local go_sem] max2_int min2_int max_two min_two max_three min_three max_four min_four   -- for this text's walks alone
set_option linter.unusedVariables false
set_option linter.unusedSimpArgs false

/-! ### impl_PolyAdd: function 32 -/
mutual
def impl_PolyAdd.l0 : Nat → List Int → List Int → List Int → Int → Int → Option (List Int)
 | 0, _, _, _, _, _ => none
 | k + 1, x1, x5, x16, x17, x18 => if x18 < x17 then (if 0 ≤ x18 then (if x18 < (x16.length : Int) then ((impl_ScOf.f (rd x16 x18)).bind fun t309 => (if x18 < (x5.length : Int) then (impl_PolyAdd.l0 k x1 (x5.set (x18 : Int).toNat t309) x16 x17 (wrap64 (x18 + 1))) else (none))) else (none)) else (none)) else (impl_PolyAdd.l1 k x5 x1 (x1.length : Int) 0)
def impl_PolyAdd.l1 : Nat → List Int → List Int → Int → Int → Option (List Int)
 | 0, _, _, _, _ => none
 | k + 1, x5, x29, x30, x31 => if x31 < x30 then (if 0 ≤ x31 then (if x31 < (x29.length : Int) then (if x31 < (x5.length : Int) then ((impl_ScAdd.f (rd x5 x31) (rd x29 x31)).bind fun t313 => (impl_PolyAdd.l1 k (x5.set (x31 : Int).toNat t313) x29 x30 (wrap64 (x31 + 1)))) else (none)) else (none)) else (none)) else ((impl_PolyTrim.f k x5).bind fun t315 => (some t315))
end
def impl_PolyAdd.f (k : Nat) (l0 : List Int) (l1 : List Int) : Option (List Int) := if 0 ≤ (mx (l0.length : Int) (l1.length : Int)) then (if (mx (l0.length : Int) (l1.length : Int) : Int).toNat ≤ 35184372088832 then (impl_PolyAdd.l0 k l1 (List.replicate (mx (l0.length : Int) (l1.length : Int) : Int).toNat 0) l0 (l0.length : Int) 0) else (none)) else (none)
theorem impl_PolyAdd.mono_l : ∀ k, (∀ y0 y1 y2 y3 y4, LeO (impl_PolyAdd.l0 k y0 y1 y2 y3 y4) (impl_PolyAdd.l0 (k + 1) y0 y1 y2 y3 y4)) ∧ (∀ y0 y1 y2 y3, LeO (impl_PolyAdd.l1 k y0 y1 y2 y3) (impl_PolyAdd.l1 (k + 1) y0 y1 y2 y3))
 | 0 => ⟨fun _ _ _ _ _ r h => by simp [impl_PolyAdd.l0] at h, fun _ _ _ _ r h => by simp [impl_PolyAdd.l1] at h⟩
 | k + 1 => by
  obtain ⟨ih0, ih1⟩ := impl_PolyAdd.mono_l k
  refine ⟨?_, ?_⟩
  ·intro y0 y1 y2 y3 y4
   unfold impl_PolyAdd.l0
   with_reducible repeat' first | exact ih0 _ _ _ _ _ | exact ih1 _ _ _ _ | exact impl_PolyTrim.mono _ _ | exact LeO.refl _ | exact LeO.none _ | refine LeO.ite ?_ ?_ | refine LeO.bind ?_ (fun _ => ?_)
  ·intro y0 y1 y2 y3
   unfold impl_PolyAdd.l1
   with_reducible repeat' first | exact ih0 _ _ _ _ _ | exact ih1 _ _ _ _ | exact impl_PolyTrim.mono _ _ | exact LeO.refl _ | exact LeO.none _ | refine LeO.ite ?_ ?_ | refine LeO.bind ?_ (fun _ => ?_)
theorem impl_PolyAdd.mono : ∀ a0 a1 k, LeO (impl_PolyAdd.f k a0 a1) (impl_PolyAdd.f (k + 1) a0 a1) := by
 intro a0 a1 k
 obtain ⟨ih0, ih1⟩ := impl_PolyAdd.mono_l k
 unfold impl_PolyAdd.f
 with_reducible repeat' first | exact ih0 _ _ _ _ _ | exact ih1 _ _ _ _ | exact impl_PolyTrim.mono _ _ | exact LeO.refl _ | exact LeO.none _ | refine LeO.ite ?_ ?_ | refine LeO.bind ?_ (fun _ => ?_)
set_option maxHeartbeats 8000000 in
set_option maxRecDepth 100000 in
theorem impl_PolyAdd.calls (k : Nat) (A0 : Option Addr) (c0 : Nat) (l0 : List Int) (A1 : Option Addr) (c1 : Nat) (l1 : List Int) (r : List Int) (w : World) (hr0 : Kd.C (Kd.int .i64) w A0 l0.length l0) (hc0 : l0.length ≤ c0) (hr1 : Kd.C (Kd.int .i64) w A1 l1.length l1) (hc1 : l1.length ≤ c1) (h : impl_PolyAdd.f k l0 l1 = some r) :
  Calls Try.prog 32 #[.slice A0 l0.length c0, .slice A1 l1.length c1] w fun e w' => ∃ v0_ : Value, e = .returned (v0_) ∧ Kd.R (Kd.int .i64) 3 w' w.heap.size (fun _ => True) v0_ r ∧ Below w.heap.size w w' := by
 have HR0 := Aside0.mk hr0
 have HC0 := Aside0.mk hc0
 clear hr0 hc0
 have HR1 := Aside0.mk hr1
 have HC1 := Aside0.mk hc1
 clear hr1 hc1
 have HB := Aside0.mk (Below.refl w.heap.size w)
 have H : (if 0 ≤ (mx (l0.length : Int) (l1.length : Int)) then (if (mx (l0.length : Int) (l1.length : Int) : Int).toNat ≤ 35184372088832 then (impl_PolyAdd.l0 k l1 (List.replicate (mx (l0.length : Int) (l1.length : Int) : Int).toNat 0) l0 (l0.length : Int) 0) else (none)) else (none)) = some r := h
 clear h
 obtain ⟨ji3, hji3⟩ : ∃ j_ : Int, (mx (l0.length : Int) (l1.length : Int)) = j_ := ⟨_, rfl⟩
 replace H : (if 0 ≤ (ji3) then (if (ji3 : Int).toNat ≤ 35184372088832 then (impl_PolyAdd.l0 k l1 (List.replicate (ji3 : Int).toNat 0) l0 (l0.length : Int) 0) else (none)) else (none)) = some r := by first | (rw [hji3] at H; exact H) | (simp only [hji3] at H ⊢; exact H)
 (try (have hji3l : 0 ≤ ji3 := by (rw [← hji3]; unfold mx; (repeat' split) <;> omega)))
 (try (have hji3m : 0 ≤ ji3 := by omega))
 have hji3_ : (if (l0.length : Int) < (l1.length : Int) then (l1.length : Int) else (l0.length : Int)) = ji3 := hji3
 try (have hji3n_ := hji3_; simp only [Int.ofNat_lt] at hji3n_)
 by_cases c4 : 0 ≤ (ji3)
 ·rw [if_pos c4] at H
  have c4b0 := eq_true c4
  have c4b1 := decide_eq_true c4
  clear c4
  by_cases c5 : (ji3 : Int).toNat ≤ 35184372088832
  ·rw [if_pos c5] at H
   have c5b0 := eq_true c5
   have c5b1 := decide_eq_true c5
   clear c5
   obtain ⟨y305, hy305⟩ : ∃ y_ : List Int, y_ = (List.replicate (ji3 : Int).toNat 0) := ⟨_, rfl⟩
   replace H : (impl_PolyAdd.l0 k l1 y305 l0 (l0.length : Int) 0) = some r := by first | (rw [hy305]; with_reducible exact H) | (have H2_ := (Option.bind_some _ _).symm.trans H; rw [hy305]; with_reducible exact H2_) | (have H2_ := (Option.bind_some _ _).symm.trans H; with_reducible exact H2_) | with_reducible exact H | (rw [hy305]; exact H) | exact H
   have Ny305 := Aside0.mk hy305
   clear hy305
   have H' := Aside0.mk H
   clear H
   go_enter Try.func32, Try.ntmps32
   go_wp2_with (first | ((with_reducible refine gate_dst (N := 15) rfl ?_); refine Kd.R_make (Kd.int .i64) _ 3 rfl (N := 15) rfl 22 _ _ rfl ji3 rfl rfl Try.underlying22 (.int .i64 0) 8 info3 rfl (by decide) (by omega) 0 (ok := fun _ => True) (okp := fun _ => True) rfl (fun _ hk => hk) trivial (of_decide_eq_true (by first | (with_reducible assumption) | assumption)) (Nat.le_trans (Nat.mul_le_mul_right _ (of_decide_eq_true (by first | (with_reducible assumption) | assumption) : ji3.toNat ≤ 35184372088832)) (by omega)) (Below.refl _ _) (Nat.le_refl _) ?_; intro v306 w6 ho7 hb hg_ hnew_; clear hg_ hnew_; (first | rw [← Ny305.out] at ho7 | (simp only [Int.reduceToNat] at ho7; rw [← Ny305.out] at ho7)); have HO307 := Aside0.mk (Kd.R_lower ho7 (below_size (bZ HB))); replace HB := bS HB hb; clear hb ho7))
   go_loopg [18] k (fun kq v18 w' => ∃ (x5_1 : List Int) (x18_1 : Int), v18 = .int .i64 x18_1 ∧ Aside0 (impl_PolyAdd.l0 kq l1 x5_1 l0 (l0.length : Int) x18_1 = some r) ∧ Aside0 (kq ≤ k) ∧ Aside0 (Kd.R (Kd.int .i64) 3 w' w.heap.size (fun _ => True) v306 x5_1) ∧ Aside0 (Below w.heap.size w w'))
   case atStart => exact ⟨(y305), (0), rS, H', ⟨Nat.le_refl _⟩, ⟨rP HO307⟩, ⟨bZ HB⟩⟩
   case round =>
    clear H'
    try clear c1
    try clear p2
    try clear c3
    try clear c4
    try clear c4b0
    try clear c4b1
    try clear c5
    try clear c5b0
    try clear c5b1
    obtain ⟨x5_1, x18_1, rfl, HA, HK1, HO_5, HB⟩ := hrel
    cases gk with
    | zero => exact absurd HA.out (by simp [impl_PolyAdd.l0])
    | succ k1 =>
     have H := HA.out
     clear HA
     simp only [impl_PolyAdd.l0] at H
     by_cases c8 : x18_1 < (l0.length : Int)
     ·rw [if_pos c8] at H
      have c8b0 := decide_eq_true c8
      clear c8
      by_cases c9 : 0 ≤ x18_1
      ·rw [if_pos c9] at H
       have c9b0 := decide_eq_true c9
       clear c9
       by_cases c10 : x18_1 < (l0.length : Int)
       ·rw [if_pos c10] at H
        have c10b0 := decide_eq_true c10
        clear c10
        replace H := Option.bind_eq_some_iff.mp H
        obtain ⟨t309, A110, H⟩ := H
        have A11 := Aside0.mk A110
        clear A110
        by_cases c12 : x18_1 < (x5_1.length : Int)
        ·rw [if_pos c12] at H
         have c12b0 := decide_eq_true c12
         clear c12
         obtain ⟨y310, hy310⟩ : ∃ y_ : List Int, y_ = (x5_1.set (x18_1 : Int).toNat t309) := ⟨_, rfl⟩
         replace H : (impl_PolyAdd.l0 k1 l1 y310 l0 (l0.length : Int) (wrap64 (x18_1 + 1))) = some r := by first | (rw [hy310]; with_reducible exact H) | (have H2_ := (Option.bind_some _ _).symm.trans H; rw [hy310]; with_reducible exact H2_) | (have H2_ := (Option.bind_some _ _).symm.trans H; with_reducible exact H2_) | with_reducible exact H | (rw [hy310]; exact H) | exact H
         have Ny310 := Aside0.mk hy310
         clear hy310
         have H' := Aside0.mk H
         clear H
         have p308 : 0 ≤ (x18_1 : Int) := of_decide_eq_true (by first | (with_reducible assumption) | assumption)
         have q308 : x18_1 < (l0.length : Int) := of_decide_eq_true (by first | (with_reducible assumption) | assumption)
         obtain ⟨ad308, e308, hx308_0⟩ := Kd.at_int HR0.out x18_1 p308 q308
         cases e308
         replace hx308_0 := (hC HB hx308_0 :)
         replace p308 := eq_true p308
         replace q308 := eq_true q308
         go_wp2_with (first | (refine gC (some 26) Try.func63 #[.int .i64 (rd l0 x18_1)] ?_; (with_reducible refine (impl_ScOf.calls (rd l0 x18_1) t309 _ A11.out).mono ?_); rintro e w' ⟨rfl, ⟨nd, rfl⟩⟩; refine ⟨_, rfl, ?_⟩; (try simp only [World.drewN_drewN]); (try (rw [drewN_self wr]; generalize hq_ : World.drewN wr _ = wr; replace HO_5 : Aside0 (Kd.R (Kd.int .i64) 3 wr w.heap.size (fun _ => True) v306 x5_1) := ⟨by rw [← hq_]; exact (rP HO_5)⟩; replace HB : Aside0 (Below w.heap.size w wr) := ⟨by rw [← hq_]; exact (bZ HB)⟩; clear hq_)); have p13 : 0 ≤ (x18_1 : Int) := of_decide_eq_true (by first | (with_reducible assumption) | assumption); have q13 : (x18_1 : Int) < ((x5_1.length : Int) : Int) := of_decide_eq_true (by first | (with_reducible assumption) | assumption); obtain ⟨go13, co13, eo13, gb13, gl13, cl13, HG13⟩ := Kd.R_form HO_5.out (by omega); (first | cases eo13 | (injection eo13 with ea_ en_ ec_; (first | subst ea_ | (injection ea_ with ea_; subst ea_)); subst ec_; clear en_)); have GB13 := Aside0.mk gb13; have GG13 := Aside0.mk HG13; clear gb13 gl13 HG13; obtain ⟨hx13_0, hf13_0⟩ := Kd.R_celln 0 HO_5.out (x18_1 : Int) p13 q13; replace p13 := eq_true p13; replace q13 := eq_true q13; obtain ⟨hy14_, hz14_⟩ := Kd.R_celln 0 HO_5.out (x18_1 : Int) (of_decide_eq_true (by first | (with_reducible assumption) | assumption)) (of_decide_eq_true (by first | (with_reducible assumption) | assumption)); have HP14 := Kd.R_putg HO_5.out (x18_1 : Int) t309) | ((with_reducible refine gate_store (t := 3) (p := 27) rfl ?_); refine store_event (t := 3) (p := 27) (v := ?vo_w15) (w1 := (wr.setCell ⟨go13, (x18_1 : Int).toNat, none⟩ (.int .i64 t309))) ?hg ?ho ?hn ?hr ?_; (case ho => rfl); (case hg => rfl); (case hn => rfl); (case hr => first | (go_simp; done) | (go_simp; rfl)); intro w15 hw; have hg : wr.grownBy w15 (some go13) := (by rw [hw]; exact HP14.2); have hp_ : Kd.R (Kd.int .i64) 3 w15 w.heap.size (fun _ => True) (.slice (some ⟨go13, 0, none⟩) x5_1.length co13) y310 := (by rw [hw, Ny310.out]; exact HP14.1); clear HP14; replace HO_5 := Aside0.mk (hp_); replace HB := Aside0.mk ((by rw [hw]; exact below_set (HB.out) GB13.out : Below w.heap.size w w15)); clear hg hw hp_))
         go_roundg k1
         case measure => have := HK1.out; omega
         case rel => exact ⟨(y310), (wrap64 (x18_1 + 1)), rS, H', ⟨by have := HK1.out; omega⟩, ⟨rP HO_5⟩, ⟨bZ HB⟩⟩
        ·rw [if_neg c12] at H
         exact absurd H (by simp)
       ·rw [if_neg c10] at H
        exact absurd H (by simp)
      ·rw [if_neg c9] at H
       exact absurd H (by simp)
     ·rw [if_neg c8] at H
      have c8b0 := decide_eq_false c8
      clear c8
      have H' := Aside0.mk H
      clear H
      go_wp2
      go_loopg [31] k1 (fun kq v31 w' => ∃ (x5_2 : List Int) (x31_2 : Int), v31 = .int .i64 x31_2 ∧ Aside0 (impl_PolyAdd.l1 kq x5_2 l1 (l1.length : Int) x31_2 = some r) ∧ Aside0 (kq ≤ k1) ∧ Aside0 (Kd.R (Kd.int .i64) 3 w' w.heap.size (fun _ => True) v306 x5_2) ∧ Aside0 (Below w.heap.size w w'))
      case atStart => exact ⟨(x5_1), (0), rS, H', ⟨Nat.le_refl _⟩, ⟨rP HO_5⟩, ⟨bZ HB⟩⟩
      case round =>
       clear H'
       try clear c1
       try clear p1
       try clear q1
       try clear hx1
       try clear p2
       try clear c3
       try clear p3
       try clear q3
       try clear hx3
       try clear c4
       try clear c4b0
       try clear c4b1
       try clear c5
       try clear c5b0
       try clear c5b1
       try clear c6
       try clear p6
       try clear c8
       try clear c8b0
       try clear c9
       try clear c9b0
       try clear c10
       try clear c10b0
       try clear c12
       try clear c12b0
       try clear p13
       try clear q13
       try clear hx13
       try clear hf13
       try clear hx13_0
       try clear hx308_0
       try clear p13
       try clear p2
       try clear p308
       try clear q13
       try clear q308
       obtain ⟨x5_2, x31_2, rfl, HA, HK2, HO_5, HB⟩ := hrel
       cases gk with
       | zero => exact absurd HA.out (by simp [impl_PolyAdd.l1])
       | succ k2 =>
        have H := HA.out
        clear HA
        simp only [impl_PolyAdd.l1] at H
        by_cases c16 : x31_2 < (l1.length : Int)
        ·rw [if_pos c16] at H
         have c16b0 := decide_eq_true c16
         clear c16
         by_cases c17 : 0 ≤ x31_2
         ·rw [if_pos c17] at H
          have c17b0 := decide_eq_true c17
          clear c17
          by_cases c18 : x31_2 < (l1.length : Int)
          ·rw [if_pos c18] at H
           have c18b0 := decide_eq_true c18
           clear c18
           by_cases c19 : x31_2 < (x5_2.length : Int)
           ·rw [if_pos c19] at H
            have c19b0 := decide_eq_true c19
            clear c19
            replace H := Option.bind_eq_some_iff.mp H
            obtain ⟨t313, A200, H⟩ := H
            have A20 := Aside0.mk A200
            clear A200
            obtain ⟨y314, hy314⟩ : ∃ y_ : List Int, y_ = (x5_2.set (x31_2 : Int).toNat t313) := ⟨_, rfl⟩
            replace H : (impl_PolyAdd.l1 k2 y314 l1 (l1.length : Int) (wrap64 (x31_2 + 1))) = some r := by first | (rw [hy314]; with_reducible exact H) | (have H2_ := (Option.bind_some _ _).symm.trans H; rw [hy314]; with_reducible exact H2_) | (have H2_ := (Option.bind_some _ _).symm.trans H; with_reducible exact H2_) | with_reducible exact H | (rw [hy314]; exact H) | exact H
            have Ny314 := Aside0.mk hy314
            clear hy314
            have H' := Aside0.mk H
            clear H
            have p311 : 0 ≤ (x31_2 : Int) := of_decide_eq_true (by first | (with_reducible assumption) | assumption)
            have q311 : x31_2 < (l1.length : Int) := of_decide_eq_true (by first | (with_reducible assumption) | assumption)
            obtain ⟨ad311, e311, hx311_0⟩ := Kd.at_int HR1.out x31_2 p311 q311
            cases e311
            replace hx311_0 := (hC HB hx311_0 :)
            replace p311 := eq_true p311
            replace q311 := eq_true q311
            obtain ⟨Ao22, co22, eo22⟩ := Kd.R_slice HO_5.out
            subst eo22
            have p312 : 0 ≤ (x31_2 : Int) := of_decide_eq_true (by first | (with_reducible assumption) | assumption)
            have q312 : x31_2 < (x5_2.length : Int) := of_decide_eq_true (by first | (with_reducible assumption) | assumption)
            obtain ⟨ad312, e312, hx312_0⟩ := Kd.at_int (Kd.R_reads' HO_5.out).2.2 x31_2 p312 q312
            cases e312
            replace p312 := eq_true p312
            replace q312 := eq_true q312
            go_wp2_with (first | (refine gC (some 43) Try.func50 #[.int .i64 (rd x5_2 x31_2), .int .i64 (rd l1 x31_2)] ?_; (with_reducible refine (impl_ScAdd.calls (rd x5_2 x31_2) (rd l1 x31_2) t313 _ A20.out).mono ?_); rintro e w' ⟨rfl, ⟨nd, rfl⟩⟩; refine ⟨_, rfl, ?_⟩; (try simp only [World.drewN_drewN]); (try (rw [drewN_self wr]; generalize hq_ : World.drewN wr _ = wr; replace HO_5 : Aside0 (Kd.R (Kd.int .i64) 3 wr w.heap.size (fun _ => True) (.slice (some ad312) x5_2.length co22) x5_2) := ⟨by rw [← hq_]; exact (rP HO_5)⟩; replace HB : Aside0 (Below w.heap.size w wr) := ⟨by rw [← hq_]; exact (bZ HB)⟩; clear hq_)); have p21 : 0 ≤ (x31_2 : Int) := of_decide_eq_true (by first | (with_reducible assumption) | assumption); have q21 : (x31_2 : Int) < ((x5_2.length : Int) : Int) := of_decide_eq_true (by first | (with_reducible assumption) | assumption); obtain ⟨go21, co21, eo21, gb21, gl21, cl21, HG21⟩ := Kd.R_form HO_5.out (by omega); (first | cases eo21 | (injection eo21 with ea_ en_ ec_; (first | subst ea_ | (injection ea_ with ea_; subst ea_)); subst ec_; clear en_)); have GB21 := Aside0.mk gb21; have GG21 := Aside0.mk HG21; clear gb21 gl21 HG21; (first | simp only [add_plain] at hx312_0 | skip); obtain ⟨hx21_0, hf21_0⟩ := Kd.R_celln 0 HO_5.out (x31_2 : Int) p21 q21; replace p21 := eq_true p21; replace q21 := eq_true q21; obtain ⟨hy23_, hz23_⟩ := Kd.R_celln 0 HO_5.out (x31_2 : Int) (of_decide_eq_true (by first | (with_reducible assumption) | assumption)) (of_decide_eq_true (by first | (with_reducible assumption) | assumption)); have HP23 := Kd.R_putg HO_5.out (x31_2 : Int) t313) | ((with_reducible refine gate_store (t := 3) (p := 44) rfl ?_); refine store_event (t := 3) (p := 44) (v := ?vo_w24) (w1 := (wr.setCell ⟨go21, (x31_2 : Int).toNat, none⟩ (.int .i64 t313))) ?hg ?ho ?hn ?hr ?_; (case ho => rfl); (case hg => rfl); (case hn => rfl); (case hr => first | (go_simp; done) | (go_simp; rfl)); intro w24 hw; have hg : wr.grownBy w24 (some go21) := (by rw [hw]; exact HP23.2); have hp_ : Kd.R (Kd.int .i64) 3 w24 w.heap.size (fun _ => True) (.slice (some ⟨go21, 0, none⟩) x5_2.length co22) y314 := (by rw [hw, Ny314.out]; exact HP23.1); clear HP23; replace HO_5 := Aside0.mk (hp_); replace HB := Aside0.mk ((by rw [hw]; exact below_set (HB.out) GB21.out : Below w.heap.size w w24)); clear hg hw hp_))
            go_roundg k2
            case measure => have := HK1.out; have := HK2.out; omega
            case rel => exact ⟨(y314), (wrap64 (x31_2 + 1)), rS, H', ⟨by have := HK1.out; have := HK2.out; omega⟩, ⟨rP HO_5⟩, ⟨bZ HB⟩⟩
           ·rw [if_neg c19] at H
            exact absurd H (by simp)
          ·rw [if_neg c18] at H
           exact absurd H (by simp)
         ·rw [if_neg c17] at H
          exact absurd H (by simp)
        ·rw [if_neg c16] at H
         have c16b0 := decide_eq_false c16
         clear c16
         replace H := Option.bind_eq_some_iff.mp H
         obtain ⟨t315, A250, H⟩ := H
         have A25 := Aside0.mk A250
         clear A250
         obtain rfl := Option.some.inj H
         obtain ⟨Ao26, co26, eo26⟩ := Kd.R_slice HO_5.out
         subst eo26
         go_wp2_with (first | (refine gC (some 47) Try.func20 #[.slice Ao26 x5_2.length co26] ?_; (with_reducible refine (impl_PolyTrim.calls k2 _ _ x5_2 t315 _ ?side1 ?side2 A25.out).mono ?_); (case side1 => exact cP ((Kd.R_reads' HO_5.out).2.2)); (case side2 => exact (Kd.R_reads' HO_5.out).2.1); rintro e w27 ⟨v316, rfl, ho0, hb⟩; refine ⟨_, rfl, ?_⟩; have HO317 := Aside0.mk (Kd.R_lower (Kd.R_new' ho0 (Kd.R_lt (rP HO_5))) (below_size (bZ HB))); replace HO_5 := Aside0.mk (Kd.R_elder' (rP HO_5) (Kd.R_base ho0) hb); replace HB := bS HB hb; (try clear hb); (try clear ho0)))
         go_ret
         exact ⟨_, by first | rfl | (simp [errW_none, errW_some] <;> rfl) | (simp only [← hji3]; first | rfl | (simp [errW_none, errW_some] <;> rfl)) | (simp [*, errW_none, errW_some] <;> rfl), by (with_reducible repeat (first | apply Kd.R_alloc | apply Kd.R_drewN | apply Kd.R_drew)); exact Kd.R_mono HO317.out (fun _ hk => trivial), bZ HB⟩
  ·rw [if_neg c5] at H
   exact absurd H (by simp)
 ·rw [if_neg c4] at H
  exact absurd H (by simp)

end Go.Proofs.Ytcnejiflpioaiaa.Pf
end
section
namespace Go.Proofs.Ytcnejiflpioaiaa.Pf
open Go.RowKit Go.Proofs.YtcnejiflpioaiaaW.PrintWords Go.Proofs.YtcnejiflpioaiaaW.PrintLast Go.Proofs.YtcnejiflpioaiaaW.PrintMore
attribute [local go_sem] max2_int min2_int max_two min_two max_three min_three max_four min_four   -- for this text's walks alone
set_option linter.unusedVariables false
set_option linter.unusedSimpArgs false
/-! ### impl_ScMul: function 49 -/
def impl_ScMul.f (a0 : Int) (a1 : Int) : Option (Int) := (impl_ScOf.f a0).bind fun t318 => ((impl_ScOf.f a1).bind fun t319 => ((impl_ScOf.f (wrap64 (t318 * t319))).bind fun t320 => (some t320)))
set_option maxHeartbeats 8000000 in
set_option maxRecDepth 100000 in
theorem impl_ScMul.calls (a0 : Int) (a1 : Int) (r : Int) (w : World) (h : impl_ScMul.f a0 a1 = some r) :
  Calls Try.prog 49 #[.int .i64 a0, .int .i64 a1] w fun e w' => e = .returned (.int .i64 r) ∧ Drawn0 w w' := by
 have H : ((impl_ScOf.f a0).bind fun t318 => ((impl_ScOf.f a1).bind fun t319 => ((impl_ScOf.f (wrap64 (t318 * t319))).bind fun t320 => (some t320)))) = some r := h
 clear h
 replace H := Option.bind_eq_some_iff.mp H
 obtain ⟨t318, A30, H⟩ := H
 have A3 := Aside0.mk A30
 clear A30
 replace H := Option.bind_eq_some_iff.mp H
 obtain ⟨t319, A40, H⟩ := H
 have A4 := Aside0.mk A40
 clear A40
 replace H := Option.bind_eq_some_iff.mp H
 obtain ⟨t320, A50, H⟩ := H
 have A5 := Aside0.mk A50
 clear A50
 obtain rfl := Option.some.inj H
 go_enter Try.func49, Try.ntmps49
 go_wp2_with (first | (refine gC (some 6) Try.func63 #[.int .i64 a0] ?_; (with_reducible refine (impl_ScOf.calls a0 t318 _ A3.out).mono ?_); rintro e w' ⟨rfl, ⟨nd, rfl⟩⟩; refine ⟨_, rfl, ?_⟩) | (refine gC (some 8) Try.func63 #[.int .i64 a1] ?_; (with_reducible refine (impl_ScOf.calls a1 t319 _ A4.out).mono ?_); rintro e w' ⟨rfl, ⟨nd, rfl⟩⟩; refine ⟨_, rfl, ?_⟩) | (refine gC (some 10) Try.func63 #[.int .i64 (wrap64 (t318 * t319))] ?_; (with_reducible refine (impl_ScOf.calls (wrap64 (t318 * t319)) t320 _ A5.out).mono ?_); rintro e w' ⟨rfl, ⟨nd, rfl⟩⟩; refine ⟨_, rfl, ?_⟩))
 go_ret
 exact ⟨rS, rD⟩
end Go.Proofs.Ytcnejiflpioaiaa.Pf
end
section
namespace Go.Proofs.Ytcnejiflpioaiaa.Pf
open Go.RowKit Go.Proofs.YtcnejiflpioaiaaW.PrintWords Go.Proofs.YtcnejiflpioaiaaW.PrintLast Go.Proofs.YtcnejiflpioaiaaW.PrintMore
attribute [local go_sem] max2_int min2_int max_two min_two max_three min_three max_four min_four   -- for this text's walks alone
set_option linter.unusedVariables false
set_option linter.unusedSimpArgs false

/-! ### impl_PolyMul: function 34 -/
mutual
def impl_PolyMul.j0 : Nat → List Int → List Int → Bool → Option (List Int)
 | 0, _, _, _ => none
 | k + 1, x0, x1, x17 => if x17 = true then (some ([] : List Int)) else (if 0 ≤ (wrap64 ((x0.length : Int) + (x1.length : Int))) then (if (wrap64 ((x0.length : Int) + (x1.length : Int)) : Int).toNat ≤ 35184372088832 then (impl_PolyMul.l0 k x1 (List.replicate (wrap64 ((x0.length : Int) + (x1.length : Int)) : Int).toNat 0) x0 (x0.length : Int) 0) else (none)) else (none))
def impl_PolyMul.l0 : Nat → List Int → List Int → List Int → Int → Int → Option (List Int)
 | 0, _, _, _, _, _ => none
 | k + 1, x1, x5, x24, x25, x26 => if x26 < x25 then (if 0 ≤ x26 then (if x26 < (x24.length : Int) then (impl_PolyMul.l1 k x1 x5 x26 (rd x24 x26) x24 x25 x26 x1 (x1.length : Int) 0) else (none)) else (none)) else ((impl_PolyTrim.f k x5).bind fun t324 => (some t324))
def impl_PolyMul.l1 : Nat → List Int → List Int → Int → Int → List Int → Int → Int → List Int → Int → Int → Option (List Int)
 | 0, _, _, _, _, _, _, _, _, _, _ => none
 | k + 1, x1, x5, x6, x7, x24, x25, x26, x31, x32, x33 => if x33 < x32 then (if 0 ≤ x33 then (if x33 < (x31.length : Int) then (if 0 ≤ (wrap64 (x6 + x33)) then (if (wrap64 (x6 + x33)) < (x5.length : Int) then ((impl_ScMul.f x7 (rd x31 x33)).bind fun t330 => ((impl_ScAdd.f (rd x5 (wrap64 (x6 + x33))) t330).bind fun t331 => (impl_PolyMul.l1 k x1 (x5.set ((wrap64 (x6 + x33)) : Int).toNat t331) x6 x7 x24 x25 x26 x31 x32 (wrap64 (x33 + 1))))) else (none)) else (none)) else (none)) else (none)) else (impl_PolyMul.l0 k x1 x5 x24 x25 (wrap64 (x26 + 1)))
end
def impl_PolyMul.f (k : Nat) (l0 : List Int) (l1 : List Int) : Option (List Int) := if (l0.length : Int) > 64 then (impl_PolyMul.j0 k l0 l1 true) else (impl_PolyMul.j0 k l0 l1 (decide ((l1.length : Int) > 64)))
theorem impl_PolyMul.mono_l : ∀ k, (∀ y0 y1 y2, LeO (impl_PolyMul.j0 k y0 y1 y2) (impl_PolyMul.j0 (k + 1) y0 y1 y2)) ∧ (∀ y0 y1 y2 y3 y4, LeO (impl_PolyMul.l0 k y0 y1 y2 y3 y4) (impl_PolyMul.l0 (k + 1) y0 y1 y2 y3 y4)) ∧ (∀ y0 y1 y2 y3 y4 y5 y6 y7 y8 y9, LeO (impl_PolyMul.l1 k y0 y1 y2 y3 y4 y5 y6 y7 y8 y9) (impl_PolyMul.l1 (k + 1) y0 y1 y2 y3 y4 y5 y6 y7 y8 y9))
 | 0 => ⟨fun _ _ _ r h => by simp [impl_PolyMul.j0] at h, fun _ _ _ _ _ r h => by simp [impl_PolyMul.l0] at h, fun _ _ _ _ _ _ _ _ _ _ r h => by simp [impl_PolyMul.l1] at h⟩
 | k + 1 => by
  obtain ⟨ih0, ih1, ih2⟩ := impl_PolyMul.mono_l k
  refine ⟨?_, ?_, ?_⟩
  ·intro y0 y1 y2
   unfold impl_PolyMul.j0
   with_reducible repeat' first | exact ih0 _ _ _ | exact ih1 _ _ _ _ _ | exact ih2 _ _ _ _ _ _ _ _ _ _ | exact impl_PolyTrim.mono _ _ | exact LeO.refl _ | exact LeO.none _ | refine LeO.ite ?_ ?_ | refine LeO.bind ?_ (fun _ => ?_)
  ·intro y0 y1 y2 y3 y4
   unfold impl_PolyMul.l0
   with_reducible repeat' first | exact ih0 _ _ _ | exact ih1 _ _ _ _ _ | exact ih2 _ _ _ _ _ _ _ _ _ _ | exact impl_PolyTrim.mono _ _ | exact LeO.refl _ | exact LeO.none _ | refine LeO.ite ?_ ?_ | refine LeO.bind ?_ (fun _ => ?_)
  ·intro y0 y1 y2 y3 y4 y5 y6 y7 y8 y9
   unfold impl_PolyMul.l1
   with_reducible repeat' first | exact ih0 _ _ _ | exact ih1 _ _ _ _ _ | exact ih2 _ _ _ _ _ _ _ _ _ _ | exact impl_PolyTrim.mono _ _ | exact LeO.refl _ | exact LeO.none _ | refine LeO.ite ?_ ?_ | refine LeO.bind ?_ (fun _ => ?_)
theorem impl_PolyMul.mono : ∀ a0 a1 k, LeO (impl_PolyMul.f k a0 a1) (impl_PolyMul.f (k + 1) a0 a1) := by
 intro a0 a1 k
 obtain ⟨ih0, ih1, ih2⟩ := impl_PolyMul.mono_l k
 unfold impl_PolyMul.f
 with_reducible repeat' first | exact ih0 _ _ _ | exact ih1 _ _ _ _ _ | exact ih2 _ _ _ _ _ _ _ _ _ _ | exact impl_PolyTrim.mono _ _ | exact LeO.refl _ | exact LeO.none _ | refine LeO.ite ?_ ?_ | refine LeO.bind ?_ (fun _ => ?_)
def impl_PolyMul.T10 : Bool × List (List Nat × List Nat) := (true, [([], []), ([], []), ([], []), ([1, 2], [1, 2]), ([], []), ([], []), ([], []), ([5, 6], [5, 6]), ([4, 7], [4, 7]), ([8], [8]), ([], []), ([], []), ([10, 11], [10, 11]), ([9, 12, 12], [9, 12]), ([0, 3, 0, 1, 2, 3, 4, 5, 6, 7, 8, 9, 10, 11, 12, 13], [0, 3]), ([14, 13, 13, 0, 1, 2, 3, 4, 5, 6, 7, 8, 9, 10, 11, 12, 13], [13, 14])])
def impl_PolyMul.B10 : List Nat := [0, 0, 0, 6, 0, 0, 0, 96, 240, 496, 0, 0, 3072, 8176, 16383, 32767]
theorem impl_PolyMul.tab10 : rtab .any (opsOf Try.f34 10) = impl_PolyMul.T10 := by kernel_rfl
theorem impl_PolyMul.bits10 : waitsOk impl_PolyMul.T10.2 impl_PolyMul.B10 = true := by kernel_rfl
set_option maxHeartbeats 8000000 in
set_option maxRecDepth 100000 in
theorem impl_PolyMul.calls (k : Nat) (A0 : Option Addr) (c0 : Nat) (l0 : List Int) (A1 : Option Addr) (c1 : Nat) (l1 : List Int) (r : List Int) (w : World) (hr0 : Kd.C (Kd.int .i64) w A0 l0.length l0) (hc0 : l0.length ≤ c0) (hr1 : Kd.C (Kd.int .i64) w A1 l1.length l1) (hc1 : l1.length ≤ c1) (h : impl_PolyMul.f k l0 l1 = some r) :
  Calls Try.prog 34 #[.slice A0 l0.length c0, .slice A1 l1.length c1] w fun e w' => ∃ v0_ : Value, e = .returned (v0_) ∧ Kd.R (Kd.int .i64) 3 w' w.heap.size (fun _ => True) v0_ r ∧ Below w.heap.size w w' := by
 have HR0 := Aside0.mk hr0
 have HC0 := Aside0.mk hc0
 clear hr0 hc0
 have HR1 := Aside0.mk hr1
 have HC1 := Aside0.mk hc1
 clear hr1 hc1
 have HB := Aside0.mk (Below.refl w.heap.size w)
 have H : (if (l0.length : Int) > 64 then (impl_PolyMul.j0 k l0 l1 true) else (impl_PolyMul.j0 k l0 l1 (decide ((l1.length : Int) > 64)))) = some r := h
 clear h
 have HC3 := Aside0.mk H
 clear H
 go_enter Try.func34, Try.ntmps34
 go_upto_region 1 with (fail)
 go_cut [17] (fun v17 wc => ∃ (kq : Nat) (x17_2 : Bool), v17 = .bool x17_2 ∧ Aside0 (impl_PolyMul.j0 kq l0 l1 x17_2 = some r) ∧ Aside0 (kq ≤ k) ∧ Aside0 (Below w.heap.size w wc))
 case first =>
  have H := HC3.out
  clear HC3
  by_cases c4 : (l0.length : Int) > 64
  ·rw [if_pos c4] at H
   have c4b0 := decide_eq_true c4
   have c4b1 : decide (64 < l0.length) = true := decide_eq_true (by omega)
   clear c4
   (first | rw [c4b0] | (simp only [i64_w, i32_w]; rw [c4b0]) | rw [c4b1] | skip)
   have H' := Aside0.mk H
   clear H
   go_wp2
   go_meet
   case rel => exact ⟨_, (true), rS, H', ⟨by first | omega | exact Nat.le_refl _⟩, ⟨bZ HB⟩⟩
  ·rw [if_neg c4] at H
   have c4b0 := decide_eq_false c4
   have c4b1 : decide (64 < l0.length) = false := decide_eq_false (by omega)
   clear c4
   (first | rw [c4b0] | (simp only [i64_w, i32_w]; rw [c4b0]) | rw [c4b1] | skip)
   have H' := Aside0.mk H
   clear H
   go_wp2
   go_meet
   case rel => exact ⟨_, (decide ((l1.length : Int) > 64)), rS, H', ⟨by first | omega | exact Nat.le_refl _⟩, ⟨bZ HB⟩⟩
 case rest =>
  clear HC3
  try clear c1
  try clear p2
  try clear c3
  try clear c4
  try clear c4b0
  try clear c4b1
  obtain ⟨kq, x17_2, rfl, HA, HJ2, HB⟩ := hcut
  cases kq with
  | zero => exact absurd HA.out (by simp [impl_PolyMul.j0])
  | succ kj2 =>
   have H := HA.out
   clear HA
   simp only [impl_PolyMul.j0] at H
   by_cases c5 : x17_2 = true
   ·subst c5
    rw [if_pos rfl] at H
    obtain rfl := Option.some.inj H
    go_wp2
    go_ret
    exact ⟨_, by first | rfl | (simp [errW_none, errW_some] <;> rfl) | (simp [*, errW_none, errW_some] <;> rfl), by first | exact Kd.R_nil _ _ _ _ _ | exact Kd.N_nil _ _ _ _ _ | exact Kd.V_nil _ _ _ _ _ | exact Kd.Q_nil _ _ _ _ _ | exact Kd.S_nil _ _ _ _ _, bZ HB⟩
   ·replace c5 := Bool.eq_false_iff.mpr c5
    subst c5
    rw [if_neg (show ¬ (false = true) by decide)] at H
    obtain ⟨ji6, hji6⟩ : ∃ j_ : Int, (wrap64 ((l0.length : Int) + (l1.length : Int))) = j_ := ⟨_, rfl⟩
    replace H : (if 0 ≤ (ji6) then (if (ji6 : Int).toNat ≤ 35184372088832 then (impl_PolyMul.l0 kj2 l1 (List.replicate (ji6 : Int).toNat 0) l0 (l0.length : Int) 0) else (none)) else (none)) = some r := by first | (rw [hji6] at H; exact H) | (simp only [hji6] at H ⊢; exact H)
    have hji6w : (IntKind.i64.wrap ((l0.length : Int) + (l1.length : Int))) = ji6 := (i64_w _).trans hji6
    by_cases c7 : 0 ≤ (ji6)
    ·rw [if_pos c7] at H
     have c7b0 := eq_true c7
     have c7b1 := decide_eq_true c7
     clear c7
     by_cases c8 : (ji6 : Int).toNat ≤ 35184372088832
     ·rw [if_pos c8] at H
      have c8b0 := eq_true c8
      have c8b1 := decide_eq_true c8
      clear c8
      obtain ⟨y321, hy321⟩ : ∃ y_ : List Int, y_ = (List.replicate (ji6 : Int).toNat 0) := ⟨_, rfl⟩
      replace H : (impl_PolyMul.l0 kj2 l1 y321 l0 (l0.length : Int) 0) = some r := by first | (rw [hy321]; with_reducible exact H) | (have H2_ := (Option.bind_some _ _).symm.trans H; rw [hy321]; with_reducible exact H2_) | (have H2_ := (Option.bind_some _ _).symm.trans H; with_reducible exact H2_) | with_reducible exact H | (rw [hy321]; exact H) | exact H
      have Ny321 := Aside0.mk hy321
      clear hy321
      have H' := Aside0.mk H
      clear H
      go_wp2_with (first | ((with_reducible refine gate_dst (N := 23) rfl ?_); (try (refine gate_guard (by rfl) ?_; dsimp only)); refine Kd.R_make (Kd.int .i64) _ 3 rfl (N := 23) rfl 22 _ _ rfl ji6 rfl rfl Try.underlying22 (.int .i64 0) 8 info3 rfl (by decide) (by omega) 0 (ok := fun _ => True) (okp := fun _ => True) rfl (fun _ hk => hk) trivial (of_decide_eq_true (by first | (with_reducible assumption) | assumption)) (Nat.le_trans (Nat.mul_le_mul_right _ (of_decide_eq_true (by first | (with_reducible assumption) | assumption) : ji6.toNat ≤ 35184372088832)) (by omega)) (Below.refl _ _) (Nat.le_refl _) ?_; intro v322 w9 ho10 hb hg_ hnew_; clear hg_ hnew_; (first | rw [← Ny321.out] at ho10 | (simp only [Int.reduceToNat] at ho10; rw [← Ny321.out] at ho10)); have HO323 := Aside0.mk (Kd.R_lower ho10 (below_size (bZ HB))); replace HB := bS HB hb; clear hb ho10))
      go_loopg [26] kj2 (fun kq v26 w' => ∃ (x5_2 : List Int) (x26_2 : Int), v26 = .int .i64 x26_2 ∧ Aside0 (impl_PolyMul.l0 kq l1 x5_2 l0 (l0.length : Int) x26_2 = some r) ∧ Aside0 (kq ≤ kj2) ∧ Aside0 (Kd.R (Kd.int .i64) 3 w' w.heap.size (fun _ => True) v322 x5_2) ∧ Aside0 (Below w.heap.size w w'))
      case atStart => exact ⟨(y321), (0), rS, H', ⟨Nat.le_refl _⟩, ⟨rP HO323⟩, ⟨bZ HB⟩⟩
      case round =>
       clear H'
       try clear c1
       try clear p2
       try clear c3
       try clear c4
       try clear c4b0
       try clear c4b1
       try clear c5
       try clear p6
       try clear c7
       try clear c7b0
       try clear c7b1
       try clear c8
       try clear c8b0
       try clear c8b1
       try clear p2
       obtain ⟨x5_2, x26_2, rfl, HA, HK2, HO_5, HB⟩ := hrel
       cases gk with
       | zero => exact absurd HA.out (by simp [impl_PolyMul.l0])
       | succ k2 =>
        have H := HA.out
        clear HA
        simp only [impl_PolyMul.l0] at H
        by_cases c11 : x26_2 < (l0.length : Int)
        ·rw [if_pos c11] at H
         have c11b0 := decide_eq_true c11
         clear c11
         by_cases c12 : 0 ≤ x26_2
         ·rw [if_pos c12] at H
          have c12b0 := decide_eq_true c12
          clear c12
          by_cases c13 : x26_2 < (l0.length : Int)
          ·rw [if_pos c13] at H
           have c13b0 := decide_eq_true c13
           clear c13
           have H' := Aside0.mk H
           clear H
           have p327 : 0 ≤ (x26_2 : Int) := of_decide_eq_true (by first | (with_reducible assumption) | assumption)
           have q327 : x26_2 < (l0.length : Int) := of_decide_eq_true (by first | (with_reducible assumption) | assumption)
           obtain ⟨ad327, e327, hx327_0⟩ := Kd.at_int HR0.out x26_2 p327 q327
           cases e327
           replace hx327_0 := (hC HB hx327_0 :)
           replace p327 := eq_true p327
           replace q327 := eq_true q327
           go_wp2
           go_loopg [33] k2 (fun kq v33 w' => ∃ (x5_3 : List Int) (x33_3 : Int), v33 = .int .i64 x33_3 ∧ Aside0 (impl_PolyMul.l1 kq l1 x5_3 x26_2 (rd l0 x26_2) l0 (l0.length : Int) x26_2 l1 (l1.length : Int) x33_3 = some r) ∧ Aside0 (kq ≤ k2) ∧ Aside0 (Kd.R (Kd.int .i64) 3 w' w.heap.size (fun _ => True) v322 x5_3) ∧ Aside0 (Below w.heap.size w w'))
           case atStart => exact ⟨(x5_2), (0), rS, H', ⟨Nat.le_refl _⟩, ⟨rP HO_5⟩, ⟨bZ HB⟩⟩
           case round =>
            clear H'
            try clear c1
            try clear p2
            try clear c3
            try clear p3
            try clear q3
            try clear hx3
            try clear c4
            try clear c4b0
            try clear c4b1
            try clear c5
            try clear p6
            try clear c7
            try clear c7b0
            try clear c7b1
            try clear c8
            try clear c8b0
            try clear c8b1
            try clear c11
            try clear c11b0
            try clear c12
            try clear c12b0
            try clear c13
            try clear c13b0
            try clear hx327_0
            try clear p2
            try clear p327
            try clear p6
            try clear q327
            obtain ⟨x5_3, x33_3, rfl, HA, HK3, HO_5, HB⟩ := hrel
            cases gk with
            | zero => exact absurd HA.out (by simp [impl_PolyMul.l1])
            | succ k3 =>
             have H := HA.out
             clear HA
             simp only [impl_PolyMul.l1] at H
             by_cases c14 : x33_3 < (l1.length : Int)
             ·rw [if_pos c14] at H
              have c14b0 := decide_eq_true c14
              clear c14
              by_cases c15 : 0 ≤ x33_3
              ·rw [if_pos c15] at H
               have c15b0 := decide_eq_true c15
               clear c15
               by_cases c16 : x33_3 < (l1.length : Int)
               ·rw [if_pos c16] at H
                have c16b0 := decide_eq_true c16
                clear c16
                obtain ⟨ji17, hji17⟩ : ∃ j_ : Int, (wrap64 (x26_2 + x33_3)) = j_ := ⟨_, rfl⟩
                replace H : (if 0 ≤ (ji17) then (if (ji17) < (x5_3.length : Int) then ((impl_ScMul.f (rd l0 x26_2) (rd l1 x33_3)).bind fun t330 => ((impl_ScAdd.f (rd x5_3 (ji17)) t330).bind fun t331 => (impl_PolyMul.l1 k3 l1 (x5_3.set ((ji17) : Int).toNat t331) x26_2 (rd l0 x26_2) l0 (l0.length : Int) x26_2 l1 (l1.length : Int) (wrap64 (x33_3 + 1))))) else (none)) else (none)) = some r := by first | (rw [hji17] at H; exact H) | (simp only [hji17] at H ⊢; exact H)
                have hji17w : (IntKind.i64.wrap (x26_2 + x33_3)) = ji17 := (i64_w _).trans hji17
                by_cases c18 : 0 ≤ (ji17)
                ·rw [if_pos c18] at H
                 have c18b0 := decide_eq_true c18
                 clear c18
                 by_cases c19 : (ji17) < (x5_3.length : Int)
                 ·rw [if_pos c19] at H
                  have c19b0 := decide_eq_true c19
                  clear c19
                  replace H := Option.bind_eq_some_iff.mp H
                  obtain ⟨t330, A200, H⟩ := H
                  have A20 := Aside0.mk A200
                  clear A200
                  replace H := Option.bind_eq_some_iff.mp H
                  obtain ⟨t331, A210, H⟩ := H
                  have A21 := Aside0.mk A210
                  clear A210
                  obtain ⟨y332, hy332⟩ : ∃ y_ : List Int, y_ = (x5_3.set ((ji17) : Int).toNat t331) := ⟨_, rfl⟩
                  replace H : (impl_PolyMul.l1 k3 l1 y332 x26_2 (rd l0 x26_2) l0 (l0.length : Int) x26_2 l1 (l1.length : Int) (wrap64 (x33_3 + 1))) = some r := by first | (rw [hy332]; with_reducible exact H) | (have H2_ := (Option.bind_some _ _).symm.trans H; rw [hy332]; with_reducible exact H2_) | (have H2_ := (Option.bind_some _ _).symm.trans H; with_reducible exact H2_) | with_reducible exact H | (rw [hy332]; exact H) | exact H
                  have Ny332 := Aside0.mk hy332
                  clear hy332
                  have H' := Aside0.mk H
                  clear H
                  have p328 : 0 ≤ (x33_3 : Int) := of_decide_eq_true (by first | (with_reducible assumption) | assumption)
                  have q328 : x33_3 < (l1.length : Int) := of_decide_eq_true (by first | (with_reducible assumption) | assumption)
                  obtain ⟨ad328, e328, hx328_0⟩ := Kd.at_int HR1.out x33_3 p328 q328
                  cases e328
                  replace hx328_0 := (hC HB hx328_0 :)
                  replace p328 := eq_true p328
                  replace q328 := eq_true q328
                  try go_wp2
                  replace HO_5 := Aside0.mk (Kd.R_drew HO_5.out)
                  replace HB := Aside0.mk (below_drew1 HB.out)
                  obtain ⟨Ao24, co24, eo24⟩ := Kd.R_slice HO_5.out
                  (first | subst eo24 | (injection eo24 with f1_ f2_ f3_; have f4_ := f1_.symm; have f5_ := f3_.symm; clear f1_ f2_ f3_; subst f4_; subst f5_))
                  have p329 : 0 ≤ ((ji17) : Int) := of_decide_eq_true (by first | (with_reducible assumption) | assumption)
                  have q329 : (ji17) < (x5_3.length : Int) := of_decide_eq_true (by first | (with_reducible assumption) | assumption)
                  obtain ⟨ad329, e329, hx329_0⟩ := Kd.at_int (Kd.R_reads' HO_5.out).2.2 (ji17) p329 q329
                  cases e329
                  replace p329 := eq_true p329
                  replace q329 := eq_true q329
                  refine start_ (n := 16) (S := fun w' => w'.cell? (ad329.add ((ji17)).toNat) = some (.int .i64 (rd x5_3 (ji17)))) (ds := [15]) #[false, false, false, false, false, false, false, false, false, false, false, false, false, false, false, false] (by kernel_rfl) rfl rfl (hx329_0) (fun hHeld => ?_); refine with_tabW impl_PolyMul.tab10 impl_PolyMul.bits10 (fun HT_ HW_ => ?_)
                  generalize wr.drew = w23 at HO_5 HB hx329_0 hHeld ⊢
                  refine pI 0 (some 38) HT_.out ?_
                  refine pI 1 (some 39) HT_.out ?_
                  refine pI 2 (some 40) HT_.out ?_
                  refine pI 3 (some 41) HT_.out ?_
                  refine pI 4 (some 42) HT_.out ?_
                  refine pI 5 (some 43) HT_.out ?_
                  refine pI 6 (some 44) HT_.out ?_
                  refine pI 7 (some 45) HT_.out ?_
                  refine pI 8 (some 46) HT_.out ?_
                  refine pI 10 (some 48) HT_.out ?_
                  refine pI 11 (some 49) HT_.out ?_
                  refine tI1 9 (some 47) HT_.out HW_.out hHeld ?_
                  refine oI 12 (some 50) HT_.out (fun K hK => ?_)
                  refine gO Try.func49 #[.int .i64 (rd l0 x26_2), .int .i64 (rd l1 x33_3)] ?_
                  with_reducible refine (impl_ScMul.calls (rd l0 x26_2) (rd l1 x33_3) t330 _ A20.out).mono ?_
                  rintro e w' ⟨rfl, ⟨nd, rfl⟩⟩
                  refine ⟨_, rfl, ?_⟩
                  refine hK.out _ _ (hHeld) (fun hHeld => ?_)
                  clear hK K
                  refine nO (some 50) ?_
                  refine oI 13 (some 51) HT_.out (fun K hK => ?_)
                  refine goes_ Try.func50 (by kernel_rfl) rfl #[.int .i64 (rd x5_3 (ji17)), .int .i64 t330] (by rfl) rfl rfl (by (try simp only [List.map_toArray, List.map_cons, List.map_nil]); first | done | (simp only [hji17]; rfl) | rfl | (simp only [List.length_drop, List.length_take]; rfl)) ?_
                  with_reducible refine (impl_ScAdd.calls (rd x5_3 (ji17)) t330 t331 _ A21.out).mono ?_
                  rintro e w' ⟨rfl, ⟨nd, rfl⟩⟩
                  refine ⟨_, rfl, ?_⟩
                  have p22 : 0 ≤ ((ji17) : Int) := of_decide_eq_true (by first | (with_reducible assumption) | assumption)
                  have q22 : ((ji17) : Int) < ((x5_3.length : Int) : Int) := of_decide_eq_true (by first | (with_reducible assumption) | assumption)
                  obtain ⟨go22, co22, eo22, gb22, gl22, cl22, HG22⟩ := Kd.R_form HO_5.out (by omega)
                  (first | cases eo22 | (injection eo22 with ea_ en_ ec_; (first | subst ea_ | (injection ea_ with ea_; subst ea_)); subst ec_; clear en_))
                  have GB22 := Aside0.mk gb22
                  have GG22 := Aside0.mk HG22
                  clear gb22 gl22 HG22
                  (first | simp only [add_plain] at hx329_0 | skip)
                  obtain ⟨hx22_0, hf22_0⟩ := Kd.R_celln 0 HO_5.out ((ji17) : Int) p22 q22
                  replace p22 := eq_true p22
                  replace q22 := eq_true q22
                  have HP25 := Kd.R_putn HO_5.out ((ji17) : Int) t331
                  rw [← Ny332.out] at HP25
                  have HQ25 := Aside0.mk HP25
                  clear HP25
                  refine hK.out _ _ (hHeld) (fun hHeld => ?_)
                  clear hK K
                  refine nO (some 51) ?_
                  refine pI 14 (some 52) HT_.out ?_
                  refine last_ (i := 15) (N := none) #[true, true, true, true, true, true, true, true, true, true, true, true, true, true, true, true] rfl rfl (one_of HT_.out (by kernel_rfl)) (by decide) (fun K hK => ?_)
                  refine skip_ (w1 := ?_) (by rfl) rfl ?_ ?_
                  rotate_left
                  ·go_simp
                   rfl
                  refine hK.out _ _ ?_
                  clear hK K
                  refine done_ (done_of HT_.out (by kernel_rfl)) ?_
                  try go_wp2
                  go_roundg k3
                  case measure => have := HJ2.out; have := HK2.out; have := HK3.out; omega
                  case rel => exact ⟨(y332), (wrap64 (x33_3 + 1)), rS, H', ⟨by have := HJ2.out; have := HK2.out; have := HK3.out; omega⟩, ⟨rP HQ25⟩, ⟨by repeat (first | (with_reducible first | exact HB.out | apply below_alloc | apply pw_below_drewN | apply below_drew1 | refine below_set ?_ GB22.out) | exact HB.out)⟩⟩
                 ·rw [if_neg c19] at H
                  exact absurd H (by simp)
                ·rw [if_neg c18] at H
                 exact absurd H (by simp)
               ·rw [if_neg c16] at H
                exact absurd H (by simp)
              ·rw [if_neg c15] at H
               exact absurd H (by simp)
             ·rw [if_neg c14] at H
              have c14b0 := decide_eq_false c14
              clear c14
              have H' := Aside0.mk H
              clear H
              go_wp2
              go_roundg k3
              case measure => have := HJ2.out; have := HK2.out; have := HK3.out; omega
              case rel => exact ⟨(x5_3), (wrap64 (x26_2 + 1)), rS, H', ⟨by have := HJ2.out; have := HK2.out; have := HK3.out; omega⟩, ⟨rP HO_5⟩, ⟨bZ HB⟩⟩
          ·rw [if_neg c13] at H
           exact absurd H (by simp)
         ·rw [if_neg c12] at H
          exact absurd H (by simp)
        ·rw [if_neg c11] at H
         have c11b0 := decide_eq_false c11
         clear c11
         replace H := Option.bind_eq_some_iff.mp H
         obtain ⟨t324, A260, H⟩ := H
         have A26 := Aside0.mk A260
         clear A260
         obtain rfl := Option.some.inj H
         obtain ⟨Ao27, co27, eo27⟩ := Kd.R_slice HO_5.out
         subst eo27
         go_wp2_with (first | (refine gC (some 56) Try.func20 #[.slice Ao27 x5_2.length co27] ?_; (with_reducible refine (impl_PolyTrim.calls k2 _ _ x5_2 t324 _ ?side1 ?side2 A26.out).mono ?_); (case side1 => exact cP ((Kd.R_reads' HO_5.out).2.2)); (case side2 => exact (Kd.R_reads' HO_5.out).2.1); rintro e w28 ⟨v325, rfl, ho0, hb⟩; refine ⟨_, rfl, ?_⟩; have HO326 := Aside0.mk (Kd.R_lower (Kd.R_new' ho0 (Kd.R_lt (rP HO_5))) (below_size (bZ HB))); replace HO_5 := Aside0.mk (Kd.R_elder' (rP HO_5) (Kd.R_base ho0) hb); replace HB := bS HB hb; (try clear hb); (try clear ho0)))
         go_ret
         exact ⟨_, by first | rfl | (simp [errW_none, errW_some] <;> rfl) | (simp only [← hji6]; first | rfl | (simp [errW_none, errW_some] <;> rfl)) | (simp [*, errW_none, errW_some] <;> rfl), by (with_reducible repeat (first | apply Kd.R_alloc | apply Kd.R_drewN | apply Kd.R_drew)); exact Kd.R_mono HO326.out (fun _ hk => trivial), bZ HB⟩
     ·rw [if_neg c8] at H
      exact absurd H (by simp)
    ·rw [if_neg c7] at H
     exact absurd H (by simp)

end Go.Proofs.Ytcnejiflpioaiaa.Pf
end
section
namespace Go.Proofs.Ytcnejiflpioaiaa.Pf
open Go.RowKit Go.Proofs.YtcnejiflpioaiaaW.PrintWords Go.Proofs.YtcnejiflpioaiaaW.PrintLast Go.Proofs.YtcnejiflpioaiaaW.PrintMore
attribute [local go_sem] max2_int min2_int max_two min_two max_three min_three max_four min_four   -- for this text's walks alone
set_option linter.unusedVariables false
set_option linter.unusedSimpArgs false
/-! ### impl_scaled: function 69 -/
def impl_scaled.l0 : Nat → Int → List Int → List Int → Int → Int → Option (List Int)
 | 0, _, _, _, _, _ => none
 | k + 1, x1, x5, x11, x12, x13 => if x13 < x12 then (if 0 ≤ x13 then (if x13 < (x11.length : Int) then ((impl_ScMul.f (rd x11 x13) x1).bind fun t337 => (if x13 < (x5.length : Int) then (impl_scaled.l0 k x1 (x5.set (x13 : Int).toNat t337) x11 x12 (wrap64 (x13 + 1))) else (none))) else (none)) else (none)) else (some x5)
def impl_scaled.f (k : Nat) (l0 : List Int) (a1 : Int) : Option (List Int) := if 0 ≤ (l0.length : Int) then (if ((l0.length : Int) : Int).toNat ≤ 35184372088832 then (impl_scaled.l0 k a1 (List.replicate ((l0.length : Int) : Int).toNat 0) l0 (l0.length : Int) 0) else (none)) else (none)
theorem impl_scaled.mono_l : ∀ k, (∀ y0 y1 y2 y3 y4, LeO (impl_scaled.l0 k y0 y1 y2 y3 y4) (impl_scaled.l0 (k + 1) y0 y1 y2 y3 y4))
 | 0 => fun _ _ _ _ _ r h => by simp [impl_scaled.l0] at h
 | k + 1 => by
  have ih0 := impl_scaled.mono_l k
  ·intro y0 y1 y2 y3 y4
   unfold impl_scaled.l0
   with_reducible repeat' first | exact ih0 _ _ _ _ _ | exact LeO.refl _ | exact LeO.none _ | refine LeO.ite ?_ ?_ | refine LeO.bind ?_ (fun _ => ?_)
theorem impl_scaled.mono : ∀ a0 a1 k, LeO (impl_scaled.f k a0 a1) (impl_scaled.f (k + 1) a0 a1) := by
 intro a0 a1 k
 have ih0 := impl_scaled.mono_l k
 unfold impl_scaled.f
 with_reducible repeat' first | exact ih0 _ _ _ _ _ | exact LeO.refl _ | exact LeO.none _ | refine LeO.ite ?_ ?_ | refine LeO.bind ?_ (fun _ => ?_)
set_option maxHeartbeats 8000000 in
set_option maxRecDepth 100000 in
theorem impl_scaled.calls (k : Nat) (A0 : Option Addr) (c0 : Nat) (l0 : List Int) (a1 : Int) (r : List Int) (w : World) (hr0 : Kd.C (Kd.int .i64) w A0 l0.length l0) (hc0 : l0.length ≤ c0) (h : impl_scaled.f k l0 a1 = some r) :
  Calls Try.prog 69 #[.slice A0 l0.length c0, .int .i64 a1] w fun e w' => ∃ v0_ : Value, e = .returned (v0_) ∧ Kd.R (Kd.int .i64) 3 w' w.heap.size (fun _ => True) v0_ r ∧ Below w.heap.size w w' := by
 have HR0 := Aside0.mk hr0
 have HC0 := Aside0.mk hc0
 clear hr0 hc0
 have HB := Aside0.mk (Below.refl w.heap.size w)
 have H : (if 0 ≤ (l0.length : Int) then (if ((l0.length : Int) : Int).toNat ≤ 35184372088832 then (impl_scaled.l0 k a1 (List.replicate ((l0.length : Int) : Int).toNat 0) l0 (l0.length : Int) 0) else (none)) else (none)) = some r := h
 clear h
 by_cases c3 : 0 ≤ (l0.length : Int)
 ·rw [if_pos c3] at H
  have c3b0 := eq_true c3
  have c3b1 := decide_eq_true c3
  clear c3
  by_cases c4 : ((l0.length : Int) : Int).toNat ≤ 35184372088832
  ·rw [if_pos c4] at H
   have c4b0 := eq_true c4
   have c4b1 := decide_eq_true c4
   clear c4
   obtain ⟨y333, hy333⟩ : ∃ y_ : List Int, y_ = (List.replicate ((l0.length : Int) : Int).toNat 0) := ⟨_, rfl⟩
   replace H : (impl_scaled.l0 k a1 y333 l0 (l0.length : Int) 0) = some r := by first | (rw [hy333]; with_reducible exact H) | (have H2_ := (Option.bind_some _ _).symm.trans H; rw [hy333]; with_reducible exact H2_) | (have H2_ := (Option.bind_some _ _).symm.trans H; with_reducible exact H2_) | with_reducible exact H | (rw [hy333]; exact H) | exact H
   have Ny333 := Aside0.mk hy333
   clear hy333
   have H' := Aside0.mk H
   clear H
   go_enter Try.func69, Try.ntmps69
   go_wp2_with (first | ((with_reducible refine gate_dst (N := 10) rfl ?_); refine Kd.R_make (Kd.int .i64) _ 3 rfl (N := 10) rfl 22 _ _ rfl (l0.length : Int) rfl rfl Try.underlying22 (.int .i64 0) 8 info3 rfl (by decide) (by omega) 0 (ok := fun _ => True) (okp := fun _ => True) rfl (fun _ hk => hk) trivial (of_decide_eq_true (by first | (with_reducible assumption) | assumption)) (Nat.le_trans (Nat.mul_le_mul_right _ (of_decide_eq_true (by first | (with_reducible assumption) | assumption) : (l0.length : Int).toNat ≤ 35184372088832)) (by omega)) (Below.refl _ _) (Nat.le_refl _) ?_; intro v334 w5 ho6 hb hg_ hnew_; clear hg_ hnew_; (first | rw [← Ny333.out] at ho6 | (simp only [Int.reduceToNat] at ho6; rw [← Ny333.out] at ho6)); have HO335 := Aside0.mk (Kd.R_lower ho6 (below_size (bZ HB))); replace HB := bS HB hb; clear hb ho6))
   go_loopg [13] k (fun kq v13 w' => ∃ (x5_1 : List Int) (x13_1 : Int), v13 = .int .i64 x13_1 ∧ Aside0 (impl_scaled.l0 kq a1 x5_1 l0 (l0.length : Int) x13_1 = some r) ∧ Aside0 (kq ≤ k) ∧ Aside0 (Kd.R (Kd.int .i64) 3 w' w.heap.size (fun _ => True) v334 x5_1) ∧ Aside0 (Below w.heap.size w w'))
   case atStart => exact ⟨(y333), (0), rS, H', ⟨Nat.le_refl _⟩, ⟨rP HO335⟩, ⟨bZ HB⟩⟩
   case round =>
    clear H'
    try clear p2
    try clear c3
    try clear c3b0
    try clear c3b1
    try clear c4
    try clear c4b0
    try clear c4b1
    try clear c6
    obtain ⟨x5_1, x13_1, rfl, HA, HK1, HO_5, HB⟩ := hrel
    cases gk with
    | zero => exact absurd HA.out (by simp [impl_scaled.l0])
    | succ k1 =>
     have H := HA.out
     clear HA
     simp only [impl_scaled.l0] at H
     by_cases c7 : x13_1 < (l0.length : Int)
     ·rw [if_pos c7] at H
      have c7b0 := decide_eq_true c7
      clear c7
      by_cases c8 : 0 ≤ x13_1
      ·rw [if_pos c8] at H
       have c8b0 := decide_eq_true c8
       clear c8
       by_cases c9 : x13_1 < (l0.length : Int)
       ·rw [if_pos c9] at H
        have c9b0 := decide_eq_true c9
        clear c9
        replace H := Option.bind_eq_some_iff.mp H
        obtain ⟨t337, A100, H⟩ := H
        have A10 := Aside0.mk A100
        clear A100
        by_cases c11 : x13_1 < (x5_1.length : Int)
        ·rw [if_pos c11] at H
         have c11b0 := decide_eq_true c11
         clear c11
         obtain ⟨y338, hy338⟩ : ∃ y_ : List Int, y_ = (x5_1.set (x13_1 : Int).toNat t337) := ⟨_, rfl⟩
         replace H : (impl_scaled.l0 k1 a1 y338 l0 (l0.length : Int) (wrap64 (x13_1 + 1))) = some r := by first | (rw [hy338]; with_reducible exact H) | (have H2_ := (Option.bind_some _ _).symm.trans H; rw [hy338]; with_reducible exact H2_) | (have H2_ := (Option.bind_some _ _).symm.trans H; with_reducible exact H2_) | with_reducible exact H | (rw [hy338]; exact H) | exact H
         have Ny338 := Aside0.mk hy338
         clear hy338
         have H' := Aside0.mk H
         clear H
         have p336 : 0 ≤ (x13_1 : Int) := of_decide_eq_true (by first | (with_reducible assumption) | assumption)
         have q336 : x13_1 < (l0.length : Int) := of_decide_eq_true (by first | (with_reducible assumption) | assumption)
         obtain ⟨ad336, e336, hx336_0⟩ := Kd.at_int HR0.out x13_1 p336 q336
         cases e336
         replace hx336_0 := (hC HB hx336_0 :)
         replace p336 := eq_true p336
         replace q336 := eq_true q336
         go_wp2_with (first | (refine gC (some 22) Try.func49 #[.int .i64 (rd l0 x13_1), .int .i64 a1] ?_; (with_reducible refine (impl_ScMul.calls (rd l0 x13_1) a1 t337 _ A10.out).mono ?_); rintro e w' ⟨rfl, ⟨nd, rfl⟩⟩; refine ⟨_, rfl, ?_⟩; (try simp only [World.drewN_drewN]); (try (rw [drewN_self wr]; generalize hq_ : World.drewN wr _ = wr; replace HO_5 : Aside0 (Kd.R (Kd.int .i64) 3 wr w.heap.size (fun _ => True) v334 x5_1) := ⟨by rw [← hq_]; exact (rP HO_5)⟩; replace HB : Aside0 (Below w.heap.size w wr) := ⟨by rw [← hq_]; exact (bZ HB)⟩; clear hq_)); have p12 : 0 ≤ (x13_1 : Int) := of_decide_eq_true (by first | (with_reducible assumption) | assumption); have q12 : (x13_1 : Int) < ((x5_1.length : Int) : Int) := of_decide_eq_true (by first | (with_reducible assumption) | assumption); obtain ⟨go12, co12, eo12, gb12, gl12, cl12, HG12⟩ := Kd.R_form HO_5.out (by omega); (first | cases eo12 | (injection eo12 with ea_ en_ ec_; (first | subst ea_ | (injection ea_ with ea_; subst ea_)); subst ec_; clear en_)); have GB12 := Aside0.mk gb12; have GG12 := Aside0.mk HG12; clear gb12 gl12 HG12; obtain ⟨hx12_0, hf12_0⟩ := Kd.R_celln 0 HO_5.out (x13_1 : Int) p12 q12; replace p12 := eq_true p12; replace q12 := eq_true q12; obtain ⟨hy13_, hz13_⟩ := Kd.R_celln 0 HO_5.out (x13_1 : Int) (of_decide_eq_true (by first | (with_reducible assumption) | assumption)) (of_decide_eq_true (by first | (with_reducible assumption) | assumption)); have HP13 := Kd.R_putg HO_5.out (x13_1 : Int) t337) | ((with_reducible refine gate_store (t := 3) (p := 23) rfl ?_); refine store_event (t := 3) (p := 23) (v := ?vo_w14) (w1 := (wr.setCell ⟨go12, (x13_1 : Int).toNat, none⟩ (.int .i64 t337))) ?hg ?ho ?hn ?hr ?_; (case ho => rfl); (case hg => rfl); (case hn => rfl); (case hr => first | (go_simp; done) | (go_simp; rfl)); intro w14 hw; have hg : wr.grownBy w14 (some go12) := (by rw [hw]; exact HP13.2); have hp_ : Kd.R (Kd.int .i64) 3 w14 w.heap.size (fun _ => True) (.slice (some ⟨go12, 0, none⟩) x5_1.length co12) y338 := (by rw [hw, Ny338.out]; exact HP13.1); clear HP13; replace HO_5 := Aside0.mk (hp_); replace HB := Aside0.mk ((by rw [hw]; exact below_set (HB.out) GB12.out : Below w.heap.size w w14)); clear hg hw hp_))
         go_roundg k1
         case measure => have := HK1.out; omega
         case rel => exact ⟨(y338), (wrap64 (x13_1 + 1)), rS, H', ⟨by have := HK1.out; omega⟩, ⟨rP HO_5⟩, ⟨bZ HB⟩⟩
        ·rw [if_neg c11] at H
         exact absurd H (by simp)
       ·rw [if_neg c9] at H
        exact absurd H (by simp)
      ·rw [if_neg c8] at H
       exact absurd H (by simp)
     ·rw [if_neg c7] at H
      have c7b0 := decide_eq_false c7
      clear c7
      obtain rfl := Option.some.inj H
      go_wp2
      go_ret
      exact ⟨_, by first | rfl | (simp [errW_none, errW_some] <;> rfl) | (simp [*, errW_none, errW_some] <;> rfl), by (with_reducible repeat (first | apply Kd.R_alloc | apply Kd.R_drewN | apply Kd.R_drew)); exact HO_5.out, bZ HB⟩
  ·rw [if_neg c4] at H
   exact absurd H (by simp)
 ·rw [if_neg c3] at H
  exact absurd H (by simp)
/-! ### impl_powerMod: function 93 -/
def impl_powerMod.l0 : Nat → Int → Int → Int → Int → Option (Int)
 | 0, _, _, _, _ => none
 | k + 1, x0, x1, x2, x7 => if x1 > 0 then (if (Int.tmod x1 2) = 1 then (if x2 = 0 then (none) else (impl_powerMod.l0 k (Int.tmod (wrap64 (x0 * x0)) x2) (wrap64 (Int.tdiv x1 2)) x2 (Int.tmod (wrap64 (x7 * x0)) x2))) else (if x2 = 0 then (none) else (impl_powerMod.l0 k (Int.tmod (wrap64 (x0 * x0)) x2) (wrap64 (Int.tdiv x1 2)) x2 x7))) else (some x7)
def impl_powerMod.f (k : Nat) (a0 : Int) (a1 : Int) (a2 : Int) : Option (Int) := (impl_remainder.f a0 a2).bind fun t339 => (impl_powerMod.l0 k t339 a1 a2 1)
theorem impl_powerMod.mono_l : ∀ k, (∀ y0 y1 y2 y3, LeO (impl_powerMod.l0 k y0 y1 y2 y3) (impl_powerMod.l0 (k + 1) y0 y1 y2 y3))
 | 0 => fun _ _ _ _ r h => by simp [impl_powerMod.l0] at h
 | k + 1 => by
  have ih0 := impl_powerMod.mono_l k
  ·intro y0 y1 y2 y3
   unfold impl_powerMod.l0
   with_reducible repeat' first | exact ih0 _ _ _ _ | exact LeO.refl _ | exact LeO.none _ | refine LeO.ite ?_ ?_ | refine LeO.bind ?_ (fun _ => ?_)
theorem impl_powerMod.mono : ∀ a0 a1 a2 k, LeO (impl_powerMod.f k a0 a1 a2) (impl_powerMod.f (k + 1) a0 a1 a2) := by
 intro a0 a1 a2 k
 have ih0 := impl_powerMod.mono_l k
 unfold impl_powerMod.f
 with_reducible repeat' first | exact ih0 _ _ _ _ | exact LeO.refl _ | exact LeO.none _ | refine LeO.ite ?_ ?_ | refine LeO.bind ?_ (fun _ => ?_)
set_option maxHeartbeats 8000000 in
set_option maxRecDepth 100000 in
theorem impl_powerMod.calls (k : Nat) (a0 : Int) (a1 : Int) (a2 : Int) (r : Int) (w : World) (h : impl_powerMod.f k a0 a1 a2 = some r) :
  Calls Try.prog 93 #[.int .i64 a0, .int .i64 a1, .int .i64 a2] w fun e w' => e = .returned (.int .i64 r) ∧ Drawn0 w w' := by
 have H : ((impl_remainder.f a0 a2).bind fun t339 => (impl_powerMod.l0 k t339 a1 a2 1)) = some r := h
 clear h
 replace H := Option.bind_eq_some_iff.mp H
 obtain ⟨t339, A40, H⟩ := H
 have A4 := Aside0.mk A40
 clear A40
 have H' := Aside0.mk H
 clear H
 go_enter Try.func93, Try.ntmps93
 go_wp2_with (first | (refine gC (some 10) Try.func87 #[.int .i64 a0, .int .i64 a2] ?_; (with_reducible refine (impl_remainder.calls a0 a2 t339 _ A4.out).mono ?_); rintro e w' ⟨rfl, ⟨nd, rfl⟩⟩; refine ⟨_, rfl, ?_⟩))
 go_loopg [0, 1, 7] k (fun kq v0 v1 v7 w' => ∃ (x0_1 : Int) (x1_1 : Int) (x7_1 : Int), v0 = .int .i64 x0_1 ∧ v1 = .int .i64 x1_1 ∧ v7 = .int .i64 x7_1 ∧ Aside0 (impl_powerMod.l0 kq x0_1 x1_1 a2 x7_1 = some r) ∧ Aside0 (kq ≤ k) ∧ Drawn0 w w')
 case atStart => exact ⟨(t339), (a1), (1), rS, rS, rS, H', ⟨Nat.le_refl _⟩, by repeat (first | exact Drawn0.refl _ | apply Drawn0.step)⟩
 case round =>
  clear H'
  try clear p2
  obtain ⟨x0_1, x1_1, x7_1, rfl, rfl, rfl, HA, HK1, ⟨m1, rfl⟩⟩ := hrel
  cases gk with
  | zero => exact absurd HA.out (by simp [impl_powerMod.l0])
  | succ k1 =>
   have H := HA.out
   clear HA
   simp only [impl_powerMod.l0] at H
   by_cases c5 : x1_1 > 0
   ·rw [if_pos c5] at H
    have c5b0 := decide_eq_true c5
    clear c5
    by_cases c6 : (Int.tmod x1_1 2) = 1
    ·rw [if_pos c6] at H
     have c6b0 : ((Int.tmod x1_1 2) == 1) = true := beq_iff_eq.mpr c6
     have c6b1 : ((Int.tmod x1_1 2) != 1) = false := bne_eq_false_iff_eq.mpr c6
     clear c6
     by_cases c7 : a2 = 0
     ·rw [if_pos c7] at H
      exact absurd H (by simp)
     ·rw [if_neg c7] at H
      have c7b0 : (a2 == 0) = false := beq_eq_false_iff_ne.mpr c7
      have c7b1 : (a2 != 0) = true := bne_iff_ne.mpr c7
      have H' := Aside0.mk H
      clear H
      go_wp2
      go_roundg k1
      case measure => have := HK1.out; omega
      case rel => exact ⟨(Int.tmod (wrap64 (x0_1 * x0_1)) a2), (wrap64 (Int.tdiv x1_1 2)), (Int.tmod (wrap64 (x7_1 * x0_1)) a2), rS, rS, rS, H', ⟨by have := HK1.out; omega⟩, by repeat (first | exact Drawn0.refl _ | apply Drawn0.step)⟩
    ·rw [if_neg c6] at H
     have c6b0 : ((Int.tmod x1_1 2) == 1) = false := beq_eq_false_iff_ne.mpr c6
     have c6b1 : ((Int.tmod x1_1 2) != 1) = true := bne_iff_ne.mpr c6
     by_cases c8 : a2 = 0
     ·rw [if_pos c8] at H
      exact absurd H (by simp)
     ·rw [if_neg c8] at H
      have c8b0 : (a2 == 0) = false := beq_eq_false_iff_ne.mpr c8
      have c8b1 : (a2 != 0) = true := bne_iff_ne.mpr c8
      have H' := Aside0.mk H
      clear H
      go_wp2
      go_roundg k1
      case measure => have := HK1.out; omega
      case rel => exact ⟨(Int.tmod (wrap64 (x0_1 * x0_1)) a2), (wrap64 (Int.tdiv x1_1 2)), (x7_1), rS, rS, rS, H', ⟨by have := HK1.out; omega⟩, by repeat (first | exact Drawn0.refl _ | apply Drawn0.step)⟩
   ·rw [if_neg c5] at H
    have c5b0 := decide_eq_false c5
    clear c5
    obtain rfl := Option.some.inj H
    go_wp2
    go_ret
    exact ⟨rS, rD⟩
/-! ### impl_ScInv: function 73 -/
def impl_ScInv.f (k : Nat) (a0 : Int) : Option (Int) := (impl_powerMod.f k a0 1007 1009).bind fun t340 => (some t340)
theorem impl_ScInv.mono : ∀ a0 k, LeO (impl_ScInv.f k a0) (impl_ScInv.f (k + 1) a0) := by
 intro a0 k
 unfold impl_ScInv.f
 with_reducible repeat' first | exact impl_powerMod.mono _ _ _ _ | exact LeO.refl _ | exact LeO.none _ | refine LeO.ite ?_ ?_ | refine LeO.bind ?_ (fun _ => ?_)
set_option maxHeartbeats 8000000 in
set_option maxRecDepth 100000 in
theorem impl_ScInv.calls (k : Nat) (a0 : Int) (r : Int) (w : World) (h : impl_ScInv.f k a0 = some r) :
  Calls Try.prog 73 #[.int .i64 a0] w fun e w' => e = .returned (.int .i64 r) ∧ Drawn0 w w' := by
 have H : ((impl_powerMod.f k a0 1007 1009).bind fun t340 => (some t340)) = some r := h
 clear h
 replace H := Option.bind_eq_some_iff.mp H
 obtain ⟨t340, A20, H⟩ := H
 have A2 := Aside0.mk A20
 clear A20
 obtain rfl := Option.some.inj H
 go_enter Try.func73, Try.ntmps73
 go_wp2_with (first | (refine gC (some 4) Try.func93 #[.int .i64 a0, .int .i64 1007, .int .i64 1009] ?_; (with_reducible refine (impl_powerMod.calls k a0 1007 1009 t340 _ A2.out).mono ?_); rintro e w' ⟨rfl, ⟨nd, rfl⟩⟩; refine ⟨_, rfl, ?_⟩))
 go_ret
 exact ⟨rS, rD⟩
end Go.Proofs.Ytcnejiflpioaiaa.Pf
end
section
namespace Go.Proofs.Ytcnejiflpioaiaa.Pf
open Go.RowKit Go.Proofs.YtcnejiflpioaiaaW.PrintWords Go.Proofs.YtcnejiflpioaiaaW.PrintLast Go.Proofs.YtcnejiflpioaiaaW.PrintMore
attribute [local go_sem] max2_int min2_int max_two min_two max_three min_three max_four min_four   -- for this text's walks alone
set_option linter.unusedVariables false
set_option linter.unusedSimpArgs false

/-! ### impl_PolyThrough: function 46 -/
mutual
def impl_PolyThrough.l0 : Nat → List Int → List Int → List Int → Int → Int → Option (List Int)
 | 0, _, _, _, _, _ => none
 | k + 1, x0, x3, x12, x13, x14 => if x14 < x13 then (if 0 ≤ x14 then (if x14 < (x12.length : Int) then (impl_PolyThrough.l1 k x0 x3 x14 (rd x12 x14) (([1] : List Int)) 1 x12 x13 x14 (x0.length : Int) 0) else (none)) else (none)) else (some x3)
def impl_PolyThrough.l1 : Nat → List Int → List Int → Int → Int → List Int → Int → List Int → Int → Int → Int → Int → Option (List Int)
 | 0, _, _, _, _, _, _, _, _, _, _, _ => none
 | k + 1, x0, x3, x4, x5, x6, x7, x12, x13, x14, x21, x22 => if x22 < x21 then (if x22 = x4 then (impl_PolyThrough.l1 k x0 x3 x4 x5 x6 x7 x12 x13 x14 x21 (wrap64 (x22 + 1))) else ((impl_PolyMul.f k x6 (([wrap64 (-(wrap64 (x22 + 1))), 1] : List Int))).bind fun t348 => ((impl_ScMul.f x7 (wrap64 (x4 - x22))).bind fun t351 => (impl_PolyThrough.l1 k x0 x3 x4 x5 t348 t351 x12 x13 x14 x21 (wrap64 (x22 + 1)))))) else ((impl_ScInv.f k x7).bind fun t352 => ((impl_ScMul.f x5 t352).bind fun t353 => ((impl_scaled.f k x6 t353).bind fun t354 => ((impl_PolyAdd.f k x3 t354).bind fun t357 => (impl_PolyThrough.l0 k x0 t357 x12 x13 (wrap64 (x14 + 1)))))))
end
def impl_PolyThrough.f (k : Nat) (l0 : List Int) : Option (List Int) := if (l0.length : Int) > 16 then (some ([] : List Int)) else (impl_PolyThrough.l0 k l0 ([] : List Int) l0 (l0.length : Int) 0)
theorem impl_PolyThrough.mono_l : ∀ k, (∀ y0 y1 y2 y3 y4, LeO (impl_PolyThrough.l0 k y0 y1 y2 y3 y4) (impl_PolyThrough.l0 (k + 1) y0 y1 y2 y3 y4)) ∧ (∀ y0 y1 y2 y3 y4 y5 y6 y7 y8 y9 y10, LeO (impl_PolyThrough.l1 k y0 y1 y2 y3 y4 y5 y6 y7 y8 y9 y10) (impl_PolyThrough.l1 (k + 1) y0 y1 y2 y3 y4 y5 y6 y7 y8 y9 y10))
 | 0 => ⟨fun _ _ _ _ _ r h => by simp [impl_PolyThrough.l0] at h, fun _ _ _ _ _ _ _ _ _ _ _ r h => by simp [impl_PolyThrough.l1] at h⟩
 | k + 1 => by
  obtain ⟨ih0, ih1⟩ := impl_PolyThrough.mono_l k
  refine ⟨?_, ?_⟩
  ·intro y0 y1 y2 y3 y4
   unfold impl_PolyThrough.l0
   with_reducible repeat' first | exact ih0 _ _ _ _ _ | exact ih1 _ _ _ _ _ _ _ _ _ _ _ | exact impl_PolyAdd.mono _ _ _ | exact impl_PolyMul.mono _ _ _ | exact impl_ScInv.mono _ _ | exact impl_scaled.mono _ _ _ | exact LeO.refl _ | exact LeO.none _ | refine LeO.ite ?_ ?_ | refine LeO.bind ?_ (fun _ => ?_)
  ·intro y0 y1 y2 y3 y4 y5 y6 y7 y8 y9 y10
   unfold impl_PolyThrough.l1
   with_reducible repeat' first | exact ih0 _ _ _ _ _ | exact ih1 _ _ _ _ _ _ _ _ _ _ _ | exact impl_PolyAdd.mono _ _ _ | exact impl_PolyMul.mono _ _ _ | exact impl_ScInv.mono _ _ | exact impl_scaled.mono _ _ _ | exact LeO.refl _ | exact LeO.none _ | refine LeO.ite ?_ ?_ | refine LeO.bind ?_ (fun _ => ?_)
theorem impl_PolyThrough.mono : ∀ a0 k, LeO (impl_PolyThrough.f k a0) (impl_PolyThrough.f (k + 1) a0) := by
 intro a0 k
 obtain ⟨ih0, ih1⟩ := impl_PolyThrough.mono_l k
 unfold impl_PolyThrough.f
 with_reducible repeat' first | exact ih0 _ _ _ _ _ | exact ih1 _ _ _ _ _ _ _ _ _ _ _ | exact impl_PolyAdd.mono _ _ _ | exact impl_PolyMul.mono _ _ _ | exact impl_ScInv.mono _ _ | exact impl_scaled.mono _ _ _ | exact LeO.refl _ | exact LeO.none _ | refine LeO.ite ?_ ?_ | refine LeO.bind ?_ (fun _ => ?_)
set_option maxHeartbeats 8000000 in
set_option maxRecDepth 100000 in
theorem impl_PolyThrough.calls (k : Nat) (A0 : Option Addr) (c0 : Nat) (l0 : List Int) (r : List Int) (w : World) (hr0 : Kd.C (Kd.int .i64) w A0 l0.length l0) (hc0 : l0.length ≤ c0) (h : impl_PolyThrough.f k l0 = some r) :
  Calls Try.prog 46 #[.slice A0 l0.length c0] w fun e w' => ∃ v0_ : Value, e = .returned (v0_) ∧ Kd.R (Kd.int .i64) 3 w' w.heap.size (fun _ => True) v0_ r ∧ Below w.heap.size w w' := by
 have HR0 := Aside0.mk hr0
 have HC0 := Aside0.mk hc0
 clear hr0 hc0
 have HB := Aside0.mk (Below.refl w.heap.size w)
 have H : (if (l0.length : Int) > 16 then (some ([] : List Int)) else (impl_PolyThrough.l0 k l0 ([] : List Int) l0 (l0.length : Int) 0)) = some r := h
 clear h
 by_cases c2 : (l0.length : Int) > 16
 ·rw [if_pos c2] at H
  have c2b0 := decide_eq_true c2
  have c2b1 : decide (16 < l0.length) = true := decide_eq_true (by omega)
  clear c2
  obtain rfl := Option.some.inj H
  go_enter Try.func46, Try.ntmps46
  go_wp2
  go_ret
  exact ⟨_, by first | rfl | (simp [errW_none, errW_some] <;> rfl) | (simp [*, errW_none, errW_some] <;> rfl), by first | exact Kd.R_nil _ _ _ _ _ | exact Kd.N_nil _ _ _ _ _ | exact Kd.V_nil _ _ _ _ _ | exact Kd.Q_nil _ _ _ _ _ | exact Kd.S_nil _ _ _ _ _, bZ HB⟩
 ·rw [if_neg c2] at H
  have c2b0 := decide_eq_false c2
  have c2b1 : decide (16 < l0.length) = false := decide_eq_false (by omega)
  clear c2
  have H' := Aside0.mk H
  clear H
  go_enter Try.func46, Try.ntmps46
  go_wp2
  go_loopg [3, 14] k (fun kq v3 v14 w' => ∃ (x3_1 : List Int) (x14_1 : Int), v14 = .int .i64 x14_1 ∧ Aside0 (impl_PolyThrough.l0 kq l0 x3_1 l0 (l0.length : Int) x14_1 = some r) ∧ Aside0 (kq ≤ k) ∧ Aside0 (Kd.R (Kd.int .i64) 3 w' w.heap.size (fun _ => True) v3 x3_1) ∧ Aside0 (Below w.heap.size w w'))
  case atStart => exact ⟨(([] : List Int)), (0), rS, H', ⟨Nat.le_refl _⟩, ⟨by first | exact Kd.R_nil _ _ _ _ _ | exact Kd.N_nil _ _ _ _ _ | exact Kd.V_nil _ _ _ _ _ | exact Kd.Q_nil _ _ _ _ _ | exact Kd.S_nil _ _ _ _ _⟩, ⟨bZ HB⟩⟩
  case round =>
   clear H'
   try clear c2
   try clear c2b0
   try clear c2b1
   try clear p2
   obtain ⟨x3_1, x14_1, rfl, HA, HK1, HO_3, HB⟩ := hrel
   cases gk with
   | zero => exact absurd HA.out (by simp [impl_PolyThrough.l0])
   | succ k1 =>
    have H := HA.out
    clear HA
    simp only [impl_PolyThrough.l0] at H
    by_cases c3 : x14_1 < (l0.length : Int)
    ·rw [if_pos c3] at H
     have c3b0 := decide_eq_true c3
     clear c3
     by_cases c4 : 0 ≤ x14_1
     ·rw [if_pos c4] at H
      have c4b0 := decide_eq_true c4
      clear c4
      by_cases c5 : x14_1 < (l0.length : Int)
      ·rw [if_pos c5] at H
       have c5b0 := decide_eq_true c5
       clear c5
       obtain ⟨y342, hy342⟩ : ∃ y_ : List Int, y_ = (([1] : List Int)) := ⟨_, rfl⟩
       replace H : (impl_PolyThrough.l1 k1 l0 x3_1 x14_1 (rd l0 x14_1) y342 1 l0 (l0.length : Int) x14_1 (l0.length : Int) 0) = some r := by first | (rw [hy342]; with_reducible exact H) | (have H2_ := (Option.bind_some _ _).symm.trans H; rw [hy342]; with_reducible exact H2_) | (have H2_ := (Option.bind_some _ _).symm.trans H; with_reducible exact H2_) | with_reducible exact H | (rw [hy342]; exact H) | exact H
       have Ny342 := Aside0.mk hy342
       clear hy342
       have H' := Aside0.mk H
       clear H
       have p341 : 0 ≤ (x14_1 : Int) := of_decide_eq_true (by first | (with_reducible assumption) | assumption)
       have q341 : x14_1 < (l0.length : Int) := of_decide_eq_true (by first | (with_reducible assumption) | assumption)
       obtain ⟨ad341, e341, hx341_0⟩ := Kd.at_int HR0.out x14_1 p341 q341
       cases e341
       replace hx341_0 := (hC HB hx341_0 :)
       replace p341 := eq_true p341
       replace q341 := eq_true q341
       go_wp2_with (first | ((with_reducible refine gate_dst (N := 19) rfl ?_); refine Kd.R_lit (Kd.int .i64) _ 3 ?hg (N := 19) ?hd (xs := ([1] : List Int)) (inner := [.int .i64 1]) (ok := fun _ => True) (okp := fun _ => True) ?hr ?hp (fun _ hk => hk) trivial (Below.refl _ _) (Nat.le_refl _) (by simp) ?_; (case hd => rfl); (case hg => rfl); (case hr => first | (go_simp; done) | (go_simp; rfl)); (case hp => exact (Reps.one (show Kd.M (Kd.int .i64) _ _ _ 1 [.int .i64 1] from rfl) (Reps.none _ _))); intro v343 w6 ho7 hb hg_ hnew_; clear hg_ hnew_; (first | rw [← Ny342.out] at ho7 | (simp only [Int.reduceToNat] at ho7; rw [← Ny342.out] at ho7)); have HO344 := Aside0.mk (Kd.R_lower (Kd.R_new' ho7 (Kd.R_lt (rP HO_3))) (below_size (bZ HB))); replace HO_3 := Aside0.mk (Kd.R_elder' (rP HO_3) (Kd.R_base ho7) hb); replace HB := bS HB hb; clear hb ho7))
       go_loopg [6, 7, 22] k1 (fun kq v6 v7 v22 w' => ∃ (x6_2 : List Int) (x7_2 : Int) (x22_2 : Int), v7 = .int .i64 x7_2 ∧ v22 = .int .i64 x22_2 ∧ Aside0 (impl_PolyThrough.l1 kq l0 x3_1 x14_1 (rd l0 x14_1) x6_2 x7_2 l0 (l0.length : Int) x14_1 (l0.length : Int) x22_2 = some r) ∧ Aside0 (kq ≤ k1) ∧ Aside0 (Kd.R (Kd.int .i64) 3 w' w.heap.size (fun k_ => some k_ ≠ (v6 : Value).ownBlock) u3 x3_1) ∧ Aside0 (Kd.R (Kd.int .i64) 3 w' w.heap.size (fun k_ => some k_ ≠ (u3 : Value).ownBlock) v6 x6_2) ∧ Aside0 (Below w.heap.size w w'))
       case atStart => exact ⟨(y342), (1), (0), rS, rS, H', ⟨Nat.le_refl _⟩, ⟨by (with_reducible repeat (first | apply Kd.R_alloc | apply Kd.R_drewN | apply Kd.R_drew)); exact Kd.R_mono HO_3.out (fun _ hk => hk.2)⟩, ⟨by (with_reducible repeat (first | apply Kd.R_alloc | apply Kd.R_drewN | apply Kd.R_drew)); exact Kd.R_mono HO344.out (fun _ hk => hk.2)⟩, ⟨bZ HB⟩⟩
       case round =>
        clear H'
        try clear c2
        try clear c2b0
        try clear c2b1
        try clear p2
        try clear c3
        try clear c3b0
        try clear p3
        try clear q3
        try clear hx3
        try clear c4
        try clear c4b0
        try clear c5
        try clear c5b0
        try clear hx341_0
        try clear p2
        try clear p341
        try clear q341
        obtain ⟨x6_2, x7_2, x22_2, rfl, rfl, HA, HK2, HO_3, HO_6, HB⟩ := hrel
        cases gk with
        | zero => exact absurd HA.out (by simp [impl_PolyThrough.l1])
        | succ k2 =>
         have H := HA.out
         clear HA
         simp only [impl_PolyThrough.l1] at H
         by_cases c8 : x22_2 < (l0.length : Int)
         ·rw [if_pos c8] at H
          have c8b0 := decide_eq_true c8
          clear c8
          by_cases c9 : x22_2 = x14_1
          ·rw [if_pos c9] at H
           have c9b0 : (x22_2 == x14_1) = true := beq_iff_eq.mpr c9
           have c9b1 : (x22_2 != x14_1) = false := bne_eq_false_iff_eq.mpr c9
           clear c9
           have H' := Aside0.mk H
           clear H
           go_wp2
           go_roundg k2
           case measure => have := HK1.out; have := HK2.out; omega
           case rel => exact ⟨(x6_2), (x7_2), (wrap64 (x22_2 + 1)), rS, rS, H', ⟨by have := HK1.out; have := HK2.out; omega⟩, ⟨rP HO_3⟩, ⟨rP HO_6⟩, ⟨bZ HB⟩⟩
          ·rw [if_neg c9] at H
           have c9b0 : (x22_2 == x14_1) = false := beq_eq_false_iff_ne.mpr c9
           have c9b1 : (x22_2 != x14_1) = true := bne_iff_ne.mpr c9
           obtain ⟨y345, hy345⟩ : ∃ y_ : List Int, y_ = (([wrap64 (-(wrap64 (x22_2 + 1))), 1] : List Int)) := ⟨_, rfl⟩
           replace H : ((impl_PolyMul.f k2 x6_2 y345).bind fun t348 => ((impl_ScMul.f x7_2 (wrap64 (x14_1 - x22_2))).bind fun t351 => (impl_PolyThrough.l1 k2 l0 x3_1 x14_1 (rd l0 x14_1) t348 t351 l0 (l0.length : Int) x14_1 (l0.length : Int) (wrap64 (x22_2 + 1))))) = some r := by first | (rw [hy345]; with_reducible exact H) | (have H2_ := (Option.bind_some _ _).symm.trans H; rw [hy345]; with_reducible exact H2_) | (have H2_ := (Option.bind_some _ _).symm.trans H; with_reducible exact H2_) | with_reducible exact H | (rw [hy345]; exact H) | exact H
           have Ny345 := Aside0.mk hy345
           clear hy345
           replace H := Option.bind_eq_some_iff.mp H
           obtain ⟨t348, A100, H⟩ := H
           have A10 := Aside0.mk A100
           clear A100
           replace H := Option.bind_eq_some_iff.mp H
           obtain ⟨t351, A110, H⟩ := H
           have A11 := Aside0.mk A110
           clear A110
           have H' := Aside0.mk H
           clear H
           go_wp2_with (first | ((with_reducible refine gate_dst (N := 32) rfl ?_); refine Kd.R_lit (Kd.int .i64) _ 3 ?hg (N := 32) ?hd (xs := ([wrap64 (-(wrap64 (x22_2 + 1))), 1] : List Int)) (inner := [.int .i64 (wrap64 (-(wrap64 (x22_2 + 1)))), .int .i64 1]) (ok := fun _ => True) (okp := fun _ => True) ?hr ?hp (fun _ hk => hk) trivial (Below.refl _ _) (Nat.le_refl _) (by simp) ?_; (case hd => rfl); (case hg => rfl); (case hr => first | (go_simp; done) | (go_simp; rfl)); (case hp => exact (Reps.one (show Kd.M (Kd.int .i64) _ _ _ (wrap64 (-(wrap64 (x22_2 + 1)))) [.int .i64 (wrap64 (-(wrap64 (x22_2 + 1))))] from rfl) (Reps.one (show Kd.M (Kd.int .i64) _ _ _ 1 [.int .i64 1] from rfl) (Reps.none _ _)))); intro v346 w12 ho13 hb hg_ hnew_; clear hg_ hnew_; (first | rw [← Ny345.out] at ho13 | (simp only [Int.reduceToNat] at ho13; rw [← Ny345.out] at ho13)); have HO347 := Aside0.mk (Kd.R_lower (Kd.R_new' (Kd.R_new' ho13 (Kd.R_lt (rP HO_3))) (Kd.R_lt (rP HO_6))) (below_size (bZ HB))); replace HO_3 := Aside0.mk (Kd.R_elder' (rP HO_3) (Kd.R_base ho13) hb); replace HO_6 := Aside0.mk (Kd.R_elder' (rP HO_6) (Kd.R_base ho13) hb); replace HB := bS HB hb; clear hb ho13; obtain ⟨Ao14, co14, eo14⟩ := Kd.R_slice HO_6.out; subst eo14; obtain ⟨Ao15, co15, eo15⟩ := Kd.R_slice HO347.out; subst eo15) | (refine gC (some 33) Try.func34 #[.slice Ao14 x6_2.length co14, .slice Ao15 y345.length co15] ?_; (with_reducible refine (impl_PolyMul.calls k2 _ _ x6_2 _ _ y345 t348 _ ?side1 ?side2 ?side3 ?side4 A10.out).mono ?_); (case side1 => exact cP ((Kd.R_reads' HO_6.out).2.2)); (case side2 => exact (Kd.R_reads' HO_6.out).2.1); (case side3 => exact cP ((Kd.R_reads' HO347.out).2.2)); (case side4 => exact (Kd.R_reads' HO347.out).2.1); rintro e w16 ⟨v349, rfl, ho0, hb⟩; refine ⟨_, rfl, ?_⟩; have HO350 := Aside0.mk (Kd.R_lower (Kd.R_new' (Kd.R_new' (Kd.R_new' ho0 (Kd.R_lt (rP HO_3))) (Kd.R_lt (rP HO_6))) (Kd.R_lt (rP HO347))) (below_size (bZ HB))); replace HO_3 := Aside0.mk (Kd.R_elder' (rP HO_3) (Kd.R_base ho0) hb); replace HO_6 := Aside0.mk (Kd.R_elder' (rP HO_6) (Kd.R_base ho0) hb); replace HO347 := Aside0.mk (Kd.R_elder' (rP HO347) (Kd.R_base ho0) hb); replace HB := bS HB hb; (try clear hb); (try clear ho0)) | (refine gC (some 38) Try.func49 #[.int .i64 x7_2, .int .i64 (wrap64 (x14_1 - x22_2))] ?_; (with_reducible refine (impl_ScMul.calls x7_2 (wrap64 (x14_1 - x22_2)) t351 _ A11.out).mono ?_); rintro e w' ⟨rfl, ⟨nd, rfl⟩⟩; refine ⟨_, rfl, ?_⟩))
           go_roundg k2
           case measure => have := HK1.out; have := HK2.out; omega
           case rel => exact ⟨(t348), (t351), (wrap64 (x22_2 + 1)), rS, rS, H', ⟨by have := HK1.out; have := HK2.out; omega⟩, ⟨by (with_reducible repeat (first | apply Kd.R_alloc | apply Kd.R_drewN | apply Kd.R_drew)); exact Kd.R_mono HO_3.out (fun _ hk => hk.2)⟩, ⟨by (with_reducible repeat (first | apply Kd.R_alloc | apply Kd.R_drewN | apply Kd.R_drew)); exact Kd.R_mono HO350.out (fun _ hk => hk.1.1.2)⟩, ⟨bZ HB⟩⟩
         ·rw [if_neg c8] at H
          have c8b0 := decide_eq_false c8
          clear c8
          replace H := Option.bind_eq_some_iff.mp H
          obtain ⟨t352, A170, H⟩ := H
          have A17 := Aside0.mk A170
          clear A170
          replace H := Option.bind_eq_some_iff.mp H
          obtain ⟨t353, A180, H⟩ := H
          have A18 := Aside0.mk A180
          clear A180
          replace H := Option.bind_eq_some_iff.mp H
          obtain ⟨t354, A190, H⟩ := H
          have A19 := Aside0.mk A190
          clear A190
          replace H := Option.bind_eq_some_iff.mp H
          obtain ⟨t357, A200, H⟩ := H
          have A20 := Aside0.mk A200
          clear A200
          have H' := Aside0.mk H
          clear H
          go_wp2_with (first | (refine gC (some 44) Try.func73 #[.int .i64 x7_2] ?_; (with_reducible refine (impl_ScInv.calls k2 x7_2 t352 _ A17.out).mono ?_); rintro e w' ⟨rfl, ⟨nd, rfl⟩⟩; refine ⟨_, rfl, ?_⟩) | (refine gC (some 45) Try.func49 #[.int .i64 (rd l0 x14_1), .int .i64 t352] ?_; (with_reducible refine (impl_ScMul.calls (rd l0 x14_1) t352 t353 _ A18.out).mono ?_); rintro e w' ⟨rfl, ⟨nd, rfl⟩⟩; refine ⟨_, rfl, ?_⟩; obtain ⟨Ao21, co21, eo21⟩ := Kd.R_slice HO_6.out; subst eo21) | (refine gC (some 46) Try.func69 #[.slice Ao21 x6_2.length co21, .int .i64 t353] ?_; (with_reducible refine (impl_scaled.calls k2 _ _ x6_2 t353 t354 _ ?side1 ?side2 A19.out).mono ?_); (case side1 => exact cP ((Kd.R_reads' HO_6.out).2.2)); (case side2 => exact (Kd.R_reads' HO_6.out).2.1); rintro e w22 ⟨v355, rfl, ho0, hb⟩; refine ⟨_, rfl, ?_⟩; have HO356 := Aside0.mk (Kd.R_lower (Kd.R_new' (Kd.R_new' ho0 (Kd.R_lt (rP HO_3))) (Kd.R_lt (rP HO_6))) (below_size (bZ HB))); replace HO_3 := Aside0.mk (Kd.R_elder' (rP HO_3) (Kd.R_base ho0) hb); replace HO_6 := Aside0.mk (Kd.R_elder' (rP HO_6) (Kd.R_base ho0) hb); replace HB := bS HB hb; (try clear hb); (try clear ho0); obtain ⟨Ao23, co23, eo23⟩ := Kd.R_slice HO_3.out; subst eo23; obtain ⟨Ao24, co24, eo24⟩ := Kd.R_slice HO356.out; subst eo24) | (refine gC (some 47) Try.func32 #[.slice Ao23 x3_1.length co23, .slice Ao24 t354.length co24] ?_; (with_reducible refine (impl_PolyAdd.calls k2 _ _ x3_1 _ _ t354 t357 _ ?side1 ?side2 ?side3 ?side4 A20.out).mono ?_); (case side1 => exact cP ((Kd.R_reads' HO_3.out).2.2)); (case side2 => exact (Kd.R_reads' HO_3.out).2.1); (case side3 => exact cP ((Kd.R_reads' HO356.out).2.2)); (case side4 => exact (Kd.R_reads' HO356.out).2.1); rintro e w25 ⟨v358, rfl, ho0, hb⟩; refine ⟨_, rfl, ?_⟩; have HO359 := Aside0.mk (Kd.R_lower (Kd.R_new' (Kd.R_new' (Kd.R_new' ho0 (Kd.R_lt (rP HO_3))) (Kd.R_lt (rP HO_6))) (Kd.R_lt (rP HO356))) (below_size (bZ HB))); replace HO_3 := Aside0.mk (Kd.R_elder' (rP HO_3) (Kd.R_base ho0) hb); replace HO_6 := Aside0.mk (Kd.R_elder' (rP HO_6) (Kd.R_base ho0) hb); replace HO356 := Aside0.mk (Kd.R_elder' (rP HO356) (Kd.R_base ho0) hb); replace HB := bS HB hb; (try clear hb); (try clear ho0)))
          go_roundg k2
          case measure => have := HK1.out; have := HK2.out; omega
          case rel => exact ⟨(t357), (wrap64 (x14_1 + 1)), rS, H', ⟨by have := HK1.out; have := HK2.out; omega⟩, ⟨by (with_reducible repeat (first | apply Kd.R_alloc | apply Kd.R_drewN | apply Kd.R_drew)); exact Kd.R_mono HO359.out (fun _ hk => trivial)⟩, ⟨bZ HB⟩⟩
      ·rw [if_neg c5] at H
       exact absurd H (by simp)
     ·rw [if_neg c4] at H
      exact absurd H (by simp)
    ·rw [if_neg c3] at H
     have c3b0 := decide_eq_false c3
     clear c3
     obtain rfl := Option.some.inj H
     go_wp2
     go_ret
     exact ⟨_, by first | rfl | (simp [errW_none, errW_some] <;> rfl) | (simp [*, errW_none, errW_some] <;> rfl), by (with_reducible repeat (first | apply Kd.R_alloc | apply Kd.R_drewN | apply Kd.R_drew)); exact HO_3.out, bZ HB⟩

end Go.Proofs.Ytcnejiflpioaiaa.Pf
end
section
namespace Go.Proofs.Ytcnejiflpioaiaa.Pf
open Go.RowKit Go.Proofs.YtcnejiflpioaiaaW.PrintWords Go.Proofs.YtcnejiflpioaiaaW.PrintLast Go.Proofs.YtcnejiflpioaiaaW.PrintMore
attribute [local go_sem] max2_int min2_int max_two min_two max_three min_three max_four min_four   -- for this text's walks alone
set_option linter.unusedVariables false
set_option linter.unusedSimpArgs false
/-! ### impl_isScalar: function 100 -/
def impl_isScalar.f (a0 : Int) : Option (Bool) := if a0 ≥ 0 then (some (decide (a0 < 1009))) else (some false)
set_option maxHeartbeats 8000000 in
set_option maxRecDepth 100000 in
theorem impl_isScalar.calls (a0 : Int) (r : Bool) (w : World) (h : impl_isScalar.f a0 = some r) :
  Calls Try.prog 100 #[.int .i64 a0] w fun e w' => e = .returned (.bool r) ∧ Drawn0 w w' := by
 have H : (if a0 ≥ 0 then (some (decide (a0 < 1009))) else (some false)) = some r := h
 clear h
 by_cases c2 : a0 ≥ 0
 ·rw [if_pos c2] at H
  have c2b0 := decide_eq_true c2
  clear c2
  obtain rfl := Option.some.inj H
  go_enter Try.func100, Try.ntmps100
  go_wp2
  go_ret
  exact ⟨rS, rD⟩
 ·rw [if_neg c2] at H
  have c2b0 := decide_eq_false c2
  clear c2
  obtain rfl := Option.some.inj H
  go_enter Try.func100, Try.ntmps100
  go_wp2
  go_ret
  exact ⟨rS, rD⟩
/-! ### impl_areScalars: function 92 -/
def impl_areScalars.l0 : Nat → List Int → Int → Int → Option (Bool)
 | 0, _, _, _ => none
 | k + 1, x5, x6, x7 => if x7 < x6 then (if 0 ≤ x7 then (if x7 < (x5.length : Int) then ((impl_isScalar.f (rd x5 x7)).bind fun t361 => (if t361 = true then (impl_areScalars.l0 k x5 x6 (wrap64 (x7 + 1))) else (some false))) else (none)) else (none)) else (some true)
def impl_areScalars.f (k : Nat) (l0 : List Int) : Option (Bool) := impl_areScalars.l0 k l0 (l0.length : Int) 0
theorem impl_areScalars.mono_l : ∀ k, (∀ y0 y1 y2, LeO (impl_areScalars.l0 k y0 y1 y2) (impl_areScalars.l0 (k + 1) y0 y1 y2))
 | 0 => fun _ _ _ r h => by simp [impl_areScalars.l0] at h
 | k + 1 => by
  have ih0 := impl_areScalars.mono_l k
  ·intro y0 y1 y2
   unfold impl_areScalars.l0
   with_reducible repeat' first | exact ih0 _ _ _ | exact LeO.refl _ | exact LeO.none _ | refine LeO.ite ?_ ?_ | refine LeO.bind ?_ (fun _ => ?_)
theorem impl_areScalars.mono : ∀ a0 k, LeO (impl_areScalars.f k a0) (impl_areScalars.f (k + 1) a0) := by
 intro a0 k
 have ih0 := impl_areScalars.mono_l k
 unfold impl_areScalars.f
 with_reducible repeat' first | exact ih0 _ _ _ | exact LeO.refl _ | exact LeO.none _ | refine LeO.ite ?_ ?_ | refine LeO.bind ?_ (fun _ => ?_)
set_option maxHeartbeats 8000000 in
set_option maxRecDepth 100000 in
theorem impl_areScalars.calls (k : Nat) (A0 : Option Addr) (c0 : Nat) (l0 : List Int) (r : Bool) (w : World) (hr0 : Kd.C (Kd.int .i64) w A0 l0.length l0) (hc0 : l0.length ≤ c0) (h : impl_areScalars.f k l0 = some r) :
  Calls Try.prog 92 #[.slice A0 l0.length c0] w fun e w' => e = .returned (.bool r) ∧ Drawn0 w w' := by
 have HR0 := Aside0.mk hr0
 have HC0 := Aside0.mk hc0
 clear hr0 hc0
 have H : (impl_areScalars.l0 k l0 (l0.length : Int) 0) = some r := h
 clear h
 have H' := Aside0.mk H
 clear H
 go_enter Try.func92, Try.ntmps92
 go_wp2
 go_loopg [7] k (fun kq v7 w' => ∃ (x7_1 : Int), v7 = .int .i64 x7_1 ∧ Aside0 (impl_areScalars.l0 kq l0 (l0.length : Int) x7_1 = some r) ∧ Aside0 (kq ≤ k) ∧ Drawn0 w w')
 case atStart => exact ⟨(0), rS, H', ⟨Nat.le_refl _⟩, by repeat (first | exact Drawn0.refl _ | apply Drawn0.step)⟩
 case round =>
  clear H'
  obtain ⟨x7_1, rfl, HA, HK1, ⟨m1, rfl⟩⟩ := hrel
  cases gk with
  | zero => exact absurd HA.out (by simp [impl_areScalars.l0])
  | succ k1 =>
   have H := HA.out
   clear HA
   simp only [impl_areScalars.l0] at H
   by_cases c2 : x7_1 < (l0.length : Int)
   ·rw [if_pos c2] at H
    have c2b0 := decide_eq_true c2
    clear c2
    by_cases c3 : 0 ≤ x7_1
    ·rw [if_pos c3] at H
     have c3b0 := decide_eq_true c3
     clear c3
     by_cases c4 : x7_1 < (l0.length : Int)
     ·rw [if_pos c4] at H
      have c4b0 := decide_eq_true c4
      clear c4
      replace H := Option.bind_eq_some_iff.mp H
      obtain ⟨t361, A50, H⟩ := H
      have A5 := Aside0.mk A50
      clear A50
      by_cases c6 : t361 = true
      ·subst c6
       rw [if_pos rfl] at H
       have H' := Aside0.mk H
       clear H
       have p360 : 0 ≤ (x7_1 : Int) := of_decide_eq_true (by first | (with_reducible assumption) | assumption)
       have q360 : x7_1 < (l0.length : Int) := of_decide_eq_true (by first | (with_reducible assumption) | assumption)
       obtain ⟨ad360, e360, hx360_0⟩ := Kd.at_int HR0.out x7_1 p360 q360
       cases e360
       replace p360 := eq_true p360
       replace q360 := eq_true q360
       go_wp2_with (first | (refine gC (some 12) Try.func100 #[.int .i64 (rd l0 x7_1)] ?_; (with_reducible refine (impl_isScalar.calls (rd l0 x7_1) true _ A5.out).mono ?_); rintro e w' ⟨rfl, ⟨nd, rfl⟩⟩; refine ⟨_, rfl, ?_⟩))
       go_roundg k1
       case measure => have := HK1.out; omega
       case rel => exact ⟨(wrap64 (x7_1 + 1)), rS, H', ⟨by have := HK1.out; omega⟩, by repeat (first | exact Drawn0.refl _ | apply Drawn0.step)⟩
      ·replace c6 := Bool.eq_false_iff.mpr c6
       subst c6
       rw [if_neg (show ¬ (false = true) by decide)] at H
       obtain rfl := Option.some.inj H
       have p360 : 0 ≤ (x7_1 : Int) := of_decide_eq_true (by first | (with_reducible assumption) | assumption)
       have q360 : x7_1 < (l0.length : Int) := of_decide_eq_true (by first | (with_reducible assumption) | assumption)
       obtain ⟨ad360, e360, hx360_0⟩ := Kd.at_int HR0.out x7_1 p360 q360
       cases e360
       replace p360 := eq_true p360
       replace q360 := eq_true q360
       go_wp2_with (first | (refine gC (some 12) Try.func100 #[.int .i64 (rd l0 x7_1)] ?_; (with_reducible refine (impl_isScalar.calls (rd l0 x7_1) false _ A5.out).mono ?_); rintro e w' ⟨rfl, ⟨nd, rfl⟩⟩; refine ⟨_, rfl, ?_⟩))
       go_ret
       exact ⟨rS, rD⟩
     ·rw [if_neg c4] at H
      exact absurd H (by simp)
    ·rw [if_neg c3] at H
     exact absurd H (by simp)
   ·rw [if_neg c2] at H
    have c2b0 := decide_eq_false c2
    clear c2
    obtain rfl := Option.some.inj H
    go_wp2
    go_ret
    exact ⟨rS, rD⟩
end Go.Proofs.Ytcnejiflpioaiaa.Pf
end
