/- What is proved here: part 2 of 2 of the proof of the given statement FnExactCountSystem: the contracts of the Go functions that it reaches, the plain facts on lists and numbers, and (in the last part) the statement itself. No conditions beyond the given ones. -/
import Derived.Test.YthdpfjkdpeamnaaMFnExactCountSystemwSlim
import Derived.Test.YthdpfjkdpeamnaaMFnExactCountSystema
import Derived.Test.YthdpfjkdpeamnaaRows
import Derived.WalkKit
import Derived.ProofKit
import Derived.OpenShut
import Derived.ShutString
import Derived.ChangeOld
import Derived.Below
import Derived.SizedLaws

section
namespace Go.Proofs.Ythdpfjkdpeamnaa.Pf
open Go.RowKit Go.Proofs.YthdpfjkdpeamnaaW.PrintWords Go.Proofs.YthdpfjkdpeamnaaW.PrintLast Go.Proofs.YthdpfjkdpeamnaaW.PrintMore
attribute [local go_sem] max2_int min2_int max_two min_two max_three min_three max_four min_four   -- for this text's walks alone
set_option linter.unusedVariables false
set_option linter.unusedSimpArgs false
def impl_CountSystem.l0 : Nat → List Int → List Int → Int → Int → Int → List (S75) → Option (Int × Int × (List (S75)))
 | 0, _, _, _, _, _, _ => none
 | k + 1, x2, x3, x13, x167000, x167001, x167002 => if x13 < 8 then (if 0 ≤ (IntKind.u64.wrap (x13)) then (if 0 ≤ (wrap64 (3 + x13)) then (if (wrap64 (3 + x13)) < (x2.length : Int) then (if (wrap64 (3 + x13)) < (x3.length : Int) then ((impl_unit.f x167000 (wrap64 (3 + x13))).bind fun t175 => ((impl_unit.f x167000 (wrap64 (3 + x13))).bind fun t178 => ((impl_unit.f x167000 (wrap64 (3 + x13))).bind fun t181 => (if x167002.length < 1954687338268 then (impl_CountSystem.l0 k (x2.set ((wrap64 (3 + x13)) : Int).toNat (shl .i64 1 (IntKind.u64.wrap (x13)))) (x3.set ((wrap64 (3 + x13)) : Int).toNat 1) (wrap64 (x13 + 1)) x167000 x167001 (x167002 ++ [(⟨t175, t178, t181⟩ : S75)])) else (none))))) else (none)) else (none)) else (none)) else (none)) else ((impl_unit.f x167000 0).bind fun t187 => ((impl_unit.f x167000 1).bind fun t190 => (if x167002.length < 1954687338268 then ((some (x167002 ++ [(⟨t187, x2, t190⟩ : S75)] : List (S75))).bind fun y193 => ((impl_unit.f x167000 0).bind fun t196 => ((impl_unit.f x167000 2).bind fun t199 => (if y193.length < 1954687338268 then (some (x167000, x167001, (y193 ++ [(⟨t196, x3, t199⟩ : S75)]))) else (none))))) else (none))))
def impl_CountSystem.f (k : Nat)  : Option (Int × Int × (List (S75))) := if 11 ≤ 35184372088832 then (impl_CountSystem.l0 k (List.replicate 11 0) (List.replicate 11 0) 0 11 2 ([] : List (S75))) else (none)
def impl_CountSystem.T2 : Bool × List (List Nat × List Nat) := (true, [([], []), ([0], [0]), ([1, 1], [1]), ([], []), ([3], [3]), ([4, 4], [4]), ([2, 0, 1, 2], [2]), ([5, 6, 0, 1, 2, 3, 4, 5, 6], [5])])
def impl_CountSystem.B2 : List Nat := [0, 1, 3, 0, 8, 24, 7, 127]
theorem impl_CountSystem.tab2 : rtab .any (opsOf Try.f38 2) = impl_CountSystem.T2 := by kernel_rfl
theorem impl_CountSystem.bits2 : waitsOk impl_CountSystem.T2.2 impl_CountSystem.B2 = true := by kernel_rfl
def impl_CountSystem.T9 : Bool × List (List Nat × List Nat) := (true, [([], []), ([0], [0]), ([], []), ([2], [2]), ([], []), ([3, 4], [3, 4]), ([], []), ([6], [6]), ([], []), ([7, 8, 5], [7, 8]), ([], []), ([10], [10]), ([], []), ([11, 12, 9], [11, 12]), ([5, 9, 13], [5, 9, 13]), ([14], [14]), ([1, 15, 13], [1, 15]), ([0, 1, 2, 3, 4, 5, 6, 7, 8, 9, 10, 11, 12, 13, 14, 15, 16], []), ([17, 16, 16, 0, 1, 2, 3, 4, 5, 6, 7, 8, 9, 10, 11, 12, 13, 14, 15, 16], [16, 17])])
def impl_CountSystem.B9 : List Nat := [0, 1, 0, 4, 0, 28, 0, 64, 0, 508, 0, 1024, 0, 8188, 16380, 32764, 65535, 131071, 262143]
theorem impl_CountSystem.tab9 : rtab .any (opsOf Try.f38 9) = impl_CountSystem.T9 := by kernel_rfl
theorem impl_CountSystem.bits9 : waitsOk impl_CountSystem.T9.2 impl_CountSystem.B9 = true := by kernel_rfl
def impl_CountSystem.T11 : Bool × List (List Nat × List Nat) := (true, [([], []), ([0], [0]), ([], []), ([2], [2]), ([3], [3]), ([], []), ([], []), ([6], [6]), ([7, 4], [7]), ([4, 5, 8], [4, 5, 8]), ([9], [9]), ([1, 10, 8], [1, 10]), ([0, 1, 2, 3, 4, 5, 6, 7, 8, 9, 10, 11], []), ([12, 11, 11, 0, 1, 2, 3, 4, 5, 6, 7, 8, 9, 10, 11], [11, 12])])
def impl_CountSystem.B11 : List Nat := [0, 1, 0, 4, 12, 0, 0, 64, 220, 508, 1020, 2047, 4095, 8191]
theorem impl_CountSystem.tab11 : rtab .any (opsOf Try.f38 11) = impl_CountSystem.T11 := by kernel_rfl
theorem impl_CountSystem.bits11 : waitsOk impl_CountSystem.T11.2 impl_CountSystem.B11 = true := by kernel_rfl
def impl_CountSystem.T12 : Bool × List (List Nat × List Nat) := (true, [([], []), ([0], [0]), ([], []), ([2], [2]), ([3], [3]), ([], []), ([], []), ([6], [6]), ([7, 4], [7]), ([4, 5, 8], [4, 5, 8]), ([9], [9]), ([1, 10, 8], [1, 10]), ([0, 1, 2, 3, 4, 5, 6, 7, 8, 9, 10, 11], []), ([12, 11, 11, 0, 1, 2, 3, 4, 5, 6, 7, 8, 9, 10, 11], [11, 12])])
def impl_CountSystem.B12 : List Nat := [0, 1, 0, 4, 12, 0, 0, 64, 220, 508, 1020, 2047, 4095, 8191]
theorem impl_CountSystem.tab12 : rtab .any (opsOf Try.f38 12) = impl_CountSystem.T12 := by kernel_rfl
theorem impl_CountSystem.bits12 : waitsOk impl_CountSystem.T12.2 impl_CountSystem.B12 = true := by kernel_rfl
set_option maxHeartbeats 8000000 in
set_option maxRecDepth 100000 in
theorem impl_CountSystem.calls (k : Nat)  (r1 : Int) (r2 : Int) (r3 : List (S75)) (w : World) (h : impl_CountSystem.f k  = some (r1, r2, r3)) :
  Calls Try.prog 38 #[] w fun e w' => ∃ v2_ : Value, e = .returned (.agg #[.int .i64 r1, .int .i64 r2, v2_]) ∧ Kd.S k75 75 w' w.heap.size (fun _ => True) v2_ r3 ∧ Below w.heap.size w w' := by
 have hu43 := Try.underlying43
 have hu75 := Try.underlying75
 have HB := Aside0.mk (Below.refl w.heap.size w)
 have H : (if 11 ≤ 35184372088832 then (impl_CountSystem.l0 k (List.replicate 11 0) (List.replicate 11 0) 0 11 2 ([] : List (S75))) else (none)) = some (r1, r2, r3) := h
 clear h
 by_cases c1 : 11 ≤ 35184372088832
 ·rw [if_pos c1] at H
  have c1b0 := eq_true c1
  have c1b1 : decide (11 ≤ 35184372088832) = true := decide_eq_true c1
  clear c1
  obtain ⟨y167, hy167⟩ : ∃ y_ : List Int, y_ = (List.replicate 11 0) := ⟨_, rfl⟩
  replace H : (impl_CountSystem.l0 k y167 (List.replicate 11 0) 0 11 2 ([] : List (S75))) = some (r1, r2, r3) := by first | (rw [hy167]; with_reducible exact H) | (have H2_ := (Option.bind_some _ _).symm.trans H; rw [hy167]; with_reducible exact H2_) | (have H2_ := (Option.bind_some _ _).symm.trans H; with_reducible exact H2_) | with_reducible exact H | (rw [hy167]; exact H) | exact H
  have Ny167 := Aside0.mk hy167
  clear hy167
  obtain ⟨y170, hy170⟩ : ∃ y_ : List Int, y_ = (List.replicate 11 0) := ⟨_, rfl⟩
  replace H : (impl_CountSystem.l0 k y167 y170 0 11 2 ([] : List (S75))) = some (r1, r2, r3) := by first | (rw [hy170]; with_reducible exact H) | (have H2_ := (Option.bind_some _ _).symm.trans H; rw [hy170]; with_reducible exact H2_) | (have H2_ := (Option.bind_some _ _).symm.trans H; with_reducible exact H2_) | with_reducible exact H | (rw [hy170]; exact H) | exact H
  have Ny170 := Aside0.mk hy170
  clear hy170
  have H' := Aside0.mk H
  clear H
  go_enter Try.func38, Try.ntmps38
  try go_wp2_with (first | ((with_reducible refine gate_dst (N := 0) rfl ?_); refine bE 0 #[.int .i64 0, .int .i64 0, .slice none 0 0] 43 ?_; intro gb165 hg w2 hbox hb; have BK165 := Aside0.mk (hbox); have GW165 := bG HB hg; have GE165 := bG HB hg; replace HB := bS HB hb; clear hb hbox hg) | ((with_reducible refine gate_dst (N := 1) rfl ?_); refine bE 1 #[.int .i64 0, .int .i64 0, .slice none 0 0] 43 ?_; intro gb166 hg w3 hbox hb; have BK166 := Aside0.mk (hbox); have GW166 := bG HB hg; have GE166 := bG HB hg; replace HB := bS HB hb; have NB165_166 := bL BK165 hg; have NB166_165 := bR BK165 hg; replace BK165 := bB BK165 hb; clear hb hbox hg; obtain ⟨hnb4, hnc4⟩ := nB NB166_165; obtain ⟨hcz5_0, hcz5_1, hcz5_2, hfz5_0, hfz5_1, hfz5_2⟩ := bK3 (w := w3) BK166))
  obtain ⟨w6, hW_⟩ : ∃ W_ : World, W_ = (((w3.setCell ⟨gb166, 0, none⟩ (.int .i64 11)).setCell ⟨gb166, 1, none⟩ (.int .i64 2)).setCell ⟨gb166, 2, none⟩ (.slice none 0 0)) := ⟨_, rfl⟩
  replace BK165 := bW hW_ BK165
  replace BK166 := bX hW_ 43 #[.int .i64 11, .int .i64 2, .slice none 0 0] BK166
  replace HB := zW hW_ HB
  rw [← hW_]
  clear hW_
  replace BK165 := Aside0.mk (blk_drew BK165.out)
  replace BK166 := Aside0.mk (blk_drew BK166.out)
  replace HB := Aside0.mk (below_drew1 HB.out)
  refine start_ (n := 8) (S := fun w' => SQ3 w' gb166 (.int .i64 11) (.int .i64 2) (.slice none 0 0)) (ds := []) #[false, false, false, false, false, false, false, false] (by kernel_rfl) rfl rfl (bT3 BK166) (fun hHeld => ?_); refine with_tabW impl_CountSystem.tab2 impl_CountSystem.bits2 (fun HT_ HW_ => ?_)
  generalize w6.drew = w7 at BK165 BK166 HB hHeld ⊢
  refine pI 0 (some 7) HT_.out ?_
  refine pI 3 (some 10) HT_.out ?_
  refine tI3 1 (some 8) HT_.out HW_.out hHeld ?_
  refine tI3 4 (some 11) HT_.out HW_.out hHeld ?_
  refine join_ (σ := Value × Value) 1 #[true, true, true, true, true, true, true, false] (fun s_ => [(9, s_.1), (12, s_.2), (2, s_.1)]) (fun s_ w' => (w'.cell? ⟨gb166, 0, none⟩ = some (.int .i64 11) ∧ w'.cell? ⟨gb166, 1, none⟩ = some (.int .i64 2) ∧ w'.cell? ⟨gb166, 2, none⟩ = some (.slice none 0 0)) ∧ (Kd.R (Kd.int .i64) 3 w' w.heap.size (fun k_ => some k_ ≠ (s_.2 : Value).ownBlock) s_.1 y167) ∧ (Kd.R (Kd.int .i64) 3 w' w.heap.size (fun k_ => some k_ ≠ (s_.1 : Value).ownBlock) s_.2 y170) ∧ (w'.heap[gb165]? = some (.cells #[.int .i64 0, .int .i64 0, .slice none 0 0] 43 (0, 0))) ∧ (w'.heap[gb166]? = some (.cells #[.int .i64 11, .int .i64 2, .slice none 0 0] 43 (0, 0))) ∧ (Below w.heap.size w w')) ?_ ?_
  rotate_left
  ·intro hCont
   refine two_ (i := 2) (j := 5) (Ni := some 9) (Nj := some 12) #[true, true, true, true, true, false, false, false] #[true, true, false, true, true, true, false, false] rfl rfl rfl rfl (two_of HT_.out (by kernel_rfl)) (by decide) (by decide) (fun K hK => ?_) (fun K hK => ?_)
   ·skip
    refine Kd.R_make_step (Kd.int .i64) _ 3 (by rfl) (N := 9) rfl 31 _ _ rfl 11 rfl rfl Try.underlying31 (.int .i64 0) 8 info3 rfl (by decide) (by omega) 0 (ok := fun _ => True) (okp := fun _ => True) rfl (fun _ hk => hk) trivial (by omega) (by omega) (Below.refl _ _) (Nat.le_refl _) ?_
    intro v168 w8 ho9 hb hg_ hnew_
    clear hg_ hnew_
    (first | rw [← Ny167.out] at ho9 | (simp only [Int.reduceToNat] at ho9; rw [← Ny167.out] at ho9))
    have HO169 := Aside0.mk (Kd.R_lower ho9 (below_size (bZ HB)))
    replace BK165 := bB BK165 hb
    replace BK166 := bB BK166 hb
    replace HB := bS HB hb
    clear hb ho9
    refine hK.out _ _ (bT3 BK166) (fun hHeld => ?_)
    clear hK K
    refine nO (some 9) ?_
    refine pI 6 (some 2) HT_.out ?_
    refine oI 5 (some 12) HT_.out (fun K hK => ?_)
    refine Kd.R_make_step (Kd.int .i64) _ 3 (by rfl) (N := 12) rfl 31 _ _ rfl 11 rfl rfl Try.underlying31 (.int .i64 0) 8 info3 rfl (by decide) (by omega) 0 (ok := fun _ => True) (okp := fun _ => True) rfl (fun _ hk => hk) trivial (by omega) (by omega) (Below.refl _ _) (Nat.le_refl _) ?_
    intro v171 w10 ho11 hb hg_ hnew_
    clear hg_ hnew_
    (first | rw [← Ny170.out] at ho11 | (simp only [Int.reduceToNat] at ho11; rw [← Ny170.out] at ho11))
    have HO172 := Aside0.mk (Kd.R_lower (Kd.R_new' ho11 (Kd.R_lt (rP HO169))) (below_size (bZ HB)))
    replace HO169 := Aside0.mk (Kd.R_elder' (rP HO169) (Kd.R_base ho11) hb)
    replace BK165 := bB BK165 hb
    replace BK166 := bB BK166 hb
    replace HB := bS HB hb
    clear hb ho11
    refine hK.out _ _ (bT3 BK166) (fun hHeld => ?_)
    clear hK K
    refine nO (some 12) ?_
    exact norm_ (by simp only [putAll, Act.put, List.setIfInBounds_toArray, List.set_cons_zero, List.set_cons_succ]) (hCont (v168, v171) _ ⟨hHeld, (by (with_reducible repeat (first | apply Kd.R_alloc | apply Kd.R_drewN | apply Kd.R_drew)); exact Kd.R_mono HO169.out (fun _ hk => hk.2)), (by (with_reducible repeat (first | apply Kd.R_alloc | apply Kd.R_drewN | apply Kd.R_drew)); exact Kd.R_mono HO172.out (fun _ hk => hk.2)), (bP BK165), (bP BK166), (bZ HB)⟩)
   ·skip
    refine Kd.R_make_step (Kd.int .i64) _ 3 (by rfl) (N := 12) rfl 31 _ _ rfl 11 rfl rfl Try.underlying31 (.int .i64 0) 8 info3 rfl (by decide) (by omega) 0 (ok := fun _ => True) (okp := fun _ => True) rfl (fun _ hk => hk) trivial (by omega) (by omega) (Below.refl _ _) (Nat.le_refl _) ?_
    intro v171 w8 ho9 hb hg_ hnew_
    clear hg_ hnew_
    (first | rw [← Ny170.out] at ho9 | (simp only [Int.reduceToNat] at ho9; rw [← Ny170.out] at ho9))
    have HO172 := Aside0.mk (Kd.R_lower ho9 (below_size (bZ HB)))
    replace BK165 := bB BK165 hb
    replace BK166 := bB BK166 hb
    replace HB := bS HB hb
    clear hb ho9
    refine hK.out _ _ (bT3 BK166) (fun hHeld => ?_)
    clear hK K
    refine nO (some 12) ?_
    refine oI 2 (some 9) HT_.out (fun K hK => ?_)
    refine Kd.R_make_step (Kd.int .i64) _ 3 (by rfl) (N := 9) rfl 31 _ _ rfl 11 rfl rfl Try.underlying31 (.int .i64 0) 8 info3 rfl (by decide) (by omega) 0 (ok := fun _ => True) (okp := fun _ => True) rfl (fun _ hk => hk) trivial (by omega) (by omega) (Below.refl _ _) (Nat.le_refl _) ?_
    intro v168 w10 ho11 hb hg_ hnew_
    clear hg_ hnew_
    (first | rw [← Ny167.out] at ho11 | (simp only [Int.reduceToNat] at ho11; rw [← Ny167.out] at ho11))
    have HO169 := Aside0.mk (Kd.R_lower (Kd.R_new' ho11 (Kd.R_lt (rP HO172))) (below_size (bZ HB)))
    replace HO172 := Aside0.mk (Kd.R_elder' (rP HO172) (Kd.R_base ho11) hb)
    replace BK165 := bB BK165 hb
    replace BK166 := bB BK166 hb
    replace HB := bS HB hb
    clear hb ho11
    refine hK.out _ _ (bT3 BK166) (fun hHeld => ?_)
    clear hK K
    refine nO (some 9) ?_
    refine pI 6 (some 2) HT_.out ?_
    exact norm_ (by simp only [putAll, Act.put, List.setIfInBounds_toArray, List.set_cons_zero, List.set_cons_succ]) (hCont (v168, v171) _ ⟨hHeld, (by (with_reducible repeat (first | apply Kd.R_alloc | apply Kd.R_drewN | apply Kd.R_drew)); exact Kd.R_mono HO169.out (fun _ hk => hk.2)), (by (with_reducible repeat (first | apply Kd.R_alloc | apply Kd.R_drewN | apply Kd.R_drew)); exact Kd.R_mono HO172.out (fun _ hk => hk.2)), (bP BK165), (bP BK166), (bZ HB)⟩)
  rintro ⟨v168, v171⟩ w12 ⟨hS_, h0_, h1_, h2_, h3_, h4_⟩
  have HO169 : Aside0 (Kd.R (Kd.int .i64) 3 w12 w.heap.size (fun k_ => some k_ ≠ (v171 : Value).ownBlock) v168 y167) := ⟨h0_⟩
  have HO172 : Aside0 (Kd.R (Kd.int .i64) 3 w12 w.heap.size (fun k_ => some k_ ≠ (v168 : Value).ownBlock) v171 y170) := ⟨h1_⟩
  replace BK165 : Aside0 (w12.heap[gb165]? = some (.cells #[.int .i64 0, .int .i64 0, .slice none 0 0] 43 (0, 0))) := ⟨h2_⟩
  replace BK166 : Aside0 (w12.heap[gb166]? = some (.cells #[.int .i64 11, .int .i64 2, .slice none 0 0] 43 (0, 0))) := ⟨h3_⟩
  replace HB : Aside0 (Below w.heap.size w w12) := ⟨h4_⟩
  clear h0_ h1_ h2_ h3_ h4_
  have hHeld : w12.cell? ⟨gb166, 0, none⟩ = some (.int .i64 11) ∧ w12.cell? ⟨gb166, 1, none⟩ = some (.int .i64 2) ∧ w12.cell? ⟨gb166, 2, none⟩ = some (.slice none 0 0) := hS_
  refine norm_ (a' := ?_) ?_ ?_
  rotate_left
  ·simp only [putAll, Act.put, List.setIfInBounds_toArray, List.set_cons_zero, List.set_cons_succ]
   rfl
  refine pI 7 (some 3) HT_.out ?_
  refine done_ (done_of HT_.out (by kernel_rfl)) ?_
  try go_wp2
  go_loopg [13] k (fun kq v13 w' => ∃ (x2_1 : List Int) (x3_1 : List Int) (x13_1 : Int) (x167002_1 : List (S75)) (u167002 : Value), v13 = .int .i64 x13_1 ∧ Aside0 (impl_CountSystem.l0 kq x2_1 x3_1 x13_1 11 2 x167002_1 = some (r1, r2, r3)) ∧ Aside0 (kq ≤ k) ∧ Aside0 (Kd.R (Kd.int .i64) 3 w' w.heap.size (fun k_ => some k_ ≠ (v171 : Value).ownBlock) v168 x2_1) ∧ Aside0 (Kd.R (Kd.int .i64) 3 w' w.heap.size (fun k_ => some k_ ≠ (v168 : Value).ownBlock) v171 x3_1) ∧ Aside0 (Kd.S k75 75 w' w.heap.size (fun k_ => some k_ ≠ (v168 : Value).ownBlock ∧ some k_ ≠ (v171 : Value).ownBlock) u167002 x167002_1) ∧ Aside0 (w'.heap[gb165]? = some (.cells #[.int .i64 0, .int .i64 0, (.slice none 0 0)] 43 (0, 0))) ∧ Aside0 (w'.heap[gb166]? = some (.cells #[.int .i64 11, .int .i64 2, u167002] 43 (0, 0))) ∧ Aside0 (Below w.heap.size w w'))
  case atStart => exact ⟨(y167), (y170), (0), (([] : List (S75))), (.slice none 0 0), rS, H', ⟨Nat.le_refl _⟩, ⟨rP HO169⟩, ⟨rP HO172⟩, ⟨by first | exact Kd.S_nil _ _ _ _ _ | exact Kd.N_nil _ _ _ _ _ | exact Kd.V_nil _ _ _ _ _ | exact Kd.Q_nil _ _ _ _ _ | exact Kd.R_nil _ _ _ _ _⟩, ⟨bP BK165⟩, ⟨bP BK166⟩, ⟨bZ HB⟩⟩
  case round =>
   clear H'
   try clear c1
   try clear c1b0
   try clear c1b1
   try clear p2
   try clear c3
   try clear c4
   try clear hcz5_0
   try clear hcz5_1
   try clear hcz5_2
   try clear hfz5_0
   try clear hfz5_1
   try clear hfz5_2
   obtain ⟨x2_1, x3_1, x13_1, x167002_1, u167002, rfl, HA, HK1, HO_2, HO_3, HO_167002, BK165, BK166, HB⟩ := hrel
   cases gk with
   | zero => exact absurd HA.out (by simp [impl_CountSystem.l0])
   | succ k1 =>
    have H := HA.out
    clear HA
    simp only [impl_CountSystem.l0] at H
    by_cases c13 : x13_1 < 8
    ·rw [if_pos c13] at H
     have c13b0 : decide (x13_1 < 8) = true := decide_eq_true c13
     clear c13
     obtain ⟨ji14, hji14⟩ : ∃ j_ : Int, (IntKind.u64.wrap (x13_1)) = j_ := ⟨_, rfl⟩
     replace H : (if 0 ≤ (ji14) then (if 0 ≤ (wrap64 (3 + x13_1)) then (if (wrap64 (3 + x13_1)) < (x2_1.length : Int) then (if (wrap64 (3 + x13_1)) < (x3_1.length : Int) then ((impl_unit.f 11 (wrap64 (3 + x13_1))).bind fun t175 => ((impl_unit.f 11 (wrap64 (3 + x13_1))).bind fun t178 => ((impl_unit.f 11 (wrap64 (3 + x13_1))).bind fun t181 => (if x167002_1.length < 1954687338268 then (impl_CountSystem.l0 k1 (x2_1.set ((wrap64 (3 + x13_1)) : Int).toNat (shl .i64 1 (ji14))) (x3_1.set ((wrap64 (3 + x13_1)) : Int).toNat 1) (wrap64 (x13_1 + 1)) 11 2 (x167002_1 ++ [(⟨t175, t178, t181⟩ : S75)])) else (none))))) else (none)) else (none)) else (none)) else (none)) = some (r1, r2, r3) := by first | (rw [hji14] at H; exact H) | (simp only [hji14] at H ⊢; exact H)
     by_cases c15 : 0 ≤ (ji14)
     ·rw [if_pos c15] at H
      have c15b0 := eq_true c15
      have c15b1 : decide (0 ≤ (ji14)) = true := decide_eq_true c15
      clear c15
      obtain ⟨ji16, hji16⟩ : ∃ j_ : Int, (shl .i64 1 (ji14)) = j_ := ⟨_, rfl⟩
      replace H : (if 0 ≤ (wrap64 (3 + x13_1)) then (if (wrap64 (3 + x13_1)) < (x2_1.length : Int) then (if (wrap64 (3 + x13_1)) < (x3_1.length : Int) then ((impl_unit.f 11 (wrap64 (3 + x13_1))).bind fun t175 => ((impl_unit.f 11 (wrap64 (3 + x13_1))).bind fun t178 => ((impl_unit.f 11 (wrap64 (3 + x13_1))).bind fun t181 => (if x167002_1.length < 1954687338268 then (impl_CountSystem.l0 k1 (x2_1.set ((wrap64 (3 + x13_1)) : Int).toNat (ji16)) (x3_1.set ((wrap64 (3 + x13_1)) : Int).toNat 1) (wrap64 (x13_1 + 1)) 11 2 (x167002_1 ++ [(⟨t175, t178, t181⟩ : S75)])) else (none))))) else (none)) else (none)) else (none)) = some (r1, r2, r3) := by first | (rw [hji16] at H; exact H) | (simp only [hji16] at H ⊢; exact H)
      have hji16_ : (IntKind.i64.wrap (1 * 2 ^ min (ji14).toNat 64)) = ji16 := hji16
      have hji16z : (ji14) ≤ 64 → (IntKind.i64.wrap (1 * 2 ^ (ji14).toNat)) = ji16 := shl_small hji16
      have hji16u : (IntKind.i64.wrap (2 ^ min (ji14).toNat 64)) = ji16 := by have h_ := hji16_; rw [Int.one_mul] at h_; exact h_
      have hji16v : (ji14) ≤ 64 → (IntKind.i64.wrap (2 ^ (ji14).toNat)) = ji16 := fun hle_ => by have h_ := hji16z hle_; rw [Int.one_mul] at h_; exact h_
      have hji16y : (wrap64 (1 * 2 ^ min (ji14).toNat 64)) = ji16 := (i64_w _).symm.trans hji16_
      have hji16x : (ji14) ≤ 64 → (wrap64 (1 * 2 ^ (ji14).toNat)) = ji16 := fun h_ => (i64_w _).symm.trans (hji16z h_)
      obtain ⟨ji17, hji17⟩ : ∃ j_ : Int, (wrap64 (3 + x13_1)) = j_ := ⟨_, rfl⟩
      replace H : (if 0 ≤ (ji17) then (if (ji17) < (x2_1.length : Int) then (if (ji17) < (x3_1.length : Int) then ((impl_unit.f 11 (ji17)).bind fun t175 => ((impl_unit.f 11 (ji17)).bind fun t178 => ((impl_unit.f 11 (ji17)).bind fun t181 => (if x167002_1.length < 1954687338268 then (impl_CountSystem.l0 k1 (x2_1.set ((ji17) : Int).toNat (ji16)) (x3_1.set ((ji17) : Int).toNat 1) (wrap64 (x13_1 + 1)) 11 2 (x167002_1 ++ [(⟨t175, t178, t181⟩ : S75)])) else (none))))) else (none)) else (none)) else (none)) = some (r1, r2, r3) := by first | (rw [hji17] at H; exact H) | (simp only [hji17] at H ⊢; exact H)
      have hji17w : (IntKind.i64.wrap (3 + x13_1)) = ji17 := (i64_w _).trans hji17
      by_cases c18 : 0 ≤ (ji17)
      ·rw [if_pos c18] at H
       have c18b0 : decide (0 ≤ (ji17)) = true := decide_eq_true c18
       clear c18
       by_cases c19 : (ji17) < (x2_1.length : Int)
       ·rw [if_pos c19] at H
        have c19b0 : decide ((ji17) < (x2_1.length : Int)) = true := decide_eq_true c19
        clear c19
        obtain ⟨y173, hy173⟩ : ∃ y_ : List Int, y_ = (x2_1.set ((ji17) : Int).toNat (ji16)) := ⟨_, rfl⟩
        replace H : (if (ji17) < (x3_1.length : Int) then ((impl_unit.f 11 (ji17)).bind fun t175 => ((impl_unit.f 11 (ji17)).bind fun t178 => ((impl_unit.f 11 (ji17)).bind fun t181 => (if x167002_1.length < 1954687338268 then (impl_CountSystem.l0 k1 y173 (x3_1.set ((ji17) : Int).toNat 1) (wrap64 (x13_1 + 1)) 11 2 (x167002_1 ++ [(⟨t175, t178, t181⟩ : S75)])) else (none))))) else (none)) = some (r1, r2, r3) := by first | (rw [hy173]; with_reducible exact H) | (have H2_ := (Option.bind_some _ _).symm.trans H; rw [hy173]; with_reducible exact H2_) | (have H2_ := (Option.bind_some _ _).symm.trans H; with_reducible exact H2_) | with_reducible exact H | (rw [hy173]; exact H) | exact H
        have Ny173 := Aside0.mk hy173
        clear hy173
        by_cases c21 : (ji17) < (x3_1.length : Int)
        ·rw [if_pos c21] at H
         have c21b0 : decide ((ji17) < (x3_1.length : Int)) = true := decide_eq_true c21
         clear c21
         obtain ⟨y174, hy174⟩ : ∃ y_ : List Int, y_ = (x3_1.set ((ji17) : Int).toNat 1) := ⟨_, rfl⟩
         replace H : ((impl_unit.f 11 (ji17)).bind fun t175 => ((impl_unit.f 11 (ji17)).bind fun t178 => ((impl_unit.f 11 (ji17)).bind fun t181 => (if x167002_1.length < 1954687338268 then (impl_CountSystem.l0 k1 y173 y174 (wrap64 (x13_1 + 1)) 11 2 (x167002_1 ++ [(⟨t175, t178, t181⟩ : S75)])) else (none))))) = some (r1, r2, r3) := by first | (rw [hy174]; with_reducible exact H) | (have H2_ := (Option.bind_some _ _).symm.trans H; rw [hy174]; with_reducible exact H2_) | (have H2_ := (Option.bind_some _ _).symm.trans H; with_reducible exact H2_) | with_reducible exact H | (rw [hy174]; exact H) | exact H
         have Ny174 := Aside0.mk hy174
         clear hy174
         replace H := Option.bind_eq_some_iff.mp H
         obtain ⟨t175, A230, H⟩ := H
         have A23 := Aside0.mk A230
         clear A230
         replace H := Option.bind_eq_some_iff.mp H
         obtain ⟨t178, A240, H⟩ := H
         have A24 := Aside0.mk A240
         clear A240
         have et178_ : t175 = t178 := Option.some.inj (A23.out.symm.trans A24.out)
         subst et178_
         replace H := Option.bind_eq_some_iff.mp H
         obtain ⟨t181, A250, H⟩ := H
         have A25 := Aside0.mk A250
         clear A250
         have et181_ : t175 = t181 := Option.some.inj (A23.out.symm.trans A25.out)
         subst et181_
         by_cases c26 : x167002_1.length < 1954687338268
         ·rw [if_pos c26] at H
          have LMc26 := Aside0.mk c26
          clear c26
          obtain ⟨y184, hy184⟩ : ∃ y_ : List (S75), y_ = (x167002_1 ++ [(⟨t175, t175, t175⟩ : S75)]) := ⟨_, rfl⟩
          replace H : (impl_CountSystem.l0 k1 y173 y174 (wrap64 (x13_1 + 1)) 11 2 y184) = some (r1, r2, r3) := by first | (rw [hy184]; with_reducible exact H) | (have H2_ := (Option.bind_some _ _).symm.trans H; rw [hy184]; with_reducible exact H2_) | (have H2_ := (Option.bind_some _ _).symm.trans H; with_reducible exact H2_) | with_reducible exact H | (rw [hy184]; exact H) | exact H
          have Ny184 := Aside0.mk hy184
          clear hy184
          have H' := Aside0.mk H
          clear H
          have p20 : 0 ≤ ((ji17) : Int) := of_decide_eq_true (by first | (with_reducible assumption) | assumption)
          have q20 : ((ji17) : Int) < ((x2_1.length : Int) : Int) := of_decide_eq_true (by first | (with_reducible assumption) | assumption)
          obtain ⟨go20, co20, eo20, gb20, gl20, cl20, HG20⟩ := Kd.R_form HO_2.out (by omega)
          (first | cases eo20 | (injection eo20 with ea_ en_ ec_; (first | subst ea_ | (injection ea_ with ea_; subst ea_)); subst ec_; clear en_))
          have GB20 := Aside0.mk gb20
          have GG20 := Aside0.mk HG20
          clear gb20 gl20 HG20
          obtain ⟨hx20_0, hf20_0⟩ := Kd.R_celln 0 HO_2.out ((ji17) : Int) p20 q20
          replace p20 := eq_true p20
          replace q20 := eq_true q20
          have HP27 := Kd.R_putg HO_2.out ((ji17) : Int) ji16
          try go_wp2_with (first | ((with_reducible refine gate_store (t := 3) (p := 23) rfl ?_); refine store_event (t := 3) (p := 23) (v := ?vo_w28) (w1 := (wr.setCell ⟨go20, ((ji17) : Int).toNat, none⟩ (.int .i64 ji16))) ?hg ?ho ?hn ?hr ?_; (case ho => rfl); (case hg => rfl); (case hn => rfl); (case hr => first | (go_simp; done) | (go_simp; rfl)); intro w28 hw; have hg : wr.grownBy w28 (some go20) := (by rw [hw]; exact HP27.2); have hp_ : Kd.R (Kd.int .i64) 3 w28 w.heap.size (fun k_ => some k_ ≠ (v171 : Value).ownBlock) (.slice (some ⟨go20, 0, none⟩) x2_1.length co20) y173 := (by rw [hw, Ny173.out]; exact HP27.1); clear HP27; replace HO_3 := Aside0.mk (Kd.R_after (v := (.slice (some ⟨go20, 0, none⟩) x2_1.length co20)) (v1 := (.slice (some ⟨go20, 0, none⟩) x2_1.length co20)) (ok := (fun _ => True)) (by (with_reducible repeat (first | apply Kd.R_alloc | apply Kd.R_drewN | apply Kd.R_drew)); exact Kd.R_mono HO_3.out (fun _ hk => ⟨trivial, hk⟩)) hg (.inl rfl)); replace HO_167002 := Aside0.mk (Kd.S_after (v := (.slice (some ⟨go20, 0, none⟩) x2_1.length co20)) (v1 := (.slice (some ⟨go20, 0, none⟩) x2_1.length co20)) (ok := (fun k_ => some k_ ≠ (v171 : Value).ownBlock)) (by (with_reducible repeat (first | apply Kd.S_alloc | apply Kd.S_drewN | apply Kd.S_drew)); exact Kd.S_mono HO_167002.out (fun _ hk => ⟨hk.2, hk.1⟩)) hg (.inl rfl)); replace BK165 := Aside0.mk (blk_grown (bP BK165) hg (Kd.R_ne HO_2.out BK165.out (by decide))); replace BK166 := Aside0.mk (blk_grown (bP BK166) hg (Kd.R_ne HO_2.out BK166.out (by decide))); replace HO_2 := Aside0.mk (hp_); replace HB := Aside0.mk ((by rw [hw]; exact below_set (HB.out) GB20.out : Below w.heap.size w w28)); clear hg hw hp_; have p22 : 0 ≤ ((ji17) : Int) := of_decide_eq_true (by first | (with_reducible assumption) | assumption); have q22 : ((ji17) : Int) < ((x3_1.length : Int) : Int) := of_decide_eq_true (by first | (with_reducible assumption) | assumption); obtain ⟨go22, co22, eo22, gb22, gl22, cl22, HG22⟩ := Kd.R_form HO_3.out (by omega); (first | cases eo22 | (injection eo22 with ea_ en_ ec_; (first | subst ea_ | (injection ea_ with ea_; subst ea_)); subst ec_; clear en_)); have GB22 := Aside0.mk gb22; have GG22 := Aside0.mk HG22; clear gb22 gl22 HG22; obtain ⟨hx22_0, hf22_0⟩ := Kd.R_celln 0 HO_3.out ((ji17) : Int) p22 q22; replace p22 := eq_true p22; replace q22 := eq_true q22; have n_ := Aside0.mk (Kd.R_mono (ok' := (fun k_ => some k_ ≠ (.slice (some ⟨go20, 0, none⟩) x2_1.length co20 : Value).ownBlock)) HO_3.out (fun k_ hk => hk.2)); clear HO_3; have HO_3 := n_; clear n_; obtain ⟨hy29_, hz29_⟩ := Kd.R_celln 0 HO_3.out ((ji17) : Int) (of_decide_eq_true (by first | (with_reducible assumption) | assumption)) (of_decide_eq_true (by first | (with_reducible assumption) | assumption)); have HP29 := Kd.R_putg HO_3.out ((ji17) : Int) 1) | ((with_reducible refine gate_store (t := 3) (p := 26) rfl ?_); refine store_event (t := 3) (p := 26) (v := ?vo_w30) (w1 := (w28.setCell ⟨go22, ((ji17) : Int).toNat, none⟩ (.int .i64 1))) ?hg ?ho ?hn ?hr ?_; (case ho => rfl); (case hg => rfl); (case hn => rfl); (case hr => first | (go_simp; done) | (go_simp; rfl)); intro w30 hw; have hg : w28.grownBy w30 (some go22) := (by rw [hw]; exact HP29.2); have hp_ : Kd.R (Kd.int .i64) 3 w30 w.heap.size (fun k_ => some k_ ≠ (.slice (some ⟨go20, 0, none⟩) x2_1.length co20 : Value).ownBlock) (.slice (some ⟨go22, 0, none⟩) x3_1.length co22) y174 := (by rw [hw, Ny174.out]; exact HP29.1); clear HP29; replace HO_2 := Aside0.mk (Kd.R_after (v := (.slice (some ⟨go22, 0, none⟩) x3_1.length co22)) (v1 := (.slice (some ⟨go22, 0, none⟩) x3_1.length co22)) (ok := (fun _ => True)) (by (with_reducible repeat (first | apply Kd.R_alloc | apply Kd.R_drewN | apply Kd.R_drew)); exact Kd.R_mono HO_2.out (fun _ hk => ⟨trivial, hk⟩)) hg (.inl rfl)); replace HO_167002 := Aside0.mk (Kd.S_after (v := (.slice (some ⟨go22, 0, none⟩) x3_1.length co22)) (v1 := (.slice (some ⟨go22, 0, none⟩) x3_1.length co22)) (ok := (fun k_ => some k_ ≠ (.slice (some ⟨go20, 0, none⟩) x2_1.length co20 : Value).ownBlock)) (by (with_reducible repeat (first | apply Kd.S_alloc | apply Kd.S_drewN | apply Kd.S_drew)); exact Kd.S_mono HO_167002.out (fun _ hk => ⟨hk.2, hk.1⟩)) hg (.inl rfl)); replace BK165 := Aside0.mk (blk_grown (bP BK165) hg (Kd.R_ne HO_3.out BK165.out (by decide))); replace BK166 := Aside0.mk (blk_grown (bP BK166) hg (Kd.R_ne HO_3.out BK166.out (by decide))); replace HO_3 := Aside0.mk (hp_); replace HB := Aside0.mk ((by rw [hw]; exact below_set (HB.out) GB22.out : Below w.heap.size w w30)); clear hg hw hp_))
          replace HO_2 := Aside0.mk (Kd.R_drew HO_2.out)
          replace HO_3 := Aside0.mk (Kd.R_drew HO_3.out)
          replace HO_167002 := Aside0.mk (Kd.S_drew HO_167002.out)
          replace BK165 := Aside0.mk (blk_drew BK165.out)
          replace BK166 := Aside0.mk (blk_drew BK166.out)
          replace HB := Aside0.mk (below_drew1 HB.out)
          refine start_ (n := 19) (S := fun w' => SQ3 w' gb166 (.int .i64 11) (.int .i64 2) (u167002)) (ds := [18]) #[false, false, false, false, false, false, false, false, false, false, false, false, false, false, false, false, false, false, false] (by kernel_rfl) rfl rfl (bT3 BK166) (fun hHeld => ?_); refine with_tabW impl_CountSystem.tab9 impl_CountSystem.bits9 (fun HT_ HW_ => ?_)
          generalize w30.drew = w31 at HO_2 HO_3 HO_167002 BK165 BK166 HB hHeld ⊢
          refine pI 0 (some 27) HT_.out ?_
          refine pI 2 (some 29) HT_.out ?_
          refine pI 4 (some 31) HT_.out ?_
          refine pI 6 (some 33) HT_.out ?_
          refine pI 8 (some 35) HT_.out ?_
          refine pI 10 (some 37) HT_.out ?_
          refine pI 12 (some 39) HT_.out ?_
          refine tI3 1 (some 28) HT_.out HW_.out hHeld ?_
          refine tI3 3 (some 30) HT_.out HW_.out hHeld ?_
          refine tI3 7 (some 34) HT_.out HW_.out hHeld ?_
          refine tI3 11 (some 38) HT_.out HW_.out hHeld ?_
          refine oI 5 (some 32) HT_.out (fun K hK => ?_)
          refine goes_ Try.func67 (by kernel_rfl) rfl #[.int .i64 11, .int .i64 ji17] (by rfl) rfl rfl (by (try simp only [List.map_toArray, List.map_cons, List.map_nil]); first | done | (simp only [hji17]; rfl) | rfl | (simp only [List.length_drop, List.length_take]; rfl)) ?_
          with_reducible refine (impl_unit.calls 11 ji17 t175 _ A23.out).mono ?_
          rintro e w32 ⟨v176, rfl, ho0, hb⟩
          refine ⟨_, rfl, ?_⟩
          replace HO_167002 := Aside0.mk (Kd.S_elder' (by (with_reducible repeat (first | apply Kd.S_alloc | apply Kd.S_drewN | apply Kd.S_drew)); exact HO_167002.out) (Kd.R_base ho0) hb)
          have HO177 := Aside0.mk (Kd.R_lower (Kd.R_new' (Kd.R_new' ho0 (Kd.R_lt (rP HO_2))) (Kd.R_lt (rP HO_3))) (below_size (bZ HB)))
          replace HO_2 := Aside0.mk (Kd.R_elder' (rP HO_2) (Kd.R_base ho0) hb)
          replace HO_3 := Aside0.mk (Kd.R_elder' (rP HO_3) (Kd.R_base ho0) hb)
          replace BK165 := bB BK165 hb
          replace BK166 := bB BK166 hb
          replace HB := bS HB hb
          (try clear hb)
          (try clear ho0)
          refine hK.out _ _ (bT3 BK166) (fun hHeld => ?_)
          clear hK K
          refine nO (some 32) ?_
          refine oI 9 (some 36) HT_.out (fun K hK => ?_)
          refine goes_ Try.func67 (by kernel_rfl) rfl #[.int .i64 11, .int .i64 ji17] (by rfl) rfl rfl (by (try simp only [List.map_toArray, List.map_cons, List.map_nil]); first | done | (simp only [hji17]; rfl) | rfl | (simp only [List.length_drop, List.length_take]; rfl)) ?_
          with_reducible refine (impl_unit.calls 11 ji17 t175 _ A24.out).mono ?_
          rintro e w33 ⟨v179, rfl, ho0, hb⟩
          refine ⟨_, rfl, ?_⟩
          replace HO_167002 := Aside0.mk (Kd.S_elder' (by (with_reducible repeat (first | apply Kd.S_alloc | apply Kd.S_drewN | apply Kd.S_drew)); exact HO_167002.out) (Kd.R_base ho0) hb)
          have HO180 := Aside0.mk (Kd.R_lower (Kd.R_new' (Kd.R_new' (Kd.R_new' ho0 (Kd.R_lt (rP HO_2))) (Kd.R_lt (rP HO_3))) (Kd.R_lt (rP HO177))) (below_size (bZ HB)))
          replace HO_2 := Aside0.mk (Kd.R_elder' (rP HO_2) (Kd.R_base ho0) hb)
          replace HO_3 := Aside0.mk (Kd.R_elder' (rP HO_3) (Kd.R_base ho0) hb)
          replace HO177 := Aside0.mk (Kd.R_elder' (rP HO177) (Kd.R_base ho0) hb)
          replace BK165 := bB BK165 hb
          replace BK166 := bB BK166 hb
          replace HB := bS HB hb
          (try clear hb)
          (try clear ho0)
          refine hK.out _ _ (bT3 BK166) (fun hHeld => ?_)
          clear hK K
          refine nO (some 36) ?_
          refine oI 13 (some 40) HT_.out (fun K hK => ?_)
          refine goes_ Try.func67 (by kernel_rfl) rfl #[.int .i64 11, .int .i64 ji17] (by rfl) rfl rfl (by (try simp only [List.map_toArray, List.map_cons, List.map_nil]); first | done | (simp only [hji17]; rfl) | rfl | (simp only [List.length_drop, List.length_take]; rfl)) ?_
          with_reducible refine (impl_unit.calls 11 ji17 t175 _ A25.out).mono ?_
          rintro e w34 ⟨v182, rfl, ho0, hb⟩
          refine ⟨_, rfl, ?_⟩
          replace HO_167002 := Aside0.mk (Kd.S_elder' (by (with_reducible repeat (first | apply Kd.S_alloc | apply Kd.S_drewN | apply Kd.S_drew)); exact HO_167002.out) (Kd.R_base ho0) hb)
          have HO183 := Aside0.mk (Kd.R_lower (Kd.R_new' (Kd.R_new' (Kd.R_new' (Kd.R_new' ho0 (Kd.R_lt (rP HO_2))) (Kd.R_lt (rP HO_3))) (Kd.R_lt (rP HO177))) (Kd.R_lt (rP HO180))) (below_size (bZ HB)))
          replace HO_2 := Aside0.mk (Kd.R_elder' (rP HO_2) (Kd.R_base ho0) hb)
          replace HO_3 := Aside0.mk (Kd.R_elder' (rP HO_3) (Kd.R_base ho0) hb)
          replace HO177 := Aside0.mk (Kd.R_elder' (rP HO177) (Kd.R_base ho0) hb)
          replace HO180 := Aside0.mk (Kd.R_elder' (rP HO180) (Kd.R_base ho0) hb)
          replace BK165 := bB BK165 hb
          replace BK166 := bB BK166 hb
          replace HB := bS HB hb
          (try clear hb)
          (try clear ho0)
          obtain ⟨Ao35, co35, eo35⟩ := Kd.R_slice HO183.out
          (first | subst eo35 | (injection eo35 with f1_ f2_ f3_; have f4_ := f1_.symm; have f5_ := f3_.symm; clear f1_ f2_ f3_; subst f4_; subst f5_))
          obtain ⟨Ao36, co36, eo36⟩ := Kd.R_slice HO180.out
          (first | subst eo36 | (injection eo36 with f1_ f2_ f3_; have f4_ := f1_.symm; have f5_ := f3_.symm; clear f1_ f2_ f3_; subst f4_; subst f5_))
          obtain ⟨Ao37, co37, eo37⟩ := Kd.R_slice HO177.out
          (first | subst eo37 | (injection eo37 with f1_ f2_ f3_; have f4_ := f1_.symm; have f5_ := f3_.symm; clear f1_ f2_ f3_; subst f4_; subst f5_))
          refine hK.out _ _ (bT3 BK166) (fun hHeld => ?_)
          clear hK K
          refine nO (some 40) ?_
          refine pI 14 (some 41) HT_.out ?_
          refine oI 15 (some 42) HT_.out (fun K hK => ?_)
          refine value_ (w1 := ?_) (v := ?_) (by rfl) rfl ?_ ?_
          rotate_left 2
          ·go_simp
           constructor
           ·rfl
           ·rfl
          refine hK.out _ _ ⟨(blk_cell (blk_alloc BK166.out _) 0).trans rfl, (blk_cell (blk_alloc BK166.out _) 1).trans rfl, (blk_cell (blk_alloc BK166.out _) 2).trans rfl⟩ (fun hHeld => ?_)
          clear hK K
          refine nO (some 42) ?_
          refine oI 16 (some 43) HT_.out (fun K hK => ?_)
          refine Kd.S_append_step k75 (w0 := w) w.heap.size (by rfl) (.tmp 28) (.tmp 42) 41 75 (.agg #[(.slice none 0 0), (.slice none 0 0), (.slice none 0 0)]) 72 rfl Try.underlying41 info75 rfl (by decide) (by omega) u167002 x167002_1 (⟨t175, t175, t175⟩ : S75) [.slice Ao37 t175.length co37, .slice Ao36 t175.length co36, .slice Ao35 t175.length co35] (fun k_ => some k_ ≠ (.slice (some ⟨go20, 0, none⟩) x2_1.length co20 : Value).ownBlock ∧ some k_ ≠ (.slice (some ⟨go22, 0, none⟩) x3_1.length co22 : Value).ownBlock) (fun k_ => some k_ = (.slice Ao37 t175.length co37 : Value).ownBlock ∨ some k_ = (.slice Ao36 t175.length co36 : Value).ownBlock ∨ some k_ = (.slice Ao35 t175.length co35 : Value).ownBlock) rfl rfl ?aP (fun k_ hk_ => hk_.elim (fun h_ => ((Kd.R_mono (ok' := fun k_ => ((fun k_ => some k_ ≠ (.slice (some ⟨go20, 0, none⟩) x2_1.length co20 : Value).ownBlock ∧ some k_ ≠ (.slice (some ⟨go22, 0, none⟩) x3_1.length co22 : Value).ownBlock)) k_ ∧ some k_ ≠ (u167002 : Value).ownBlock) (Kd.R_apart' (HO177.out) (Kd.S_typed HO_167002.out) (by decide)) (fun k_ hk => ⟨⟨hk.1.1.1.1.2, hk.1.1.1.2⟩, hk.2⟩))).1 k_ h_.symm) (fun h_ => h_.elim (fun h_ => ((Kd.R_mono (ok' := fun k_ => ((fun k_ => some k_ ≠ (.slice (some ⟨go20, 0, none⟩) x2_1.length co20 : Value).ownBlock ∧ some k_ ≠ (.slice (some ⟨go22, 0, none⟩) x3_1.length co22 : Value).ownBlock)) k_ ∧ some k_ ≠ (u167002 : Value).ownBlock) (Kd.R_apart' (HO180.out) (Kd.S_typed HO_167002.out) (by decide)) (fun k_ hk => ⟨⟨hk.1.1.1.1.2, hk.1.1.1.2⟩, hk.2⟩))).1 k_ h_.symm) (fun h_ => ((Kd.R_mono (ok' := fun k_ => ((fun k_ => some k_ ≠ (.slice (some ⟨go20, 0, none⟩) x2_1.length co20 : Value).ownBlock ∧ some k_ ≠ (.slice (some ⟨go22, 0, none⟩) x3_1.length co22 : Value).ownBlock)) k_ ∧ some k_ ≠ (u167002 : Value).ownBlock) (Kd.R_apart' (HO183.out) (Kd.S_typed HO_167002.out) (by decide)) (fun k_ hk => ⟨⟨hk.1.1.1.1.2, hk.1.1.1.2⟩, hk.2⟩))).1 k_ h_.symm))) ?aF ?aO ?aB ?aS ?aL ?_
          (case aP => exact k75_mkM _ _ _ (⟨t175, t175, t175⟩ : S75) (Kd.R_mono (Kd.R_tight rfl (Kd.R_mono (ok' := fun k_ => ((fun k_ => some k_ ≠ (.slice (some ⟨go20, 0, none⟩) x2_1.length co20 : Value).ownBlock ∧ some k_ ≠ (.slice (some ⟨go22, 0, none⟩) x3_1.length co22 : Value).ownBlock)) k_ ∧ some k_ ≠ (u167002 : Value).ownBlock) (Kd.R_apart' (HO177.out) (Kd.S_typed HO_167002.out) (by decide)) (fun k_ hk => ⟨⟨hk.1.1.1.1.2, hk.1.1.1.2⟩, hk.2⟩))) (fun _ h_ => Or.inl h_)) (Kd.R_mono (Kd.R_tight rfl (Kd.R_mono (ok' := fun k_ => ((fun k_ => some k_ ≠ (.slice (some ⟨go20, 0, none⟩) x2_1.length co20 : Value).ownBlock ∧ some k_ ≠ (.slice (some ⟨go22, 0, none⟩) x3_1.length co22 : Value).ownBlock)) k_ ∧ some k_ ≠ (u167002 : Value).ownBlock) (Kd.R_apart' (HO180.out) (Kd.S_typed HO_167002.out) (by decide)) (fun k_ hk => ⟨⟨hk.1.1.1.1.2, hk.1.1.1.2⟩, hk.2⟩))) (fun _ h_ => Or.inr (Or.inl h_))) (Kd.R_mono (Kd.R_tight rfl (Kd.R_mono (ok' := fun k_ => ((fun k_ => some k_ ≠ (.slice (some ⟨go20, 0, none⟩) x2_1.length co20 : Value).ownBlock ∧ some k_ ≠ (.slice (some ⟨go22, 0, none⟩) x3_1.length co22 : Value).ownBlock)) k_ ∧ some k_ ≠ (u167002 : Value).ownBlock) (Kd.R_apart' (HO183.out) (Kd.S_typed HO_167002.out) (by decide)) (fun k_ hk => ⟨⟨hk.1.1.1.1.2, hk.1.1.1.2⟩, hk.2⟩))) (fun _ h_ => Or.inr (Or.inr (h_)))) (fun k_ e_ e2_ => by first | (have h_ := HO177.out.1 k_ e_; first | exact h_ e2_.symm | exact h_.1 e2_.symm | exact h_.2 e2_.symm | exact h_.1.1 e2_.symm | exact h_.2.1 e2_.symm | exact h_.1.2 e2_.symm | exact h_.2.2 e2_.symm | exact h_.1.1.1 e2_.symm | exact h_.2.1.1 e2_.symm | exact h_.1.2.1 e2_.symm | exact h_.2.2.1 e2_.symm | exact h_.1.1.2 e2_.symm | exact h_.2.1.2 e2_.symm | exact h_.1.2.2 e2_.symm | exact h_.2.2.2 e2_.symm | exact h_.1.1.1.1 e2_.symm | exact h_.2.1.1.1 e2_.symm | exact h_.1.2.1.1 e2_.symm | exact h_.2.2.1.1 e2_.symm | exact h_.1.1.2.1 e2_.symm | exact h_.2.1.2.1 e2_.symm | exact h_.1.2.2.1 e2_.symm | exact h_.2.2.2.1 e2_.symm | exact h_.1.1.1.2 e2_.symm | exact h_.2.1.1.2 e2_.symm | exact h_.1.2.1.2 e2_.symm | exact h_.2.2.1.2 e2_.symm | exact h_.1.1.2.2 e2_.symm | exact h_.2.1.2.2 e2_.symm | exact h_.1.2.2.2 e2_.symm | exact h_.2.2.2.2 e2_.symm | exact h_.1.1.1.1.1 e2_.symm | exact h_.2.1.1.1.1 e2_.symm | exact h_.1.2.1.1.1 e2_.symm | exact h_.2.2.1.1.1 e2_.symm | exact h_.1.1.2.1.1 e2_.symm | exact h_.2.1.2.1.1 e2_.symm | exact h_.1.2.2.1.1 e2_.symm | exact h_.2.2.2.1.1 e2_.symm | exact h_.1.1.1.2.1 e2_.symm | exact h_.2.1.1.2.1 e2_.symm | exact h_.1.2.1.2.1 e2_.symm | exact h_.2.2.1.2.1 e2_.symm | exact h_.1.1.2.2.1 e2_.symm | exact h_.2.1.2.2.1 e2_.symm | exact h_.1.2.2.2.1 e2_.symm | exact h_.2.2.2.2.1 e2_.symm | exact h_.1.1.1.1.2 e2_.symm | exact h_.2.1.1.1.2 e2_.symm | exact h_.1.2.1.1.2 e2_.symm | exact h_.2.2.1.1.2 e2_.symm | exact h_.1.1.2.1.2 e2_.symm | exact h_.2.1.2.1.2 e2_.symm | exact h_.1.2.2.1.2 e2_.symm | exact h_.2.2.2.1.2 e2_.symm | exact h_.1.1.1.2.2 e2_.symm | exact h_.2.1.1.2.2 e2_.symm | exact h_.1.2.1.2.2 e2_.symm | exact h_.2.2.1.2.2 e2_.symm | exact h_.1.1.2.2.2 e2_.symm | exact h_.2.1.2.2.2 e2_.symm | exact h_.1.2.2.2.2 e2_.symm | exact h_.2.2.2.2.2 e2_.symm | exact h_.1.1.1.1.1.1 e2_.symm | exact h_.2.1.1.1.1.1 e2_.symm | exact h_.1.2.1.1.1.1 e2_.symm | exact h_.2.2.1.1.1.1 e2_.symm | exact h_.1.1.2.1.1.1 e2_.symm | exact h_.2.1.2.1.1.1 e2_.symm | exact h_.1.2.2.1.1.1 e2_.symm | exact h_.2.2.2.1.1.1 e2_.symm | exact h_.1.1.1.2.1.1 e2_.symm | exact h_.2.1.1.2.1.1 e2_.symm | exact h_.1.2.1.2.1.1 e2_.symm | exact h_.2.2.1.2.1.1 e2_.symm | exact h_.1.1.2.2.1.1 e2_.symm | exact h_.2.1.2.2.1.1 e2_.symm | exact h_.1.2.2.2.1.1 e2_.symm | exact h_.2.2.2.2.1.1 e2_.symm | exact h_.1.1.1.1.2.1 e2_.symm | exact h_.2.1.1.1.2.1 e2_.symm | exact h_.1.2.1.1.2.1 e2_.symm | exact h_.2.2.1.1.2.1 e2_.symm | exact h_.1.1.2.1.2.1 e2_.symm | exact h_.2.1.2.1.2.1 e2_.symm | exact h_.1.2.2.1.2.1 e2_.symm | exact h_.2.2.2.1.2.1 e2_.symm | exact h_.1.1.1.2.2.1 e2_.symm | exact h_.2.1.1.2.2.1 e2_.symm | exact h_.1.2.1.2.2.1 e2_.symm | exact h_.2.2.1.2.2.1 e2_.symm | exact h_.1.1.2.2.2.1 e2_.symm | exact h_.2.1.2.2.2.1 e2_.symm | exact h_.1.2.2.2.2.1 e2_.symm | exact h_.2.2.2.2.2.1 e2_.symm | exact h_.1.1.1.1.1.2 e2_.symm | exact h_.2.1.1.1.1.2 e2_.symm | exact h_.1.2.1.1.1.2 e2_.symm | exact h_.2.2.1.1.1.2 e2_.symm | exact h_.1.1.2.1.1.2 e2_.symm | exact h_.2.1.2.1.1.2 e2_.symm | exact h_.1.2.2.1.1.2 e2_.symm | exact h_.2.2.2.1.1.2 e2_.symm | exact h_.1.1.1.2.1.2 e2_.symm | exact h_.2.1.1.2.1.2 e2_.symm | exact h_.1.2.1.2.1.2 e2_.symm | exact h_.2.2.1.2.1.2 e2_.symm | exact h_.1.1.2.2.1.2 e2_.symm | exact h_.2.1.2.2.1.2 e2_.symm | exact h_.1.2.2.2.1.2 e2_.symm | exact h_.2.2.2.2.1.2 e2_.symm | exact h_.1.1.1.1.2.2 e2_.symm | exact h_.2.1.1.1.2.2 e2_.symm | exact h_.1.2.1.1.2.2 e2_.symm | exact h_.2.2.1.1.2.2 e2_.symm | exact h_.1.1.2.1.2.2 e2_.symm | exact h_.2.1.2.1.2.2 e2_.symm | exact h_.1.2.2.1.2.2 e2_.symm | exact h_.2.2.2.1.2.2 e2_.symm | exact h_.1.1.1.2.2.2 e2_.symm | exact h_.2.1.1.2.2.2 e2_.symm | exact h_.1.2.1.2.2.2 e2_.symm | exact h_.2.2.1.2.2.2 e2_.symm | exact h_.1.1.2.2.2.2 e2_.symm | exact h_.2.1.2.2.2.2 e2_.symm | exact h_.1.2.2.2.2.2 e2_.symm | exact h_.2.2.2.2.2.2 e2_.symm) | (have h_ := HO180.out.1 k_ e2_; first | exact h_ e_.symm | exact h_.1 e_.symm | exact h_.2 e_.symm | exact h_.1.1 e_.symm | exact h_.2.1 e_.symm | exact h_.1.2 e_.symm | exact h_.2.2 e_.symm | exact h_.1.1.1 e_.symm | exact h_.2.1.1 e_.symm | exact h_.1.2.1 e_.symm | exact h_.2.2.1 e_.symm | exact h_.1.1.2 e_.symm | exact h_.2.1.2 e_.symm | exact h_.1.2.2 e_.symm | exact h_.2.2.2 e_.symm | exact h_.1.1.1.1 e_.symm | exact h_.2.1.1.1 e_.symm | exact h_.1.2.1.1 e_.symm | exact h_.2.2.1.1 e_.symm | exact h_.1.1.2.1 e_.symm | exact h_.2.1.2.1 e_.symm | exact h_.1.2.2.1 e_.symm | exact h_.2.2.2.1 e_.symm | exact h_.1.1.1.2 e_.symm | exact h_.2.1.1.2 e_.symm | exact h_.1.2.1.2 e_.symm | exact h_.2.2.1.2 e_.symm | exact h_.1.1.2.2 e_.symm | exact h_.2.1.2.2 e_.symm | exact h_.1.2.2.2 e_.symm | exact h_.2.2.2.2 e_.symm | exact h_.1.1.1.1.1 e_.symm | exact h_.2.1.1.1.1 e_.symm | exact h_.1.2.1.1.1 e_.symm | exact h_.2.2.1.1.1 e_.symm | exact h_.1.1.2.1.1 e_.symm | exact h_.2.1.2.1.1 e_.symm | exact h_.1.2.2.1.1 e_.symm | exact h_.2.2.2.1.1 e_.symm | exact h_.1.1.1.2.1 e_.symm | exact h_.2.1.1.2.1 e_.symm | exact h_.1.2.1.2.1 e_.symm | exact h_.2.2.1.2.1 e_.symm | exact h_.1.1.2.2.1 e_.symm | exact h_.2.1.2.2.1 e_.symm | exact h_.1.2.2.2.1 e_.symm | exact h_.2.2.2.2.1 e_.symm | exact h_.1.1.1.1.2 e_.symm | exact h_.2.1.1.1.2 e_.symm | exact h_.1.2.1.1.2 e_.symm | exact h_.2.2.1.1.2 e_.symm | exact h_.1.1.2.1.2 e_.symm | exact h_.2.1.2.1.2 e_.symm | exact h_.1.2.2.1.2 e_.symm | exact h_.2.2.2.1.2 e_.symm | exact h_.1.1.1.2.2 e_.symm | exact h_.2.1.1.2.2 e_.symm | exact h_.1.2.1.2.2 e_.symm | exact h_.2.2.1.2.2 e_.symm | exact h_.1.1.2.2.2 e_.symm | exact h_.2.1.2.2.2 e_.symm | exact h_.1.2.2.2.2 e_.symm | exact h_.2.2.2.2.2 e_.symm | exact h_.1.1.1.1.1.1 e_.symm | exact h_.2.1.1.1.1.1 e_.symm | exact h_.1.2.1.1.1.1 e_.symm | exact h_.2.2.1.1.1.1 e_.symm | exact h_.1.1.2.1.1.1 e_.symm | exact h_.2.1.2.1.1.1 e_.symm | exact h_.1.2.2.1.1.1 e_.symm | exact h_.2.2.2.1.1.1 e_.symm | exact h_.1.1.1.2.1.1 e_.symm | exact h_.2.1.1.2.1.1 e_.symm | exact h_.1.2.1.2.1.1 e_.symm | exact h_.2.2.1.2.1.1 e_.symm | exact h_.1.1.2.2.1.1 e_.symm | exact h_.2.1.2.2.1.1 e_.symm | exact h_.1.2.2.2.1.1 e_.symm | exact h_.2.2.2.2.1.1 e_.symm | exact h_.1.1.1.1.2.1 e_.symm | exact h_.2.1.1.1.2.1 e_.symm | exact h_.1.2.1.1.2.1 e_.symm | exact h_.2.2.1.1.2.1 e_.symm | exact h_.1.1.2.1.2.1 e_.symm | exact h_.2.1.2.1.2.1 e_.symm | exact h_.1.2.2.1.2.1 e_.symm | exact h_.2.2.2.1.2.1 e_.symm | exact h_.1.1.1.2.2.1 e_.symm | exact h_.2.1.1.2.2.1 e_.symm | exact h_.1.2.1.2.2.1 e_.symm | exact h_.2.2.1.2.2.1 e_.symm | exact h_.1.1.2.2.2.1 e_.symm | exact h_.2.1.2.2.2.1 e_.symm | exact h_.1.2.2.2.2.1 e_.symm | exact h_.2.2.2.2.2.1 e_.symm | exact h_.1.1.1.1.1.2 e_.symm | exact h_.2.1.1.1.1.2 e_.symm | exact h_.1.2.1.1.1.2 e_.symm | exact h_.2.2.1.1.1.2 e_.symm | exact h_.1.1.2.1.1.2 e_.symm | exact h_.2.1.2.1.1.2 e_.symm | exact h_.1.2.2.1.1.2 e_.symm | exact h_.2.2.2.1.1.2 e_.symm | exact h_.1.1.1.2.1.2 e_.symm | exact h_.2.1.1.2.1.2 e_.symm | exact h_.1.2.1.2.1.2 e_.symm | exact h_.2.2.1.2.1.2 e_.symm | exact h_.1.1.2.2.1.2 e_.symm | exact h_.2.1.2.2.1.2 e_.symm | exact h_.1.2.2.2.1.2 e_.symm | exact h_.2.2.2.2.1.2 e_.symm | exact h_.1.1.1.1.2.2 e_.symm | exact h_.2.1.1.1.2.2 e_.symm | exact h_.1.2.1.1.2.2 e_.symm | exact h_.2.2.1.1.2.2 e_.symm | exact h_.1.1.2.1.2.2 e_.symm | exact h_.2.1.2.1.2.2 e_.symm | exact h_.1.2.2.1.2.2 e_.symm | exact h_.2.2.2.1.2.2 e_.symm | exact h_.1.1.1.2.2.2 e_.symm | exact h_.2.1.1.2.2.2 e_.symm | exact h_.1.2.1.2.2.2 e_.symm | exact h_.2.2.1.2.2.2 e_.symm | exact h_.1.1.2.2.2.2 e_.symm | exact h_.2.1.2.2.2.2 e_.symm | exact h_.1.2.2.2.2.2 e_.symm | exact h_.2.2.2.2.2.2 e_.symm)) (fun k_ e_ e2_ => by first | (have h_ := HO177.out.1 k_ e_; first | exact h_ e2_.symm | exact h_.1 e2_.symm | exact h_.2 e2_.symm | exact h_.1.1 e2_.symm | exact h_.2.1 e2_.symm | exact h_.1.2 e2_.symm | exact h_.2.2 e2_.symm | exact h_.1.1.1 e2_.symm | exact h_.2.1.1 e2_.symm | exact h_.1.2.1 e2_.symm | exact h_.2.2.1 e2_.symm | exact h_.1.1.2 e2_.symm | exact h_.2.1.2 e2_.symm | exact h_.1.2.2 e2_.symm | exact h_.2.2.2 e2_.symm | exact h_.1.1.1.1 e2_.symm | exact h_.2.1.1.1 e2_.symm | exact h_.1.2.1.1 e2_.symm | exact h_.2.2.1.1 e2_.symm | exact h_.1.1.2.1 e2_.symm | exact h_.2.1.2.1 e2_.symm | exact h_.1.2.2.1 e2_.symm | exact h_.2.2.2.1 e2_.symm | exact h_.1.1.1.2 e2_.symm | exact h_.2.1.1.2 e2_.symm | exact h_.1.2.1.2 e2_.symm | exact h_.2.2.1.2 e2_.symm | exact h_.1.1.2.2 e2_.symm | exact h_.2.1.2.2 e2_.symm | exact h_.1.2.2.2 e2_.symm | exact h_.2.2.2.2 e2_.symm | exact h_.1.1.1.1.1 e2_.symm | exact h_.2.1.1.1.1 e2_.symm | exact h_.1.2.1.1.1 e2_.symm | exact h_.2.2.1.1.1 e2_.symm | exact h_.1.1.2.1.1 e2_.symm | exact h_.2.1.2.1.1 e2_.symm | exact h_.1.2.2.1.1 e2_.symm | exact h_.2.2.2.1.1 e2_.symm | exact h_.1.1.1.2.1 e2_.symm | exact h_.2.1.1.2.1 e2_.symm | exact h_.1.2.1.2.1 e2_.symm | exact h_.2.2.1.2.1 e2_.symm | exact h_.1.1.2.2.1 e2_.symm | exact h_.2.1.2.2.1 e2_.symm | exact h_.1.2.2.2.1 e2_.symm | exact h_.2.2.2.2.1 e2_.symm | exact h_.1.1.1.1.2 e2_.symm | exact h_.2.1.1.1.2 e2_.symm | exact h_.1.2.1.1.2 e2_.symm | exact h_.2.2.1.1.2 e2_.symm | exact h_.1.1.2.1.2 e2_.symm | exact h_.2.1.2.1.2 e2_.symm | exact h_.1.2.2.1.2 e2_.symm | exact h_.2.2.2.1.2 e2_.symm | exact h_.1.1.1.2.2 e2_.symm | exact h_.2.1.1.2.2 e2_.symm | exact h_.1.2.1.2.2 e2_.symm | exact h_.2.2.1.2.2 e2_.symm | exact h_.1.1.2.2.2 e2_.symm | exact h_.2.1.2.2.2 e2_.symm | exact h_.1.2.2.2.2 e2_.symm | exact h_.2.2.2.2.2 e2_.symm | exact h_.1.1.1.1.1.1 e2_.symm | exact h_.2.1.1.1.1.1 e2_.symm | exact h_.1.2.1.1.1.1 e2_.symm | exact h_.2.2.1.1.1.1 e2_.symm | exact h_.1.1.2.1.1.1 e2_.symm | exact h_.2.1.2.1.1.1 e2_.symm | exact h_.1.2.2.1.1.1 e2_.symm | exact h_.2.2.2.1.1.1 e2_.symm | exact h_.1.1.1.2.1.1 e2_.symm | exact h_.2.1.1.2.1.1 e2_.symm | exact h_.1.2.1.2.1.1 e2_.symm | exact h_.2.2.1.2.1.1 e2_.symm | exact h_.1.1.2.2.1.1 e2_.symm | exact h_.2.1.2.2.1.1 e2_.symm | exact h_.1.2.2.2.1.1 e2_.symm | exact h_.2.2.2.2.1.1 e2_.symm | exact h_.1.1.1.1.2.1 e2_.symm | exact h_.2.1.1.1.2.1 e2_.symm | exact h_.1.2.1.1.2.1 e2_.symm | exact h_.2.2.1.1.2.1 e2_.symm | exact h_.1.1.2.1.2.1 e2_.symm | exact h_.2.1.2.1.2.1 e2_.symm | exact h_.1.2.2.1.2.1 e2_.symm | exact h_.2.2.2.1.2.1 e2_.symm | exact h_.1.1.1.2.2.1 e2_.symm | exact h_.2.1.1.2.2.1 e2_.symm | exact h_.1.2.1.2.2.1 e2_.symm | exact h_.2.2.1.2.2.1 e2_.symm | exact h_.1.1.2.2.2.1 e2_.symm | exact h_.2.1.2.2.2.1 e2_.symm | exact h_.1.2.2.2.2.1 e2_.symm | exact h_.2.2.2.2.2.1 e2_.symm | exact h_.1.1.1.1.1.2 e2_.symm | exact h_.2.1.1.1.1.2 e2_.symm | exact h_.1.2.1.1.1.2 e2_.symm | exact h_.2.2.1.1.1.2 e2_.symm | exact h_.1.1.2.1.1.2 e2_.symm | exact h_.2.1.2.1.1.2 e2_.symm | exact h_.1.2.2.1.1.2 e2_.symm | exact h_.2.2.2.1.1.2 e2_.symm | exact h_.1.1.1.2.1.2 e2_.symm | exact h_.2.1.1.2.1.2 e2_.symm | exact h_.1.2.1.2.1.2 e2_.symm | exact h_.2.2.1.2.1.2 e2_.symm | exact h_.1.1.2.2.1.2 e2_.symm | exact h_.2.1.2.2.1.2 e2_.symm | exact h_.1.2.2.2.1.2 e2_.symm | exact h_.2.2.2.2.1.2 e2_.symm | exact h_.1.1.1.1.2.2 e2_.symm | exact h_.2.1.1.1.2.2 e2_.symm | exact h_.1.2.1.1.2.2 e2_.symm | exact h_.2.2.1.1.2.2 e2_.symm | exact h_.1.1.2.1.2.2 e2_.symm | exact h_.2.1.2.1.2.2 e2_.symm | exact h_.1.2.2.1.2.2 e2_.symm | exact h_.2.2.2.1.2.2 e2_.symm | exact h_.1.1.1.2.2.2 e2_.symm | exact h_.2.1.1.2.2.2 e2_.symm | exact h_.1.2.1.2.2.2 e2_.symm | exact h_.2.2.1.2.2.2 e2_.symm | exact h_.1.1.2.2.2.2 e2_.symm | exact h_.2.1.2.2.2.2 e2_.symm | exact h_.1.2.2.2.2.2 e2_.symm | exact h_.2.2.2.2.2.2 e2_.symm) | (have h_ := HO183.out.1 k_ e2_; first | exact h_ e_.symm | exact h_.1 e_.symm | exact h_.2 e_.symm | exact h_.1.1 e_.symm | exact h_.2.1 e_.symm | exact h_.1.2 e_.symm | exact h_.2.2 e_.symm | exact h_.1.1.1 e_.symm | exact h_.2.1.1 e_.symm | exact h_.1.2.1 e_.symm | exact h_.2.2.1 e_.symm | exact h_.1.1.2 e_.symm | exact h_.2.1.2 e_.symm | exact h_.1.2.2 e_.symm | exact h_.2.2.2 e_.symm | exact h_.1.1.1.1 e_.symm | exact h_.2.1.1.1 e_.symm | exact h_.1.2.1.1 e_.symm | exact h_.2.2.1.1 e_.symm | exact h_.1.1.2.1 e_.symm | exact h_.2.1.2.1 e_.symm | exact h_.1.2.2.1 e_.symm | exact h_.2.2.2.1 e_.symm | exact h_.1.1.1.2 e_.symm | exact h_.2.1.1.2 e_.symm | exact h_.1.2.1.2 e_.symm | exact h_.2.2.1.2 e_.symm | exact h_.1.1.2.2 e_.symm | exact h_.2.1.2.2 e_.symm | exact h_.1.2.2.2 e_.symm | exact h_.2.2.2.2 e_.symm | exact h_.1.1.1.1.1 e_.symm | exact h_.2.1.1.1.1 e_.symm | exact h_.1.2.1.1.1 e_.symm | exact h_.2.2.1.1.1 e_.symm | exact h_.1.1.2.1.1 e_.symm | exact h_.2.1.2.1.1 e_.symm | exact h_.1.2.2.1.1 e_.symm | exact h_.2.2.2.1.1 e_.symm | exact h_.1.1.1.2.1 e_.symm | exact h_.2.1.1.2.1 e_.symm | exact h_.1.2.1.2.1 e_.symm | exact h_.2.2.1.2.1 e_.symm | exact h_.1.1.2.2.1 e_.symm | exact h_.2.1.2.2.1 e_.symm | exact h_.1.2.2.2.1 e_.symm | exact h_.2.2.2.2.1 e_.symm | exact h_.1.1.1.1.2 e_.symm | exact h_.2.1.1.1.2 e_.symm | exact h_.1.2.1.1.2 e_.symm | exact h_.2.2.1.1.2 e_.symm | exact h_.1.1.2.1.2 e_.symm | exact h_.2.1.2.1.2 e_.symm | exact h_.1.2.2.1.2 e_.symm | exact h_.2.2.2.1.2 e_.symm | exact h_.1.1.1.2.2 e_.symm | exact h_.2.1.1.2.2 e_.symm | exact h_.1.2.1.2.2 e_.symm | exact h_.2.2.1.2.2 e_.symm | exact h_.1.1.2.2.2 e_.symm | exact h_.2.1.2.2.2 e_.symm | exact h_.1.2.2.2.2 e_.symm | exact h_.2.2.2.2.2 e_.symm | exact h_.1.1.1.1.1.1 e_.symm | exact h_.2.1.1.1.1.1 e_.symm | exact h_.1.2.1.1.1.1 e_.symm | exact h_.2.2.1.1.1.1 e_.symm | exact h_.1.1.2.1.1.1 e_.symm | exact h_.2.1.2.1.1.1 e_.symm | exact h_.1.2.2.1.1.1 e_.symm | exact h_.2.2.2.1.1.1 e_.symm | exact h_.1.1.1.2.1.1 e_.symm | exact h_.2.1.1.2.1.1 e_.symm | exact h_.1.2.1.2.1.1 e_.symm | exact h_.2.2.1.2.1.1 e_.symm | exact h_.1.1.2.2.1.1 e_.symm | exact h_.2.1.2.2.1.1 e_.symm | exact h_.1.2.2.2.1.1 e_.symm | exact h_.2.2.2.2.1.1 e_.symm | exact h_.1.1.1.1.2.1 e_.symm | exact h_.2.1.1.1.2.1 e_.symm | exact h_.1.2.1.1.2.1 e_.symm | exact h_.2.2.1.1.2.1 e_.symm | exact h_.1.1.2.1.2.1 e_.symm | exact h_.2.1.2.1.2.1 e_.symm | exact h_.1.2.2.1.2.1 e_.symm | exact h_.2.2.2.1.2.1 e_.symm | exact h_.1.1.1.2.2.1 e_.symm | exact h_.2.1.1.2.2.1 e_.symm | exact h_.1.2.1.2.2.1 e_.symm | exact h_.2.2.1.2.2.1 e_.symm | exact h_.1.1.2.2.2.1 e_.symm | exact h_.2.1.2.2.2.1 e_.symm | exact h_.1.2.2.2.2.1 e_.symm | exact h_.2.2.2.2.2.1 e_.symm | exact h_.1.1.1.1.1.2 e_.symm | exact h_.2.1.1.1.1.2 e_.symm | exact h_.1.2.1.1.1.2 e_.symm | exact h_.2.2.1.1.1.2 e_.symm | exact h_.1.1.2.1.1.2 e_.symm | exact h_.2.1.2.1.1.2 e_.symm | exact h_.1.2.2.1.1.2 e_.symm | exact h_.2.2.2.1.1.2 e_.symm | exact h_.1.1.1.2.1.2 e_.symm | exact h_.2.1.1.2.1.2 e_.symm | exact h_.1.2.1.2.1.2 e_.symm | exact h_.2.2.1.2.1.2 e_.symm | exact h_.1.1.2.2.1.2 e_.symm | exact h_.2.1.2.2.1.2 e_.symm | exact h_.1.2.2.2.1.2 e_.symm | exact h_.2.2.2.2.1.2 e_.symm | exact h_.1.1.1.1.2.2 e_.symm | exact h_.2.1.1.1.2.2 e_.symm | exact h_.1.2.1.1.2.2 e_.symm | exact h_.2.2.1.1.2.2 e_.symm | exact h_.1.1.2.1.2.2 e_.symm | exact h_.2.1.2.1.2.2 e_.symm | exact h_.1.2.2.1.2.2 e_.symm | exact h_.2.2.2.1.2.2 e_.symm | exact h_.1.1.1.2.2.2 e_.symm | exact h_.2.1.1.2.2.2 e_.symm | exact h_.1.2.1.2.2.2 e_.symm | exact h_.2.2.1.2.2.2 e_.symm | exact h_.1.1.2.2.2.2 e_.symm | exact h_.2.1.2.2.2.2 e_.symm | exact h_.1.2.2.2.2.2 e_.symm | exact h_.2.2.2.2.2.2 e_.symm)) (fun k_ e_ e2_ => by first | (have h_ := HO180.out.1 k_ e_; first | exact h_ e2_.symm | exact h_.1 e2_.symm | exact h_.2 e2_.symm | exact h_.1.1 e2_.symm | exact h_.2.1 e2_.symm | exact h_.1.2 e2_.symm | exact h_.2.2 e2_.symm | exact h_.1.1.1 e2_.symm | exact h_.2.1.1 e2_.symm | exact h_.1.2.1 e2_.symm | exact h_.2.2.1 e2_.symm | exact h_.1.1.2 e2_.symm | exact h_.2.1.2 e2_.symm | exact h_.1.2.2 e2_.symm | exact h_.2.2.2 e2_.symm | exact h_.1.1.1.1 e2_.symm | exact h_.2.1.1.1 e2_.symm | exact h_.1.2.1.1 e2_.symm | exact h_.2.2.1.1 e2_.symm | exact h_.1.1.2.1 e2_.symm | exact h_.2.1.2.1 e2_.symm | exact h_.1.2.2.1 e2_.symm | exact h_.2.2.2.1 e2_.symm | exact h_.1.1.1.2 e2_.symm | exact h_.2.1.1.2 e2_.symm | exact h_.1.2.1.2 e2_.symm | exact h_.2.2.1.2 e2_.symm | exact h_.1.1.2.2 e2_.symm | exact h_.2.1.2.2 e2_.symm | exact h_.1.2.2.2 e2_.symm | exact h_.2.2.2.2 e2_.symm | exact h_.1.1.1.1.1 e2_.symm | exact h_.2.1.1.1.1 e2_.symm | exact h_.1.2.1.1.1 e2_.symm | exact h_.2.2.1.1.1 e2_.symm | exact h_.1.1.2.1.1 e2_.symm | exact h_.2.1.2.1.1 e2_.symm | exact h_.1.2.2.1.1 e2_.symm | exact h_.2.2.2.1.1 e2_.symm | exact h_.1.1.1.2.1 e2_.symm | exact h_.2.1.1.2.1 e2_.symm | exact h_.1.2.1.2.1 e2_.symm | exact h_.2.2.1.2.1 e2_.symm | exact h_.1.1.2.2.1 e2_.symm | exact h_.2.1.2.2.1 e2_.symm | exact h_.1.2.2.2.1 e2_.symm | exact h_.2.2.2.2.1 e2_.symm | exact h_.1.1.1.1.2 e2_.symm | exact h_.2.1.1.1.2 e2_.symm | exact h_.1.2.1.1.2 e2_.symm | exact h_.2.2.1.1.2 e2_.symm | exact h_.1.1.2.1.2 e2_.symm | exact h_.2.1.2.1.2 e2_.symm | exact h_.1.2.2.1.2 e2_.symm | exact h_.2.2.2.1.2 e2_.symm | exact h_.1.1.1.2.2 e2_.symm | exact h_.2.1.1.2.2 e2_.symm | exact h_.1.2.1.2.2 e2_.symm | exact h_.2.2.1.2.2 e2_.symm | exact h_.1.1.2.2.2 e2_.symm | exact h_.2.1.2.2.2 e2_.symm | exact h_.1.2.2.2.2 e2_.symm | exact h_.2.2.2.2.2 e2_.symm | exact h_.1.1.1.1.1.1 e2_.symm | exact h_.2.1.1.1.1.1 e2_.symm | exact h_.1.2.1.1.1.1 e2_.symm | exact h_.2.2.1.1.1.1 e2_.symm | exact h_.1.1.2.1.1.1 e2_.symm | exact h_.2.1.2.1.1.1 e2_.symm | exact h_.1.2.2.1.1.1 e2_.symm | exact h_.2.2.2.1.1.1 e2_.symm | exact h_.1.1.1.2.1.1 e2_.symm | exact h_.2.1.1.2.1.1 e2_.symm | exact h_.1.2.1.2.1.1 e2_.symm | exact h_.2.2.1.2.1.1 e2_.symm | exact h_.1.1.2.2.1.1 e2_.symm | exact h_.2.1.2.2.1.1 e2_.symm | exact h_.1.2.2.2.1.1 e2_.symm | exact h_.2.2.2.2.1.1 e2_.symm | exact h_.1.1.1.1.2.1 e2_.symm | exact h_.2.1.1.1.2.1 e2_.symm | exact h_.1.2.1.1.2.1 e2_.symm | exact h_.2.2.1.1.2.1 e2_.symm | exact h_.1.1.2.1.2.1 e2_.symm | exact h_.2.1.2.1.2.1 e2_.symm | exact h_.1.2.2.1.2.1 e2_.symm | exact h_.2.2.2.1.2.1 e2_.symm | exact h_.1.1.1.2.2.1 e2_.symm | exact h_.2.1.1.2.2.1 e2_.symm | exact h_.1.2.1.2.2.1 e2_.symm | exact h_.2.2.1.2.2.1 e2_.symm | exact h_.1.1.2.2.2.1 e2_.symm | exact h_.2.1.2.2.2.1 e2_.symm | exact h_.1.2.2.2.2.1 e2_.symm | exact h_.2.2.2.2.2.1 e2_.symm | exact h_.1.1.1.1.1.2 e2_.symm | exact h_.2.1.1.1.1.2 e2_.symm | exact h_.1.2.1.1.1.2 e2_.symm | exact h_.2.2.1.1.1.2 e2_.symm | exact h_.1.1.2.1.1.2 e2_.symm | exact h_.2.1.2.1.1.2 e2_.symm | exact h_.1.2.2.1.1.2 e2_.symm | exact h_.2.2.2.1.1.2 e2_.symm | exact h_.1.1.1.2.1.2 e2_.symm | exact h_.2.1.1.2.1.2 e2_.symm | exact h_.1.2.1.2.1.2 e2_.symm | exact h_.2.2.1.2.1.2 e2_.symm | exact h_.1.1.2.2.1.2 e2_.symm | exact h_.2.1.2.2.1.2 e2_.symm | exact h_.1.2.2.2.1.2 e2_.symm | exact h_.2.2.2.2.1.2 e2_.symm | exact h_.1.1.1.1.2.2 e2_.symm | exact h_.2.1.1.1.2.2 e2_.symm | exact h_.1.2.1.1.2.2 e2_.symm | exact h_.2.2.1.1.2.2 e2_.symm | exact h_.1.1.2.1.2.2 e2_.symm | exact h_.2.1.2.1.2.2 e2_.symm | exact h_.1.2.2.1.2.2 e2_.symm | exact h_.2.2.2.1.2.2 e2_.symm | exact h_.1.1.1.2.2.2 e2_.symm | exact h_.2.1.1.2.2.2 e2_.symm | exact h_.1.2.1.2.2.2 e2_.symm | exact h_.2.2.1.2.2.2 e2_.symm | exact h_.1.1.2.2.2.2 e2_.symm | exact h_.2.1.2.2.2.2 e2_.symm | exact h_.1.2.2.2.2.2 e2_.symm | exact h_.2.2.2.2.2.2 e2_.symm) | (have h_ := HO183.out.1 k_ e2_; first | exact h_ e_.symm | exact h_.1 e_.symm | exact h_.2 e_.symm | exact h_.1.1 e_.symm | exact h_.2.1 e_.symm | exact h_.1.2 e_.symm | exact h_.2.2 e_.symm | exact h_.1.1.1 e_.symm | exact h_.2.1.1 e_.symm | exact h_.1.2.1 e_.symm | exact h_.2.2.1 e_.symm | exact h_.1.1.2 e_.symm | exact h_.2.1.2 e_.symm | exact h_.1.2.2 e_.symm | exact h_.2.2.2 e_.symm | exact h_.1.1.1.1 e_.symm | exact h_.2.1.1.1 e_.symm | exact h_.1.2.1.1 e_.symm | exact h_.2.2.1.1 e_.symm | exact h_.1.1.2.1 e_.symm | exact h_.2.1.2.1 e_.symm | exact h_.1.2.2.1 e_.symm | exact h_.2.2.2.1 e_.symm | exact h_.1.1.1.2 e_.symm | exact h_.2.1.1.2 e_.symm | exact h_.1.2.1.2 e_.symm | exact h_.2.2.1.2 e_.symm | exact h_.1.1.2.2 e_.symm | exact h_.2.1.2.2 e_.symm | exact h_.1.2.2.2 e_.symm | exact h_.2.2.2.2 e_.symm | exact h_.1.1.1.1.1 e_.symm | exact h_.2.1.1.1.1 e_.symm | exact h_.1.2.1.1.1 e_.symm | exact h_.2.2.1.1.1 e_.symm | exact h_.1.1.2.1.1 e_.symm | exact h_.2.1.2.1.1 e_.symm | exact h_.1.2.2.1.1 e_.symm | exact h_.2.2.2.1.1 e_.symm | exact h_.1.1.1.2.1 e_.symm | exact h_.2.1.1.2.1 e_.symm | exact h_.1.2.1.2.1 e_.symm | exact h_.2.2.1.2.1 e_.symm | exact h_.1.1.2.2.1 e_.symm | exact h_.2.1.2.2.1 e_.symm | exact h_.1.2.2.2.1 e_.symm | exact h_.2.2.2.2.1 e_.symm | exact h_.1.1.1.1.2 e_.symm | exact h_.2.1.1.1.2 e_.symm | exact h_.1.2.1.1.2 e_.symm | exact h_.2.2.1.1.2 e_.symm | exact h_.1.1.2.1.2 e_.symm | exact h_.2.1.2.1.2 e_.symm | exact h_.1.2.2.1.2 e_.symm | exact h_.2.2.2.1.2 e_.symm | exact h_.1.1.1.2.2 e_.symm | exact h_.2.1.1.2.2 e_.symm | exact h_.1.2.1.2.2 e_.symm | exact h_.2.2.1.2.2 e_.symm | exact h_.1.1.2.2.2 e_.symm | exact h_.2.1.2.2.2 e_.symm | exact h_.1.2.2.2.2 e_.symm | exact h_.2.2.2.2.2 e_.symm | exact h_.1.1.1.1.1.1 e_.symm | exact h_.2.1.1.1.1.1 e_.symm | exact h_.1.2.1.1.1.1 e_.symm | exact h_.2.2.1.1.1.1 e_.symm | exact h_.1.1.2.1.1.1 e_.symm | exact h_.2.1.2.1.1.1 e_.symm | exact h_.1.2.2.1.1.1 e_.symm | exact h_.2.2.2.1.1.1 e_.symm | exact h_.1.1.1.2.1.1 e_.symm | exact h_.2.1.1.2.1.1 e_.symm | exact h_.1.2.1.2.1.1 e_.symm | exact h_.2.2.1.2.1.1 e_.symm | exact h_.1.1.2.2.1.1 e_.symm | exact h_.2.1.2.2.1.1 e_.symm | exact h_.1.2.2.2.1.1 e_.symm | exact h_.2.2.2.2.1.1 e_.symm | exact h_.1.1.1.1.2.1 e_.symm | exact h_.2.1.1.1.2.1 e_.symm | exact h_.1.2.1.1.2.1 e_.symm | exact h_.2.2.1.1.2.1 e_.symm | exact h_.1.1.2.1.2.1 e_.symm | exact h_.2.1.2.1.2.1 e_.symm | exact h_.1.2.2.1.2.1 e_.symm | exact h_.2.2.2.1.2.1 e_.symm | exact h_.1.1.1.2.2.1 e_.symm | exact h_.2.1.1.2.2.1 e_.symm | exact h_.1.2.1.2.2.1 e_.symm | exact h_.2.2.1.2.2.1 e_.symm | exact h_.1.1.2.2.2.1 e_.symm | exact h_.2.1.2.2.2.1 e_.symm | exact h_.1.2.2.2.2.1 e_.symm | exact h_.2.2.2.2.2.1 e_.symm | exact h_.1.1.1.1.1.2 e_.symm | exact h_.2.1.1.1.1.2 e_.symm | exact h_.1.2.1.1.1.2 e_.symm | exact h_.2.2.1.1.1.2 e_.symm | exact h_.1.1.2.1.1.2 e_.symm | exact h_.2.1.2.1.1.2 e_.symm | exact h_.1.2.2.1.1.2 e_.symm | exact h_.2.2.2.1.1.2 e_.symm | exact h_.1.1.1.2.1.2 e_.symm | exact h_.2.1.1.2.1.2 e_.symm | exact h_.1.2.1.2.1.2 e_.symm | exact h_.2.2.1.2.1.2 e_.symm | exact h_.1.1.2.2.1.2 e_.symm | exact h_.2.1.2.2.1.2 e_.symm | exact h_.1.2.2.2.1.2 e_.symm | exact h_.2.2.2.2.1.2 e_.symm | exact h_.1.1.1.1.2.2 e_.symm | exact h_.2.1.1.1.2.2 e_.symm | exact h_.1.2.1.1.2.2 e_.symm | exact h_.2.2.1.1.2.2 e_.symm | exact h_.1.1.2.1.2.2 e_.symm | exact h_.2.1.2.1.2.2 e_.symm | exact h_.1.2.2.1.2.2 e_.symm | exact h_.2.2.2.1.2.2 e_.symm | exact h_.1.1.1.2.2.2 e_.symm | exact h_.2.1.1.2.2.2 e_.symm | exact h_.1.2.1.2.2.2 e_.symm | exact h_.2.2.1.2.2.2 e_.symm | exact h_.1.1.2.2.2.2 e_.symm | exact h_.2.1.2.2.2.2 e_.symm | exact h_.1.2.2.2.2.2 e_.symm | exact h_.2.2.2.2.2.2 e_.symm)))
          (case aB => exact (bZ HB))
          (case aF => exact (fun k_ hk => ⟨Kd.fresh' (Kd.R_lt (rP HO_2)) k_ hk, Kd.fresh' (Kd.R_lt (rP HO_3)) k_ hk⟩))
          (case aO => exact (by (with_reducible repeat (first | apply Kd.S_alloc | apply Kd.S_drewN | apply Kd.S_drew)); exact Kd.S_mono HO_167002.out (fun k_ hk => ⟨⟨hk.1.1.1.1, hk.1.1.1.2⟩, fun e_ => e_.elim (fun h_ => hk.1.1.2 h_) (fun h_ => h_.elim (fun h_ => hk.1.2 h_) (fun h_ => hk.2 h_))⟩)))
          (case aS => exact (below_size (bZ HB)))
          (case aL => have := LMc26.out; omega)
          intro v185 w38 ho hb hg hat
          rw [← Ny184.out] at ho
          replace HO_2 := Aside0.mk (Kd.R_over' (rP HO_2) (Kd.S_typed (by (with_reducible repeat (first | apply Kd.S_alloc | apply Kd.S_drewN | apply Kd.S_drew)); exact HO_167002.out)) (by decide) hg)
          replace HO_3 := Aside0.mk (Kd.R_over' (rP HO_3) (Kd.S_typed (by (with_reducible repeat (first | apply Kd.S_alloc | apply Kd.S_drewN | apply Kd.S_drew)); exact HO_167002.out)) (by decide) hg)
          replace BK165 := Aside0.mk (blk_grown (bP BK165) hg (Kd.S_ne HO_167002.out BK165.out (by decide)))
          replace BK166 := Aside0.mk (blk_grown (bP BK166) hg (Kd.S_ne HO_167002.out BK166.out (by decide)))
          replace HB := Aside0.mk (hb)
          have HO186 := Aside0.mk (ho)
          clear HO_167002 HO177 HO180 HO183
          clear ho hb hg hat
          obtain ⟨Ao39, co39, eo39⟩ := Kd.S_slice HO186.out
          (first | subst eo39 | (injection eo39 with f1_ f2_ f3_; have f4_ := f1_.symm; have f5_ := f3_.symm; clear f1_ f2_ f3_; subst f4_; subst f5_))
          refine hK.out _ _ (bT3 BK166) (fun hHeld => ?_)
          clear hK K
          refine nO (some 43) ?_
          refine pI 17 (some 44) HT_.out ?_
          refine last_ (i := 18) (N := none) #[true, true, true, true, true, true, true, true, true, true, true, true, true, true, true, true, true, true, true] rfl rfl (one_of HT_.out (by kernel_rfl)) (by decide) (fun K hK => ?_)
          have hs40 : w38.cell? ⟨gb166, 2, none⟩ = some (u167002) := bc BK166 2
          have hfs40 := blk_frozen BK166.out 2
          obtain ⟨hns40_0, hms40_0⟩ := nB NB165_166
          refine skip_ (w1 := ?_) (by rfl) rfl ?_ ?_
          rotate_left
          ·go_simp
           rfl
          refine hK.out _ _ ?_
          clear hK K
          refine done_ (done_of HT_.out (by kernel_rfl)) ?_
          try go_wp2
          go_roundg k1
          case measure => have := HK1.out; omega
          case rel => exact ⟨(y173), (y174), (wrap64 (x13_1 + 1)), (y184), (.slice Ao39 y184.length co39), rS, H', ⟨by have := HK1.out; omega⟩, ⟨by (with_reducible repeat (first | apply Kd.R_alloc | apply Kd.R_drewN | apply Kd.R_drew)); exact Kd.R_mono (Kd.R_far (p := ⟨gb166, 2, none⟩) (Kd.R_types HO_2.out BK166.out (by decide)) (fun _ hk => hk.2) (.slice Ao39 y184.length co39)) (fun _ hk => hk.1.1.1.1.2)⟩, ⟨by (with_reducible repeat (first | apply Kd.R_alloc | apply Kd.R_drewN | apply Kd.R_drew)); exact Kd.R_mono (Kd.R_far (p := ⟨gb166, 2, none⟩) (Kd.R_types HO_3.out BK166.out (by decide)) (fun _ hk => hk.2) (.slice Ao39 y184.length co39)) (fun _ hk => hk.1.1.1.1)⟩, ⟨by (with_reducible repeat (first | apply Kd.S_alloc | apply Kd.S_drewN | apply Kd.S_drew)); exact Kd.S_mono (Kd.S_far (p := ⟨gb166, 2, none⟩) (Kd.S_types HO186.out BK166.out (by decide)) (fun _ hk => hk.2) (.slice Ao39 y184.length co39)) (fun _ hk => ⟨hk.1.1, hk.1.2⟩)⟩, ⟨bP BK165⟩, ⟨bU BK166⟩, ⟨bZ HB⟩⟩
         ·rw [if_neg c26] at H
          exact absurd H (by simp)
        ·rw [if_neg c21] at H
         exact absurd H (by simp)
       ·rw [if_neg c19] at H
        exact absurd H (by simp)
      ·rw [if_neg c18] at H
       exact absurd H (by simp)
     ·rw [if_neg c15] at H
      exact absurd H (by simp)
    ·rw [if_neg c13] at H
     have c13b0 : decide (x13_1 < 8) = false := decide_eq_false c13
     clear c13
     replace H := Option.bind_eq_some_iff.mp H
     obtain ⟨t187, A410, H⟩ := H
     have A41 := Aside0.mk A410
     clear A410
     replace H := Option.bind_eq_some_iff.mp H
     obtain ⟨t190, A420, H⟩ := H
     have A42 := Aside0.mk A420
     clear A420
     by_cases c43 : x167002_1.length < 1954687338268
     ·rw [if_pos c43] at H
      have LMc43 := Aside0.mk c43
      clear c43
      obtain ⟨y193, hy193⟩ : ∃ y_ : List (S75), y_ = (x167002_1 ++ [(⟨t187, x2_1, t190⟩ : S75)]) := ⟨_, rfl⟩
      replace H : ((impl_unit.f 11 0).bind fun t196 => ((impl_unit.f 11 2).bind fun t199 => (if y193.length < 1954687338268 then (some (11, 2, (y193 ++ [(⟨t196, x3_1, t199⟩ : S75)]))) else (none)))) = some (r1, r2, r3) := by first | (rw [hy193]; with_reducible exact H) | (have H2_ := (Option.bind_some _ _).symm.trans H; rw [hy193]; with_reducible exact H2_) | (have H2_ := (Option.bind_some _ _).symm.trans H; with_reducible exact H2_) | with_reducible exact H | (rw [hy193]; exact H) | exact H
      have Ny193 := Aside0.mk hy193
      clear hy193
      replace H := Option.bind_eq_some_iff.mp H
      obtain ⟨t196, A440, H⟩ := H
      have A44 := Aside0.mk A440
      clear A440
      replace H := Option.bind_eq_some_iff.mp H
      obtain ⟨t199, A450, H⟩ := H
      have A45 := Aside0.mk A450
      clear A450
      by_cases c46 : y193.length < 1954687338268
      ·rw [if_pos c46] at H
       have LMc46 := Aside0.mk c46
       clear c46
       obtain ⟨y202, hy202⟩ : ∃ y_ : List (S75), y_ = (y193 ++ [(⟨t196, x3_1, t199⟩ : S75)]) := ⟨_, rfl⟩
       replace H : (some (11, 2, y202)) = some (r1, r2, r3) := by first | (rw [hy202]; with_reducible exact H) | (have H2_ := (Option.bind_some _ _).symm.trans H; rw [hy202]; with_reducible exact H2_) | (have H2_ := (Option.bind_some _ _).symm.trans H; with_reducible exact H2_) | with_reducible exact H | (rw [hy202]; exact H) | exact H
       have Ny202 := Aside0.mk hy202
       clear hy202
       simp only [Option.some.injEq, Prod.mk.injEq] at H
       obtain ⟨rfl, rfl, rfl⟩ := H
       try go_wp2
       replace HO_2 := Aside0.mk (Kd.R_drew HO_2.out)
       replace HO_3 := Aside0.mk (Kd.R_drew HO_3.out)
       replace HO_167002 := Aside0.mk (Kd.S_drew HO_167002.out)
       replace BK165 := Aside0.mk (blk_drew BK165.out)
       replace BK166 := Aside0.mk (blk_drew BK166.out)
       replace HB := Aside0.mk (below_drew1 HB.out)
       refine start_ (n := 14) (S := fun w' => SQ3 w' gb166 (.int .i64 11) (.int .i64 2) (u167002)) (ds := [13]) #[false, false, false, false, false, false, false, false, false, false, false, false, false, false] (by kernel_rfl) rfl rfl (bT3 BK166) (fun hHeld => ?_); refine with_tabW impl_CountSystem.tab11 impl_CountSystem.bits11 (fun HT_ HW_ => ?_)
       generalize wr.drew = w47 at HO_2 HO_3 HO_167002 BK165 BK166 HB hHeld ⊢
       refine pI 0 (some 46) HT_.out ?_
       refine pI 2 (some 48) HT_.out ?_
       refine pI 5 (some 51) HT_.out ?_
       refine pI 6 (some 52) HT_.out ?_
       refine tI3 1 (some 47) HT_.out HW_.out hHeld ?_
       refine tI3 3 (some 49) HT_.out HW_.out hHeld ?_
       refine tI3 7 (some 53) HT_.out HW_.out hHeld ?_
       refine oI 4 (some 50) HT_.out (fun K hK => ?_)
       refine gO Try.func67 #[.int .i64 11, .int .i64 0] ?_
       with_reducible refine (impl_unit.calls 11 0 t187 _ A41.out).mono ?_
       rintro e w48 ⟨v188, rfl, ho0, hb⟩
       refine ⟨_, rfl, ?_⟩
       replace HO_167002 := Aside0.mk (Kd.S_elder' (by (with_reducible repeat (first | apply Kd.S_alloc | apply Kd.S_drewN | apply Kd.S_drew)); exact HO_167002.out) (Kd.R_base ho0) hb)
       have HO189 := Aside0.mk (Kd.R_lower (Kd.R_new' (Kd.R_new' ho0 (Kd.R_lt (rP HO_2))) (Kd.R_lt (rP HO_3))) (below_size (bZ HB)))
       replace HO_2 := Aside0.mk (Kd.R_elder' (rP HO_2) (Kd.R_base ho0) hb)
       replace HO_3 := Aside0.mk (Kd.R_elder' (rP HO_3) (Kd.R_base ho0) hb)
       replace BK165 := bB BK165 hb
       replace BK166 := bB BK166 hb
       replace HB := bS HB hb
       (try clear hb)
       (try clear ho0)
       refine hK.out _ _ (bT3 BK166) (fun hHeld => ?_)
       clear hK K
       refine nO (some 50) ?_
       refine oI 8 (some 54) HT_.out (fun K hK => ?_)
       refine gO Try.func67 #[.int .i64 11, .int .i64 1] ?_
       with_reducible refine (impl_unit.calls 11 1 t190 _ A42.out).mono ?_
       rintro e w49 ⟨v191, rfl, ho0, hb⟩
       refine ⟨_, rfl, ?_⟩
       replace HO_167002 := Aside0.mk (Kd.S_elder' (by (with_reducible repeat (first | apply Kd.S_alloc | apply Kd.S_drewN | apply Kd.S_drew)); exact HO_167002.out) (Kd.R_base ho0) hb)
       have HO192 := Aside0.mk (Kd.R_lower (Kd.R_new' (Kd.R_new' (Kd.R_new' ho0 (Kd.R_lt (rP HO_2))) (Kd.R_lt (rP HO_3))) (Kd.R_lt (rP HO189))) (below_size (bZ HB)))
       replace HO_2 := Aside0.mk (Kd.R_elder' (rP HO_2) (Kd.R_base ho0) hb)
       replace HO_3 := Aside0.mk (Kd.R_elder' (rP HO_3) (Kd.R_base ho0) hb)
       replace HO189 := Aside0.mk (Kd.R_elder' (rP HO189) (Kd.R_base ho0) hb)
       replace BK165 := bB BK165 hb
       replace BK166 := bB BK166 hb
       replace HB := bS HB hb
       (try clear hb)
       (try clear ho0)
       obtain ⟨Ao50, co50, eo50⟩ := Kd.R_slice HO192.out
       (first | subst eo50 | (injection eo50 with f1_ f2_ f3_; have f4_ := f1_.symm; have f5_ := f3_.symm; clear f1_ f2_ f3_; subst f4_; subst f5_))
       obtain ⟨Ao51, co51, eo51⟩ := Kd.R_slice HO_2.out
       (first | subst eo51 | (injection eo51 with f1_ f2_ f3_; have f4_ := f1_.symm; have f5_ := f3_.symm; clear f1_ f2_ f3_; subst f4_; subst f5_))
       obtain ⟨Ao52, co52, eo52⟩ := Kd.R_slice HO189.out
       (first | subst eo52 | (injection eo52 with f1_ f2_ f3_; have f4_ := f1_.symm; have f5_ := f3_.symm; clear f1_ f2_ f3_; subst f4_; subst f5_))
       refine hK.out _ _ (bT3 BK166) (fun hHeld => ?_)
       clear hK K
       refine nO (some 54) ?_
       refine pI 9 (some 55) HT_.out ?_
       refine oI 10 (some 56) HT_.out (fun K hK => ?_)
       refine value_ (w1 := ?_) (v := ?_) (by rfl) rfl ?_ ?_
       rotate_left 2
       ·go_simp
        constructor
        ·rfl
        ·rfl
       refine hK.out _ _ ⟨(blk_cell (blk_alloc BK166.out _) 0).trans rfl, (blk_cell (blk_alloc BK166.out _) 1).trans rfl, (blk_cell (blk_alloc BK166.out _) 2).trans rfl⟩ (fun hHeld => ?_)
       clear hK K
       refine nO (some 56) ?_
       refine oI 11 (some 57) HT_.out (fun K hK => ?_)
       refine Kd.S_append_step k75 (w0 := w) w.heap.size (by rfl) (.tmp 47) (.tmp 56) 41 75 (.agg #[(.slice none 0 0), (.slice none 0 0), (.slice none 0 0)]) 72 rfl Try.underlying41 info75 rfl (by decide) (by omega) u167002 x167002_1 (⟨t187, x2_1, t190⟩ : S75) [.slice Ao52 t187.length co52, .slice Ao51 x2_1.length co51, .slice Ao50 t190.length co50] (fun k_ => some k_ ≠ (v171 : Value).ownBlock) (fun k_ => some k_ = (.slice Ao52 t187.length co52 : Value).ownBlock ∨ some k_ = (.slice Ao51 x2_1.length co51 : Value).ownBlock ∨ some k_ = (.slice Ao50 t190.length co50 : Value).ownBlock) rfl rfl ?aP (fun k_ hk_ => hk_.elim (fun h_ => ((Kd.R_mono (ok' := fun k_ => ((fun k_ => some k_ ≠ (v171 : Value).ownBlock)) k_ ∧ some k_ ≠ (u167002 : Value).ownBlock) (Kd.R_apart' (HO189.out) (Kd.S_typed HO_167002.out) (by decide)) (fun k_ hk => ⟨hk.1.1.2, hk.2⟩))).1 k_ h_.symm) (fun h_ => h_.elim (fun h_ => ((Kd.R_mono (ok' := fun k_ => ((fun k_ => some k_ ≠ (v171 : Value).ownBlock)) k_ ∧ some k_ ≠ (u167002 : Value).ownBlock) (Kd.R_apart' (HO_2.out) (Kd.S_typed HO_167002.out) (by decide)) (fun k_ hk => ⟨hk.1.1.1, hk.2⟩))).1 k_ h_.symm) (fun h_ => ((Kd.R_mono (ok' := fun k_ => ((fun k_ => some k_ ≠ (v171 : Value).ownBlock)) k_ ∧ some k_ ≠ (u167002 : Value).ownBlock) (Kd.R_apart' (HO192.out) (Kd.S_typed HO_167002.out) (by decide)) (fun k_ hk => ⟨hk.1.1.2, hk.2⟩))).1 k_ h_.symm))) ?aF ?aO ?aB ?aS ?aL ?_
       (case aP => exact k75_mkM _ _ _ (⟨t187, x2_1, t190⟩ : S75) (Kd.R_mono (Kd.R_tight rfl (Kd.R_mono (ok' := fun k_ => ((fun k_ => some k_ ≠ (v171 : Value).ownBlock)) k_ ∧ some k_ ≠ (u167002 : Value).ownBlock) (Kd.R_apart' (HO189.out) (Kd.S_typed HO_167002.out) (by decide)) (fun k_ hk => ⟨hk.1.1.2, hk.2⟩))) (fun _ h_ => Or.inl h_)) (Kd.R_mono (Kd.R_tight rfl (Kd.R_mono (ok' := fun k_ => ((fun k_ => some k_ ≠ (v171 : Value).ownBlock)) k_ ∧ some k_ ≠ (u167002 : Value).ownBlock) (Kd.R_apart' (HO_2.out) (Kd.S_typed HO_167002.out) (by decide)) (fun k_ hk => ⟨hk.1.1.1, hk.2⟩))) (fun _ h_ => Or.inr (Or.inl h_))) (Kd.R_mono (Kd.R_tight rfl (Kd.R_mono (ok' := fun k_ => ((fun k_ => some k_ ≠ (v171 : Value).ownBlock)) k_ ∧ some k_ ≠ (u167002 : Value).ownBlock) (Kd.R_apart' (HO192.out) (Kd.S_typed HO_167002.out) (by decide)) (fun k_ hk => ⟨hk.1.1.2, hk.2⟩))) (fun _ h_ => Or.inr (Or.inr (h_)))) (fun k_ e_ e2_ => by first | (have h_ := HO189.out.1 k_ e_; first | exact h_ e2_.symm | exact h_.1 e2_.symm | exact h_.2 e2_.symm | exact h_.1.1 e2_.symm | exact h_.2.1 e2_.symm | exact h_.1.2 e2_.symm | exact h_.2.2 e2_.symm | exact h_.1.1.1 e2_.symm | exact h_.2.1.1 e2_.symm | exact h_.1.2.1 e2_.symm | exact h_.2.2.1 e2_.symm | exact h_.1.1.2 e2_.symm | exact h_.2.1.2 e2_.symm | exact h_.1.2.2 e2_.symm | exact h_.2.2.2 e2_.symm | exact h_.1.1.1.1 e2_.symm | exact h_.2.1.1.1 e2_.symm | exact h_.1.2.1.1 e2_.symm | exact h_.2.2.1.1 e2_.symm | exact h_.1.1.2.1 e2_.symm | exact h_.2.1.2.1 e2_.symm | exact h_.1.2.2.1 e2_.symm | exact h_.2.2.2.1 e2_.symm | exact h_.1.1.1.2 e2_.symm | exact h_.2.1.1.2 e2_.symm | exact h_.1.2.1.2 e2_.symm | exact h_.2.2.1.2 e2_.symm | exact h_.1.1.2.2 e2_.symm | exact h_.2.1.2.2 e2_.symm | exact h_.1.2.2.2 e2_.symm | exact h_.2.2.2.2 e2_.symm | exact h_.1.1.1.1.1 e2_.symm | exact h_.2.1.1.1.1 e2_.symm | exact h_.1.2.1.1.1 e2_.symm | exact h_.2.2.1.1.1 e2_.symm | exact h_.1.1.2.1.1 e2_.symm | exact h_.2.1.2.1.1 e2_.symm | exact h_.1.2.2.1.1 e2_.symm | exact h_.2.2.2.1.1 e2_.symm | exact h_.1.1.1.2.1 e2_.symm | exact h_.2.1.1.2.1 e2_.symm | exact h_.1.2.1.2.1 e2_.symm | exact h_.2.2.1.2.1 e2_.symm | exact h_.1.1.2.2.1 e2_.symm | exact h_.2.1.2.2.1 e2_.symm | exact h_.1.2.2.2.1 e2_.symm | exact h_.2.2.2.2.1 e2_.symm | exact h_.1.1.1.1.2 e2_.symm | exact h_.2.1.1.1.2 e2_.symm | exact h_.1.2.1.1.2 e2_.symm | exact h_.2.2.1.1.2 e2_.symm | exact h_.1.1.2.1.2 e2_.symm | exact h_.2.1.2.1.2 e2_.symm | exact h_.1.2.2.1.2 e2_.symm | exact h_.2.2.2.1.2 e2_.symm | exact h_.1.1.1.2.2 e2_.symm | exact h_.2.1.1.2.2 e2_.symm | exact h_.1.2.1.2.2 e2_.symm | exact h_.2.2.1.2.2 e2_.symm | exact h_.1.1.2.2.2 e2_.symm | exact h_.2.1.2.2.2 e2_.symm | exact h_.1.2.2.2.2 e2_.symm | exact h_.2.2.2.2.2 e2_.symm | exact h_.1.1.1.1.1.1 e2_.symm | exact h_.2.1.1.1.1.1 e2_.symm | exact h_.1.2.1.1.1.1 e2_.symm | exact h_.2.2.1.1.1.1 e2_.symm | exact h_.1.1.2.1.1.1 e2_.symm | exact h_.2.1.2.1.1.1 e2_.symm | exact h_.1.2.2.1.1.1 e2_.symm | exact h_.2.2.2.1.1.1 e2_.symm | exact h_.1.1.1.2.1.1 e2_.symm | exact h_.2.1.1.2.1.1 e2_.symm | exact h_.1.2.1.2.1.1 e2_.symm | exact h_.2.2.1.2.1.1 e2_.symm | exact h_.1.1.2.2.1.1 e2_.symm | exact h_.2.1.2.2.1.1 e2_.symm | exact h_.1.2.2.2.1.1 e2_.symm | exact h_.2.2.2.2.1.1 e2_.symm | exact h_.1.1.1.1.2.1 e2_.symm | exact h_.2.1.1.1.2.1 e2_.symm | exact h_.1.2.1.1.2.1 e2_.symm | exact h_.2.2.1.1.2.1 e2_.symm | exact h_.1.1.2.1.2.1 e2_.symm | exact h_.2.1.2.1.2.1 e2_.symm | exact h_.1.2.2.1.2.1 e2_.symm | exact h_.2.2.2.1.2.1 e2_.symm | exact h_.1.1.1.2.2.1 e2_.symm | exact h_.2.1.1.2.2.1 e2_.symm | exact h_.1.2.1.2.2.1 e2_.symm | exact h_.2.2.1.2.2.1 e2_.symm | exact h_.1.1.2.2.2.1 e2_.symm | exact h_.2.1.2.2.2.1 e2_.symm | exact h_.1.2.2.2.2.1 e2_.symm | exact h_.2.2.2.2.2.1 e2_.symm | exact h_.1.1.1.1.1.2 e2_.symm | exact h_.2.1.1.1.1.2 e2_.symm | exact h_.1.2.1.1.1.2 e2_.symm | exact h_.2.2.1.1.1.2 e2_.symm | exact h_.1.1.2.1.1.2 e2_.symm | exact h_.2.1.2.1.1.2 e2_.symm | exact h_.1.2.2.1.1.2 e2_.symm | exact h_.2.2.2.1.1.2 e2_.symm | exact h_.1.1.1.2.1.2 e2_.symm | exact h_.2.1.1.2.1.2 e2_.symm | exact h_.1.2.1.2.1.2 e2_.symm | exact h_.2.2.1.2.1.2 e2_.symm | exact h_.1.1.2.2.1.2 e2_.symm | exact h_.2.1.2.2.1.2 e2_.symm | exact h_.1.2.2.2.1.2 e2_.symm | exact h_.2.2.2.2.1.2 e2_.symm | exact h_.1.1.1.1.2.2 e2_.symm | exact h_.2.1.1.1.2.2 e2_.symm | exact h_.1.2.1.1.2.2 e2_.symm | exact h_.2.2.1.1.2.2 e2_.symm | exact h_.1.1.2.1.2.2 e2_.symm | exact h_.2.1.2.1.2.2 e2_.symm | exact h_.1.2.2.1.2.2 e2_.symm | exact h_.2.2.2.1.2.2 e2_.symm | exact h_.1.1.1.2.2.2 e2_.symm | exact h_.2.1.1.2.2.2 e2_.symm | exact h_.1.2.1.2.2.2 e2_.symm | exact h_.2.2.1.2.2.2 e2_.symm | exact h_.1.1.2.2.2.2 e2_.symm | exact h_.2.1.2.2.2.2 e2_.symm | exact h_.1.2.2.2.2.2 e2_.symm | exact h_.2.2.2.2.2.2 e2_.symm) | (have h_ := HO_2.out.1 k_ e2_; first | exact h_ e_.symm | exact h_.1 e_.symm | exact h_.2 e_.symm | exact h_.1.1 e_.symm | exact h_.2.1 e_.symm | exact h_.1.2 e_.symm | exact h_.2.2 e_.symm | exact h_.1.1.1 e_.symm | exact h_.2.1.1 e_.symm | exact h_.1.2.1 e_.symm | exact h_.2.2.1 e_.symm | exact h_.1.1.2 e_.symm | exact h_.2.1.2 e_.symm | exact h_.1.2.2 e_.symm | exact h_.2.2.2 e_.symm | exact h_.1.1.1.1 e_.symm | exact h_.2.1.1.1 e_.symm | exact h_.1.2.1.1 e_.symm | exact h_.2.2.1.1 e_.symm | exact h_.1.1.2.1 e_.symm | exact h_.2.1.2.1 e_.symm | exact h_.1.2.2.1 e_.symm | exact h_.2.2.2.1 e_.symm | exact h_.1.1.1.2 e_.symm | exact h_.2.1.1.2 e_.symm | exact h_.1.2.1.2 e_.symm | exact h_.2.2.1.2 e_.symm | exact h_.1.1.2.2 e_.symm | exact h_.2.1.2.2 e_.symm | exact h_.1.2.2.2 e_.symm | exact h_.2.2.2.2 e_.symm | exact h_.1.1.1.1.1 e_.symm | exact h_.2.1.1.1.1 e_.symm | exact h_.1.2.1.1.1 e_.symm | exact h_.2.2.1.1.1 e_.symm | exact h_.1.1.2.1.1 e_.symm | exact h_.2.1.2.1.1 e_.symm | exact h_.1.2.2.1.1 e_.symm | exact h_.2.2.2.1.1 e_.symm | exact h_.1.1.1.2.1 e_.symm | exact h_.2.1.1.2.1 e_.symm | exact h_.1.2.1.2.1 e_.symm | exact h_.2.2.1.2.1 e_.symm | exact h_.1.1.2.2.1 e_.symm | exact h_.2.1.2.2.1 e_.symm | exact h_.1.2.2.2.1 e_.symm | exact h_.2.2.2.2.1 e_.symm | exact h_.1.1.1.1.2 e_.symm | exact h_.2.1.1.1.2 e_.symm | exact h_.1.2.1.1.2 e_.symm | exact h_.2.2.1.1.2 e_.symm | exact h_.1.1.2.1.2 e_.symm | exact h_.2.1.2.1.2 e_.symm | exact h_.1.2.2.1.2 e_.symm | exact h_.2.2.2.1.2 e_.symm | exact h_.1.1.1.2.2 e_.symm | exact h_.2.1.1.2.2 e_.symm | exact h_.1.2.1.2.2 e_.symm | exact h_.2.2.1.2.2 e_.symm | exact h_.1.1.2.2.2 e_.symm | exact h_.2.1.2.2.2 e_.symm | exact h_.1.2.2.2.2 e_.symm | exact h_.2.2.2.2.2 e_.symm | exact h_.1.1.1.1.1.1 e_.symm | exact h_.2.1.1.1.1.1 e_.symm | exact h_.1.2.1.1.1.1 e_.symm | exact h_.2.2.1.1.1.1 e_.symm | exact h_.1.1.2.1.1.1 e_.symm | exact h_.2.1.2.1.1.1 e_.symm | exact h_.1.2.2.1.1.1 e_.symm | exact h_.2.2.2.1.1.1 e_.symm | exact h_.1.1.1.2.1.1 e_.symm | exact h_.2.1.1.2.1.1 e_.symm | exact h_.1.2.1.2.1.1 e_.symm | exact h_.2.2.1.2.1.1 e_.symm | exact h_.1.1.2.2.1.1 e_.symm | exact h_.2.1.2.2.1.1 e_.symm | exact h_.1.2.2.2.1.1 e_.symm | exact h_.2.2.2.2.1.1 e_.symm | exact h_.1.1.1.1.2.1 e_.symm | exact h_.2.1.1.1.2.1 e_.symm | exact h_.1.2.1.1.2.1 e_.symm | exact h_.2.2.1.1.2.1 e_.symm | exact h_.1.1.2.1.2.1 e_.symm | exact h_.2.1.2.1.2.1 e_.symm | exact h_.1.2.2.1.2.1 e_.symm | exact h_.2.2.2.1.2.1 e_.symm | exact h_.1.1.1.2.2.1 e_.symm | exact h_.2.1.1.2.2.1 e_.symm | exact h_.1.2.1.2.2.1 e_.symm | exact h_.2.2.1.2.2.1 e_.symm | exact h_.1.1.2.2.2.1 e_.symm | exact h_.2.1.2.2.2.1 e_.symm | exact h_.1.2.2.2.2.1 e_.symm | exact h_.2.2.2.2.2.1 e_.symm | exact h_.1.1.1.1.1.2 e_.symm | exact h_.2.1.1.1.1.2 e_.symm | exact h_.1.2.1.1.1.2 e_.symm | exact h_.2.2.1.1.1.2 e_.symm | exact h_.1.1.2.1.1.2 e_.symm | exact h_.2.1.2.1.1.2 e_.symm | exact h_.1.2.2.1.1.2 e_.symm | exact h_.2.2.2.1.1.2 e_.symm | exact h_.1.1.1.2.1.2 e_.symm | exact h_.2.1.1.2.1.2 e_.symm | exact h_.1.2.1.2.1.2 e_.symm | exact h_.2.2.1.2.1.2 e_.symm | exact h_.1.1.2.2.1.2 e_.symm | exact h_.2.1.2.2.1.2 e_.symm | exact h_.1.2.2.2.1.2 e_.symm | exact h_.2.2.2.2.1.2 e_.symm | exact h_.1.1.1.1.2.2 e_.symm | exact h_.2.1.1.1.2.2 e_.symm | exact h_.1.2.1.1.2.2 e_.symm | exact h_.2.2.1.1.2.2 e_.symm | exact h_.1.1.2.1.2.2 e_.symm | exact h_.2.1.2.1.2.2 e_.symm | exact h_.1.2.2.1.2.2 e_.symm | exact h_.2.2.2.1.2.2 e_.symm | exact h_.1.1.1.2.2.2 e_.symm | exact h_.2.1.1.2.2.2 e_.symm | exact h_.1.2.1.2.2.2 e_.symm | exact h_.2.2.1.2.2.2 e_.symm | exact h_.1.1.2.2.2.2 e_.symm | exact h_.2.1.2.2.2.2 e_.symm | exact h_.1.2.2.2.2.2 e_.symm | exact h_.2.2.2.2.2.2 e_.symm)) (fun k_ e_ e2_ => by first | (have h_ := HO189.out.1 k_ e_; first | exact h_ e2_.symm | exact h_.1 e2_.symm | exact h_.2 e2_.symm | exact h_.1.1 e2_.symm | exact h_.2.1 e2_.symm | exact h_.1.2 e2_.symm | exact h_.2.2 e2_.symm | exact h_.1.1.1 e2_.symm | exact h_.2.1.1 e2_.symm | exact h_.1.2.1 e2_.symm | exact h_.2.2.1 e2_.symm | exact h_.1.1.2 e2_.symm | exact h_.2.1.2 e2_.symm | exact h_.1.2.2 e2_.symm | exact h_.2.2.2 e2_.symm | exact h_.1.1.1.1 e2_.symm | exact h_.2.1.1.1 e2_.symm | exact h_.1.2.1.1 e2_.symm | exact h_.2.2.1.1 e2_.symm | exact h_.1.1.2.1 e2_.symm | exact h_.2.1.2.1 e2_.symm | exact h_.1.2.2.1 e2_.symm | exact h_.2.2.2.1 e2_.symm | exact h_.1.1.1.2 e2_.symm | exact h_.2.1.1.2 e2_.symm | exact h_.1.2.1.2 e2_.symm | exact h_.2.2.1.2 e2_.symm | exact h_.1.1.2.2 e2_.symm | exact h_.2.1.2.2 e2_.symm | exact h_.1.2.2.2 e2_.symm | exact h_.2.2.2.2 e2_.symm | exact h_.1.1.1.1.1 e2_.symm | exact h_.2.1.1.1.1 e2_.symm | exact h_.1.2.1.1.1 e2_.symm | exact h_.2.2.1.1.1 e2_.symm | exact h_.1.1.2.1.1 e2_.symm | exact h_.2.1.2.1.1 e2_.symm | exact h_.1.2.2.1.1 e2_.symm | exact h_.2.2.2.1.1 e2_.symm | exact h_.1.1.1.2.1 e2_.symm | exact h_.2.1.1.2.1 e2_.symm | exact h_.1.2.1.2.1 e2_.symm | exact h_.2.2.1.2.1 e2_.symm | exact h_.1.1.2.2.1 e2_.symm | exact h_.2.1.2.2.1 e2_.symm | exact h_.1.2.2.2.1 e2_.symm | exact h_.2.2.2.2.1 e2_.symm | exact h_.1.1.1.1.2 e2_.symm | exact h_.2.1.1.1.2 e2_.symm | exact h_.1.2.1.1.2 e2_.symm | exact h_.2.2.1.1.2 e2_.symm | exact h_.1.1.2.1.2 e2_.symm | exact h_.2.1.2.1.2 e2_.symm | exact h_.1.2.2.1.2 e2_.symm | exact h_.2.2.2.1.2 e2_.symm | exact h_.1.1.1.2.2 e2_.symm | exact h_.2.1.1.2.2 e2_.symm | exact h_.1.2.1.2.2 e2_.symm | exact h_.2.2.1.2.2 e2_.symm | exact h_.1.1.2.2.2 e2_.symm | exact h_.2.1.2.2.2 e2_.symm | exact h_.1.2.2.2.2 e2_.symm | exact h_.2.2.2.2.2 e2_.symm | exact h_.1.1.1.1.1.1 e2_.symm | exact h_.2.1.1.1.1.1 e2_.symm | exact h_.1.2.1.1.1.1 e2_.symm | exact h_.2.2.1.1.1.1 e2_.symm | exact h_.1.1.2.1.1.1 e2_.symm | exact h_.2.1.2.1.1.1 e2_.symm | exact h_.1.2.2.1.1.1 e2_.symm | exact h_.2.2.2.1.1.1 e2_.symm | exact h_.1.1.1.2.1.1 e2_.symm | exact h_.2.1.1.2.1.1 e2_.symm | exact h_.1.2.1.2.1.1 e2_.symm | exact h_.2.2.1.2.1.1 e2_.symm | exact h_.1.1.2.2.1.1 e2_.symm | exact h_.2.1.2.2.1.1 e2_.symm | exact h_.1.2.2.2.1.1 e2_.symm | exact h_.2.2.2.2.1.1 e2_.symm | exact h_.1.1.1.1.2.1 e2_.symm | exact h_.2.1.1.1.2.1 e2_.symm | exact h_.1.2.1.1.2.1 e2_.symm | exact h_.2.2.1.1.2.1 e2_.symm | exact h_.1.1.2.1.2.1 e2_.symm | exact h_.2.1.2.1.2.1 e2_.symm | exact h_.1.2.2.1.2.1 e2_.symm | exact h_.2.2.2.1.2.1 e2_.symm | exact h_.1.1.1.2.2.1 e2_.symm | exact h_.2.1.1.2.2.1 e2_.symm | exact h_.1.2.1.2.2.1 e2_.symm | exact h_.2.2.1.2.2.1 e2_.symm | exact h_.1.1.2.2.2.1 e2_.symm | exact h_.2.1.2.2.2.1 e2_.symm | exact h_.1.2.2.2.2.1 e2_.symm | exact h_.2.2.2.2.2.1 e2_.symm | exact h_.1.1.1.1.1.2 e2_.symm | exact h_.2.1.1.1.1.2 e2_.symm | exact h_.1.2.1.1.1.2 e2_.symm | exact h_.2.2.1.1.1.2 e2_.symm | exact h_.1.1.2.1.1.2 e2_.symm | exact h_.2.1.2.1.1.2 e2_.symm | exact h_.1.2.2.1.1.2 e2_.symm | exact h_.2.2.2.1.1.2 e2_.symm | exact h_.1.1.1.2.1.2 e2_.symm | exact h_.2.1.1.2.1.2 e2_.symm | exact h_.1.2.1.2.1.2 e2_.symm | exact h_.2.2.1.2.1.2 e2_.symm | exact h_.1.1.2.2.1.2 e2_.symm | exact h_.2.1.2.2.1.2 e2_.symm | exact h_.1.2.2.2.1.2 e2_.symm | exact h_.2.2.2.2.1.2 e2_.symm | exact h_.1.1.1.1.2.2 e2_.symm | exact h_.2.1.1.1.2.2 e2_.symm | exact h_.1.2.1.1.2.2 e2_.symm | exact h_.2.2.1.1.2.2 e2_.symm | exact h_.1.1.2.1.2.2 e2_.symm | exact h_.2.1.2.1.2.2 e2_.symm | exact h_.1.2.2.1.2.2 e2_.symm | exact h_.2.2.2.1.2.2 e2_.symm | exact h_.1.1.1.2.2.2 e2_.symm | exact h_.2.1.1.2.2.2 e2_.symm | exact h_.1.2.1.2.2.2 e2_.symm | exact h_.2.2.1.2.2.2 e2_.symm | exact h_.1.1.2.2.2.2 e2_.symm | exact h_.2.1.2.2.2.2 e2_.symm | exact h_.1.2.2.2.2.2 e2_.symm | exact h_.2.2.2.2.2.2 e2_.symm) | (have h_ := HO192.out.1 k_ e2_; first | exact h_ e_.symm | exact h_.1 e_.symm | exact h_.2 e_.symm | exact h_.1.1 e_.symm | exact h_.2.1 e_.symm | exact h_.1.2 e_.symm | exact h_.2.2 e_.symm | exact h_.1.1.1 e_.symm | exact h_.2.1.1 e_.symm | exact h_.1.2.1 e_.symm | exact h_.2.2.1 e_.symm | exact h_.1.1.2 e_.symm | exact h_.2.1.2 e_.symm | exact h_.1.2.2 e_.symm | exact h_.2.2.2 e_.symm | exact h_.1.1.1.1 e_.symm | exact h_.2.1.1.1 e_.symm | exact h_.1.2.1.1 e_.symm | exact h_.2.2.1.1 e_.symm | exact h_.1.1.2.1 e_.symm | exact h_.2.1.2.1 e_.symm | exact h_.1.2.2.1 e_.symm | exact h_.2.2.2.1 e_.symm | exact h_.1.1.1.2 e_.symm | exact h_.2.1.1.2 e_.symm | exact h_.1.2.1.2 e_.symm | exact h_.2.2.1.2 e_.symm | exact h_.1.1.2.2 e_.symm | exact h_.2.1.2.2 e_.symm | exact h_.1.2.2.2 e_.symm | exact h_.2.2.2.2 e_.symm | exact h_.1.1.1.1.1 e_.symm | exact h_.2.1.1.1.1 e_.symm | exact h_.1.2.1.1.1 e_.symm | exact h_.2.2.1.1.1 e_.symm | exact h_.1.1.2.1.1 e_.symm | exact h_.2.1.2.1.1 e_.symm | exact h_.1.2.2.1.1 e_.symm | exact h_.2.2.2.1.1 e_.symm | exact h_.1.1.1.2.1 e_.symm | exact h_.2.1.1.2.1 e_.symm | exact h_.1.2.1.2.1 e_.symm | exact h_.2.2.1.2.1 e_.symm | exact h_.1.1.2.2.1 e_.symm | exact h_.2.1.2.2.1 e_.symm | exact h_.1.2.2.2.1 e_.symm | exact h_.2.2.2.2.1 e_.symm | exact h_.1.1.1.1.2 e_.symm | exact h_.2.1.1.1.2 e_.symm | exact h_.1.2.1.1.2 e_.symm | exact h_.2.2.1.1.2 e_.symm | exact h_.1.1.2.1.2 e_.symm | exact h_.2.1.2.1.2 e_.symm | exact h_.1.2.2.1.2 e_.symm | exact h_.2.2.2.1.2 e_.symm | exact h_.1.1.1.2.2 e_.symm | exact h_.2.1.1.2.2 e_.symm | exact h_.1.2.1.2.2 e_.symm | exact h_.2.2.1.2.2 e_.symm | exact h_.1.1.2.2.2 e_.symm | exact h_.2.1.2.2.2 e_.symm | exact h_.1.2.2.2.2 e_.symm | exact h_.2.2.2.2.2 e_.symm | exact h_.1.1.1.1.1.1 e_.symm | exact h_.2.1.1.1.1.1 e_.symm | exact h_.1.2.1.1.1.1 e_.symm | exact h_.2.2.1.1.1.1 e_.symm | exact h_.1.1.2.1.1.1 e_.symm | exact h_.2.1.2.1.1.1 e_.symm | exact h_.1.2.2.1.1.1 e_.symm | exact h_.2.2.2.1.1.1 e_.symm | exact h_.1.1.1.2.1.1 e_.symm | exact h_.2.1.1.2.1.1 e_.symm | exact h_.1.2.1.2.1.1 e_.symm | exact h_.2.2.1.2.1.1 e_.symm | exact h_.1.1.2.2.1.1 e_.symm | exact h_.2.1.2.2.1.1 e_.symm | exact h_.1.2.2.2.1.1 e_.symm | exact h_.2.2.2.2.1.1 e_.symm | exact h_.1.1.1.1.2.1 e_.symm | exact h_.2.1.1.1.2.1 e_.symm | exact h_.1.2.1.1.2.1 e_.symm | exact h_.2.2.1.1.2.1 e_.symm | exact h_.1.1.2.1.2.1 e_.symm | exact h_.2.1.2.1.2.1 e_.symm | exact h_.1.2.2.1.2.1 e_.symm | exact h_.2.2.2.1.2.1 e_.symm | exact h_.1.1.1.2.2.1 e_.symm | exact h_.2.1.1.2.2.1 e_.symm | exact h_.1.2.1.2.2.1 e_.symm | exact h_.2.2.1.2.2.1 e_.symm | exact h_.1.1.2.2.2.1 e_.symm | exact h_.2.1.2.2.2.1 e_.symm | exact h_.1.2.2.2.2.1 e_.symm | exact h_.2.2.2.2.2.1 e_.symm | exact h_.1.1.1.1.1.2 e_.symm | exact h_.2.1.1.1.1.2 e_.symm | exact h_.1.2.1.1.1.2 e_.symm | exact h_.2.2.1.1.1.2 e_.symm | exact h_.1.1.2.1.1.2 e_.symm | exact h_.2.1.2.1.1.2 e_.symm | exact h_.1.2.2.1.1.2 e_.symm | exact h_.2.2.2.1.1.2 e_.symm | exact h_.1.1.1.2.1.2 e_.symm | exact h_.2.1.1.2.1.2 e_.symm | exact h_.1.2.1.2.1.2 e_.symm | exact h_.2.2.1.2.1.2 e_.symm | exact h_.1.1.2.2.1.2 e_.symm | exact h_.2.1.2.2.1.2 e_.symm | exact h_.1.2.2.2.1.2 e_.symm | exact h_.2.2.2.2.1.2 e_.symm | exact h_.1.1.1.1.2.2 e_.symm | exact h_.2.1.1.1.2.2 e_.symm | exact h_.1.2.1.1.2.2 e_.symm | exact h_.2.2.1.1.2.2 e_.symm | exact h_.1.1.2.1.2.2 e_.symm | exact h_.2.1.2.1.2.2 e_.symm | exact h_.1.2.2.1.2.2 e_.symm | exact h_.2.2.2.1.2.2 e_.symm | exact h_.1.1.1.2.2.2 e_.symm | exact h_.2.1.1.2.2.2 e_.symm | exact h_.1.2.1.2.2.2 e_.symm | exact h_.2.2.1.2.2.2 e_.symm | exact h_.1.1.2.2.2.2 e_.symm | exact h_.2.1.2.2.2.2 e_.symm | exact h_.1.2.2.2.2.2 e_.symm | exact h_.2.2.2.2.2.2 e_.symm)) (fun k_ e_ e2_ => by first | (have h_ := HO_2.out.1 k_ e_; first | exact h_ e2_.symm | exact h_.1 e2_.symm | exact h_.2 e2_.symm | exact h_.1.1 e2_.symm | exact h_.2.1 e2_.symm | exact h_.1.2 e2_.symm | exact h_.2.2 e2_.symm | exact h_.1.1.1 e2_.symm | exact h_.2.1.1 e2_.symm | exact h_.1.2.1 e2_.symm | exact h_.2.2.1 e2_.symm | exact h_.1.1.2 e2_.symm | exact h_.2.1.2 e2_.symm | exact h_.1.2.2 e2_.symm | exact h_.2.2.2 e2_.symm | exact h_.1.1.1.1 e2_.symm | exact h_.2.1.1.1 e2_.symm | exact h_.1.2.1.1 e2_.symm | exact h_.2.2.1.1 e2_.symm | exact h_.1.1.2.1 e2_.symm | exact h_.2.1.2.1 e2_.symm | exact h_.1.2.2.1 e2_.symm | exact h_.2.2.2.1 e2_.symm | exact h_.1.1.1.2 e2_.symm | exact h_.2.1.1.2 e2_.symm | exact h_.1.2.1.2 e2_.symm | exact h_.2.2.1.2 e2_.symm | exact h_.1.1.2.2 e2_.symm | exact h_.2.1.2.2 e2_.symm | exact h_.1.2.2.2 e2_.symm | exact h_.2.2.2.2 e2_.symm | exact h_.1.1.1.1.1 e2_.symm | exact h_.2.1.1.1.1 e2_.symm | exact h_.1.2.1.1.1 e2_.symm | exact h_.2.2.1.1.1 e2_.symm | exact h_.1.1.2.1.1 e2_.symm | exact h_.2.1.2.1.1 e2_.symm | exact h_.1.2.2.1.1 e2_.symm | exact h_.2.2.2.1.1 e2_.symm | exact h_.1.1.1.2.1 e2_.symm | exact h_.2.1.1.2.1 e2_.symm | exact h_.1.2.1.2.1 e2_.symm | exact h_.2.2.1.2.1 e2_.symm | exact h_.1.1.2.2.1 e2_.symm | exact h_.2.1.2.2.1 e2_.symm | exact h_.1.2.2.2.1 e2_.symm | exact h_.2.2.2.2.1 e2_.symm | exact h_.1.1.1.1.2 e2_.symm | exact h_.2.1.1.1.2 e2_.symm | exact h_.1.2.1.1.2 e2_.symm | exact h_.2.2.1.1.2 e2_.symm | exact h_.1.1.2.1.2 e2_.symm | exact h_.2.1.2.1.2 e2_.symm | exact h_.1.2.2.1.2 e2_.symm | exact h_.2.2.2.1.2 e2_.symm | exact h_.1.1.1.2.2 e2_.symm | exact h_.2.1.1.2.2 e2_.symm | exact h_.1.2.1.2.2 e2_.symm | exact h_.2.2.1.2.2 e2_.symm | exact h_.1.1.2.2.2 e2_.symm | exact h_.2.1.2.2.2 e2_.symm | exact h_.1.2.2.2.2 e2_.symm | exact h_.2.2.2.2.2 e2_.symm | exact h_.1.1.1.1.1.1 e2_.symm | exact h_.2.1.1.1.1.1 e2_.symm | exact h_.1.2.1.1.1.1 e2_.symm | exact h_.2.2.1.1.1.1 e2_.symm | exact h_.1.1.2.1.1.1 e2_.symm | exact h_.2.1.2.1.1.1 e2_.symm | exact h_.1.2.2.1.1.1 e2_.symm | exact h_.2.2.2.1.1.1 e2_.symm | exact h_.1.1.1.2.1.1 e2_.symm | exact h_.2.1.1.2.1.1 e2_.symm | exact h_.1.2.1.2.1.1 e2_.symm | exact h_.2.2.1.2.1.1 e2_.symm | exact h_.1.1.2.2.1.1 e2_.symm | exact h_.2.1.2.2.1.1 e2_.symm | exact h_.1.2.2.2.1.1 e2_.symm | exact h_.2.2.2.2.1.1 e2_.symm | exact h_.1.1.1.1.2.1 e2_.symm | exact h_.2.1.1.1.2.1 e2_.symm | exact h_.1.2.1.1.2.1 e2_.symm | exact h_.2.2.1.1.2.1 e2_.symm | exact h_.1.1.2.1.2.1 e2_.symm | exact h_.2.1.2.1.2.1 e2_.symm | exact h_.1.2.2.1.2.1 e2_.symm | exact h_.2.2.2.1.2.1 e2_.symm | exact h_.1.1.1.2.2.1 e2_.symm | exact h_.2.1.1.2.2.1 e2_.symm | exact h_.1.2.1.2.2.1 e2_.symm | exact h_.2.2.1.2.2.1 e2_.symm | exact h_.1.1.2.2.2.1 e2_.symm | exact h_.2.1.2.2.2.1 e2_.symm | exact h_.1.2.2.2.2.1 e2_.symm | exact h_.2.2.2.2.2.1 e2_.symm | exact h_.1.1.1.1.1.2 e2_.symm | exact h_.2.1.1.1.1.2 e2_.symm | exact h_.1.2.1.1.1.2 e2_.symm | exact h_.2.2.1.1.1.2 e2_.symm | exact h_.1.1.2.1.1.2 e2_.symm | exact h_.2.1.2.1.1.2 e2_.symm | exact h_.1.2.2.1.1.2 e2_.symm | exact h_.2.2.2.1.1.2 e2_.symm | exact h_.1.1.1.2.1.2 e2_.symm | exact h_.2.1.1.2.1.2 e2_.symm | exact h_.1.2.1.2.1.2 e2_.symm | exact h_.2.2.1.2.1.2 e2_.symm | exact h_.1.1.2.2.1.2 e2_.symm | exact h_.2.1.2.2.1.2 e2_.symm | exact h_.1.2.2.2.1.2 e2_.symm | exact h_.2.2.2.2.1.2 e2_.symm | exact h_.1.1.1.1.2.2 e2_.symm | exact h_.2.1.1.1.2.2 e2_.symm | exact h_.1.2.1.1.2.2 e2_.symm | exact h_.2.2.1.1.2.2 e2_.symm | exact h_.1.1.2.1.2.2 e2_.symm | exact h_.2.1.2.1.2.2 e2_.symm | exact h_.1.2.2.1.2.2 e2_.symm | exact h_.2.2.2.1.2.2 e2_.symm | exact h_.1.1.1.2.2.2 e2_.symm | exact h_.2.1.1.2.2.2 e2_.symm | exact h_.1.2.1.2.2.2 e2_.symm | exact h_.2.2.1.2.2.2 e2_.symm | exact h_.1.1.2.2.2.2 e2_.symm | exact h_.2.1.2.2.2.2 e2_.symm | exact h_.1.2.2.2.2.2 e2_.symm | exact h_.2.2.2.2.2.2 e2_.symm) | (have h_ := HO192.out.1 k_ e2_; first | exact h_ e_.symm | exact h_.1 e_.symm | exact h_.2 e_.symm | exact h_.1.1 e_.symm | exact h_.2.1 e_.symm | exact h_.1.2 e_.symm | exact h_.2.2 e_.symm | exact h_.1.1.1 e_.symm | exact h_.2.1.1 e_.symm | exact h_.1.2.1 e_.symm | exact h_.2.2.1 e_.symm | exact h_.1.1.2 e_.symm | exact h_.2.1.2 e_.symm | exact h_.1.2.2 e_.symm | exact h_.2.2.2 e_.symm | exact h_.1.1.1.1 e_.symm | exact h_.2.1.1.1 e_.symm | exact h_.1.2.1.1 e_.symm | exact h_.2.2.1.1 e_.symm | exact h_.1.1.2.1 e_.symm | exact h_.2.1.2.1 e_.symm | exact h_.1.2.2.1 e_.symm | exact h_.2.2.2.1 e_.symm | exact h_.1.1.1.2 e_.symm | exact h_.2.1.1.2 e_.symm | exact h_.1.2.1.2 e_.symm | exact h_.2.2.1.2 e_.symm | exact h_.1.1.2.2 e_.symm | exact h_.2.1.2.2 e_.symm | exact h_.1.2.2.2 e_.symm | exact h_.2.2.2.2 e_.symm | exact h_.1.1.1.1.1 e_.symm | exact h_.2.1.1.1.1 e_.symm | exact h_.1.2.1.1.1 e_.symm | exact h_.2.2.1.1.1 e_.symm | exact h_.1.1.2.1.1 e_.symm | exact h_.2.1.2.1.1 e_.symm | exact h_.1.2.2.1.1 e_.symm | exact h_.2.2.2.1.1 e_.symm | exact h_.1.1.1.2.1 e_.symm | exact h_.2.1.1.2.1 e_.symm | exact h_.1.2.1.2.1 e_.symm | exact h_.2.2.1.2.1 e_.symm | exact h_.1.1.2.2.1 e_.symm | exact h_.2.1.2.2.1 e_.symm | exact h_.1.2.2.2.1 e_.symm | exact h_.2.2.2.2.1 e_.symm | exact h_.1.1.1.1.2 e_.symm | exact h_.2.1.1.1.2 e_.symm | exact h_.1.2.1.1.2 e_.symm | exact h_.2.2.1.1.2 e_.symm | exact h_.1.1.2.1.2 e_.symm | exact h_.2.1.2.1.2 e_.symm | exact h_.1.2.2.1.2 e_.symm | exact h_.2.2.2.1.2 e_.symm | exact h_.1.1.1.2.2 e_.symm | exact h_.2.1.1.2.2 e_.symm | exact h_.1.2.1.2.2 e_.symm | exact h_.2.2.1.2.2 e_.symm | exact h_.1.1.2.2.2 e_.symm | exact h_.2.1.2.2.2 e_.symm | exact h_.1.2.2.2.2 e_.symm | exact h_.2.2.2.2.2 e_.symm | exact h_.1.1.1.1.1.1 e_.symm | exact h_.2.1.1.1.1.1 e_.symm | exact h_.1.2.1.1.1.1 e_.symm | exact h_.2.2.1.1.1.1 e_.symm | exact h_.1.1.2.1.1.1 e_.symm | exact h_.2.1.2.1.1.1 e_.symm | exact h_.1.2.2.1.1.1 e_.symm | exact h_.2.2.2.1.1.1 e_.symm | exact h_.1.1.1.2.1.1 e_.symm | exact h_.2.1.1.2.1.1 e_.symm | exact h_.1.2.1.2.1.1 e_.symm | exact h_.2.2.1.2.1.1 e_.symm | exact h_.1.1.2.2.1.1 e_.symm | exact h_.2.1.2.2.1.1 e_.symm | exact h_.1.2.2.2.1.1 e_.symm | exact h_.2.2.2.2.1.1 e_.symm | exact h_.1.1.1.1.2.1 e_.symm | exact h_.2.1.1.1.2.1 e_.symm | exact h_.1.2.1.1.2.1 e_.symm | exact h_.2.2.1.1.2.1 e_.symm | exact h_.1.1.2.1.2.1 e_.symm | exact h_.2.1.2.1.2.1 e_.symm | exact h_.1.2.2.1.2.1 e_.symm | exact h_.2.2.2.1.2.1 e_.symm | exact h_.1.1.1.2.2.1 e_.symm | exact h_.2.1.1.2.2.1 e_.symm | exact h_.1.2.1.2.2.1 e_.symm | exact h_.2.2.1.2.2.1 e_.symm | exact h_.1.1.2.2.2.1 e_.symm | exact h_.2.1.2.2.2.1 e_.symm | exact h_.1.2.2.2.2.1 e_.symm | exact h_.2.2.2.2.2.1 e_.symm | exact h_.1.1.1.1.1.2 e_.symm | exact h_.2.1.1.1.1.2 e_.symm | exact h_.1.2.1.1.1.2 e_.symm | exact h_.2.2.1.1.1.2 e_.symm | exact h_.1.1.2.1.1.2 e_.symm | exact h_.2.1.2.1.1.2 e_.symm | exact h_.1.2.2.1.1.2 e_.symm | exact h_.2.2.2.1.1.2 e_.symm | exact h_.1.1.1.2.1.2 e_.symm | exact h_.2.1.1.2.1.2 e_.symm | exact h_.1.2.1.2.1.2 e_.symm | exact h_.2.2.1.2.1.2 e_.symm | exact h_.1.1.2.2.1.2 e_.symm | exact h_.2.1.2.2.1.2 e_.symm | exact h_.1.2.2.2.1.2 e_.symm | exact h_.2.2.2.2.1.2 e_.symm | exact h_.1.1.1.1.2.2 e_.symm | exact h_.2.1.1.1.2.2 e_.symm | exact h_.1.2.1.1.2.2 e_.symm | exact h_.2.2.1.1.2.2 e_.symm | exact h_.1.1.2.1.2.2 e_.symm | exact h_.2.1.2.1.2.2 e_.symm | exact h_.1.2.2.1.2.2 e_.symm | exact h_.2.2.2.1.2.2 e_.symm | exact h_.1.1.1.2.2.2 e_.symm | exact h_.2.1.1.2.2.2 e_.symm | exact h_.1.2.1.2.2.2 e_.symm | exact h_.2.2.1.2.2.2 e_.symm | exact h_.1.1.2.2.2.2 e_.symm | exact h_.2.1.2.2.2.2 e_.symm | exact h_.1.2.2.2.2.2 e_.symm | exact h_.2.2.2.2.2.2 e_.symm)))
       (case aB => exact (bZ HB))
       (case aF => exact (fun k_ hk => Kd.fresh' (Kd.R_lt (rP HO_3)) k_ hk))
       (case aO => exact (by (with_reducible repeat (first | apply Kd.S_alloc | apply Kd.S_drewN | apply Kd.S_drew)); exact Kd.S_mono HO_167002.out (fun k_ hk => ⟨hk.1.1.2, fun e_ => e_.elim (fun h_ => hk.1.2 h_) (fun h_ => h_.elim (fun h_ => hk.1.1.1 h_) (fun h_ => hk.2 h_))⟩)))
       (case aS => exact (below_size (bZ HB)))
       (case aL => have := LMc43.out; omega)
       intro v194 w53 ho hb hg hat
       rw [← Ny193.out] at ho
       replace HO_3 := Aside0.mk (Kd.R_over' (rP HO_3) (Kd.S_typed (by (with_reducible repeat (first | apply Kd.S_alloc | apply Kd.S_drewN | apply Kd.S_drew)); exact HO_167002.out)) (by decide) hg)
       replace BK165 := Aside0.mk (blk_grown (bP BK165) hg (Kd.S_ne HO_167002.out BK165.out (by decide)))
       replace BK166 := Aside0.mk (blk_grown (bP BK166) hg (Kd.S_ne HO_167002.out BK166.out (by decide)))
       replace HB := Aside0.mk (hb)
       have HO195 := Aside0.mk (ho)
       clear HO_167002 HO189 HO192 HO_2
       clear ho hb hg hat
       obtain ⟨Ao54, co54, eo54⟩ := Kd.S_slice HO195.out
       (first | subst eo54 | (injection eo54 with f1_ f2_ f3_; have f4_ := f1_.symm; have f5_ := f3_.symm; clear f1_ f2_ f3_; subst f4_; subst f5_))
       refine hK.out _ _ (bT3 BK166) (fun hHeld => ?_)
       clear hK K
       refine nO (some 57) ?_
       refine pI 12 (some 58) HT_.out ?_
       refine last_ (i := 13) (N := none) #[true, true, true, true, true, true, true, true, true, true, true, true, true, true] rfl rfl (one_of HT_.out (by kernel_rfl)) (by decide) (fun K hK => ?_)
       have hs55 : w53.cell? ⟨gb166, 2, none⟩ = some (u167002) := bc BK166 2
       have hfs55 := blk_frozen BK166.out 2
       obtain ⟨hns55_0, hms55_0⟩ := nB NB165_166
       refine skip_ (w1 := ?_) (by rfl) rfl ?_ ?_
       rotate_left
       ·go_simp
        rfl
       refine hK.out _ _ ?_
       clear hK K
       refine done_ (done_of HT_.out (by kernel_rfl)) ?_
       try go_wp2
       obtain ⟨w56, hW_⟩ : ∃ W_ : World, W_ = (w53.setCell ⟨gb166, 2, none⟩ (.slice Ao54 y193.length co54)) := ⟨_, rfl⟩
       have n0_ : Aside0 (Kd.R (Kd.int .i64) 3 (w53.setCell ⟨gb166, 2, none⟩ (.slice Ao54 y193.length co54)) w.heap.size (fun _ => True) v171 x3_1) := ⟨by (with_reducible repeat (first | apply Kd.R_alloc | apply Kd.R_drewN | apply Kd.R_drew)); exact Kd.R_mono (Kd.R_far (p := ⟨gb166, 2, none⟩) (Kd.R_types HO_3.out BK166.out (by decide)) (fun _ hk => hk.2) (.slice Ao54 y193.length co54)) (fun _ hk => trivial)⟩
       rw [← hW_] at n0_
       have n1_ : Aside0 (Kd.S k75 75 (w53.setCell ⟨gb166, 2, none⟩ (.slice Ao54 y193.length co54)) w.heap.size (fun k_ => some k_ ≠ (v171 : Value).ownBlock) (.slice Ao54 y193.length co54) y193) := ⟨by (with_reducible repeat (first | apply Kd.S_alloc | apply Kd.S_drewN | apply Kd.S_drew)); exact Kd.S_mono (Kd.S_far (p := ⟨gb166, 2, none⟩) (Kd.S_types HO195.out BK166.out (by decide)) (fun _ hk => hk.2) (.slice Ao54 y193.length co54)) (fun _ hk => hk.1)⟩
       rw [← hW_] at n1_
       replace BK165 := bW hW_ BK165
       replace BK166 := bX hW_ 43 #[.int .i64 11, .int .i64 2, .slice Ao54 y193.length co54] BK166
       (try clear HO_3)
       (try clear HO195)
       have HO_3 := n0_
       clear n0_
       have HO195 := n1_
       clear n1_
       replace HB := zW hW_ HB
       rw [← hW_]
       clear hW_
       replace HO_3 := Aside0.mk (Kd.R_drew HO_3.out)
       replace HO195 := Aside0.mk (Kd.S_drew HO195.out)
       replace BK165 := Aside0.mk (blk_drew BK165.out)
       replace BK166 := Aside0.mk (blk_drew BK166.out)
       replace HB := Aside0.mk (below_drew1 HB.out)
       refine start_ (n := 14) (S := fun w' => SQ3 w' gb166 (.int .i64 11) (.int .i64 2) (.slice Ao54 y193.length co54)) (ds := [13]) #[false, false, false, false, false, false, false, false, false, false, false, false, false, false] (by kernel_rfl) rfl rfl (bT3 BK166) (fun hHeld => ?_); refine with_tabW impl_CountSystem.tab12 impl_CountSystem.bits12 (fun HT_ HW_ => ?_)
       generalize w56.drew = w57 at HO_3 HO195 BK165 BK166 HB hHeld ⊢
       refine pI 0 (some 59) HT_.out ?_
       refine pI 2 (some 61) HT_.out ?_
       refine pI 5 (some 64) HT_.out ?_
       refine pI 6 (some 65) HT_.out ?_
       refine tI3 1 (some 60) HT_.out HW_.out hHeld ?_
       refine tI3 3 (some 62) HT_.out HW_.out hHeld ?_
       refine tI3 7 (some 66) HT_.out HW_.out hHeld ?_
       refine oI 4 (some 63) HT_.out (fun K hK => ?_)
       refine gO Try.func67 #[.int .i64 11, .int .i64 0] ?_
       with_reducible refine (impl_unit.calls 11 0 t196 _ A44.out).mono ?_
       rintro e w58 ⟨v197, rfl, ho0, hb⟩
       refine ⟨_, rfl, ?_⟩
       replace HO195 := Aside0.mk (Kd.S_elder' (by (with_reducible repeat (first | apply Kd.S_alloc | apply Kd.S_drewN | apply Kd.S_drew)); exact HO195.out) (Kd.R_base ho0) hb)
       have HO198 := Aside0.mk (Kd.R_lower (Kd.R_new' ho0 (Kd.R_lt (rP HO_3))) (below_size (bZ HB)))
       replace HO_3 := Aside0.mk (Kd.R_elder' (rP HO_3) (Kd.R_base ho0) hb)
       replace BK165 := bB BK165 hb
       replace BK166 := bB BK166 hb
       replace HB := bS HB hb
       (try clear hb)
       (try clear ho0)
       refine hK.out _ _ (bT3 BK166) (fun hHeld => ?_)
       clear hK K
       refine nO (some 63) ?_
       refine oI 8 (some 67) HT_.out (fun K hK => ?_)
       refine gO Try.func67 #[.int .i64 11, .int .i64 2] ?_
       with_reducible refine (impl_unit.calls 11 2 t199 _ A45.out).mono ?_
       rintro e w59 ⟨v200, rfl, ho0, hb⟩
       refine ⟨_, rfl, ?_⟩
       replace HO195 := Aside0.mk (Kd.S_elder' (by (with_reducible repeat (first | apply Kd.S_alloc | apply Kd.S_drewN | apply Kd.S_drew)); exact HO195.out) (Kd.R_base ho0) hb)
       have HO201 := Aside0.mk (Kd.R_lower (Kd.R_new' (Kd.R_new' ho0 (Kd.R_lt (rP HO_3))) (Kd.R_lt (rP HO198))) (below_size (bZ HB)))
       replace HO_3 := Aside0.mk (Kd.R_elder' (rP HO_3) (Kd.R_base ho0) hb)
       replace HO198 := Aside0.mk (Kd.R_elder' (rP HO198) (Kd.R_base ho0) hb)
       replace BK165 := bB BK165 hb
       replace BK166 := bB BK166 hb
       replace HB := bS HB hb
       (try clear hb)
       (try clear ho0)
       obtain ⟨Ao60, co60, eo60⟩ := Kd.R_slice HO201.out
       (first | subst eo60 | (injection eo60 with f1_ f2_ f3_; have f4_ := f1_.symm; have f5_ := f3_.symm; clear f1_ f2_ f3_; subst f4_; subst f5_))
       obtain ⟨Ao61, co61, eo61⟩ := Kd.R_slice HO_3.out
       (first | subst eo61 | (injection eo61 with f1_ f2_ f3_; have f4_ := f1_.symm; have f5_ := f3_.symm; clear f1_ f2_ f3_; subst f4_; subst f5_))
       obtain ⟨Ao62, co62, eo62⟩ := Kd.R_slice HO198.out
       (first | subst eo62 | (injection eo62 with f1_ f2_ f3_; have f4_ := f1_.symm; have f5_ := f3_.symm; clear f1_ f2_ f3_; subst f4_; subst f5_))
       refine hK.out _ _ (bT3 BK166) (fun hHeld => ?_)
       clear hK K
       refine nO (some 67) ?_
       refine pI 9 (some 68) HT_.out ?_
       refine oI 10 (some 69) HT_.out (fun K hK => ?_)
       refine value_ (w1 := ?_) (v := ?_) (by rfl) rfl ?_ ?_
       rotate_left 2
       ·go_simp
        constructor
        ·rfl
        ·rfl
       refine hK.out _ _ ⟨(blk_cell (blk_alloc BK166.out _) 0).trans rfl, (blk_cell (blk_alloc BK166.out _) 1).trans rfl, (blk_cell (blk_alloc BK166.out _) 2).trans rfl⟩ (fun hHeld => ?_)
       clear hK K
       refine nO (some 69) ?_
       refine oI 11 (some 70) HT_.out (fun K hK => ?_)
       refine Kd.S_append_step k75 (w0 := w) w.heap.size (by rfl) (.tmp 60) (.tmp 69) 41 75 (.agg #[(.slice none 0 0), (.slice none 0 0), (.slice none 0 0)]) 72 rfl Try.underlying41 info75 rfl (by decide) (by omega) (.slice Ao54 y193.length co54) y193 (⟨t196, x3_1, t199⟩ : S75) [.slice Ao62 t196.length co62, .slice Ao61 x3_1.length co61, .slice Ao60 t199.length co60] (fun _ => True) (fun k_ => some k_ = (.slice Ao62 t196.length co62 : Value).ownBlock ∨ some k_ = (.slice Ao61 x3_1.length co61 : Value).ownBlock ∨ some k_ = (.slice Ao60 t199.length co60 : Value).ownBlock) rfl rfl ?aP (fun k_ hk_ => hk_.elim (fun h_ => ((Kd.R_mono (ok' := fun k_ => ((fun _ => True)) k_ ∧ some k_ ≠ (.slice Ao54 y193.length co54 : Value).ownBlock) (Kd.R_apart' (HO198.out) (Kd.S_typed HO195.out) (by decide)) (fun k_ hk => ⟨trivial, hk.2⟩))).1 k_ h_.symm) (fun h_ => h_.elim (fun h_ => ((Kd.R_mono (ok' := fun k_ => ((fun _ => True)) k_ ∧ some k_ ≠ (.slice Ao54 y193.length co54 : Value).ownBlock) (Kd.R_apart' (HO_3.out) (Kd.S_typed HO195.out) (by decide)) (fun k_ hk => ⟨trivial, hk.2⟩))).1 k_ h_.symm) (fun h_ => ((Kd.R_mono (ok' := fun k_ => ((fun _ => True)) k_ ∧ some k_ ≠ (.slice Ao54 y193.length co54 : Value).ownBlock) (Kd.R_apart' (HO201.out) (Kd.S_typed HO195.out) (by decide)) (fun k_ hk => ⟨trivial, hk.2⟩))).1 k_ h_.symm))) ?aF ?aO ?aB ?aS ?aL ?_
       (case aP => exact k75_mkM _ _ _ (⟨t196, x3_1, t199⟩ : S75) (Kd.R_mono (Kd.R_tight rfl (Kd.R_mono (ok' := fun k_ => ((fun _ => True)) k_ ∧ some k_ ≠ (.slice Ao54 y193.length co54 : Value).ownBlock) (Kd.R_apart' (HO198.out) (Kd.S_typed HO195.out) (by decide)) (fun k_ hk => ⟨trivial, hk.2⟩))) (fun _ h_ => Or.inl h_)) (Kd.R_mono (Kd.R_tight rfl (Kd.R_mono (ok' := fun k_ => ((fun _ => True)) k_ ∧ some k_ ≠ (.slice Ao54 y193.length co54 : Value).ownBlock) (Kd.R_apart' (HO_3.out) (Kd.S_typed HO195.out) (by decide)) (fun k_ hk => ⟨trivial, hk.2⟩))) (fun _ h_ => Or.inr (Or.inl h_))) (Kd.R_mono (Kd.R_tight rfl (Kd.R_mono (ok' := fun k_ => ((fun _ => True)) k_ ∧ some k_ ≠ (.slice Ao54 y193.length co54 : Value).ownBlock) (Kd.R_apart' (HO201.out) (Kd.S_typed HO195.out) (by decide)) (fun k_ hk => ⟨trivial, hk.2⟩))) (fun _ h_ => Or.inr (Or.inr (h_)))) (fun k_ e_ e2_ => by first | (have h_ := HO198.out.1 k_ e_; first | exact h_ e2_.symm | exact h_.1 e2_.symm | exact h_.2 e2_.symm | exact h_.1.1 e2_.symm | exact h_.2.1 e2_.symm | exact h_.1.2 e2_.symm | exact h_.2.2 e2_.symm | exact h_.1.1.1 e2_.symm | exact h_.2.1.1 e2_.symm | exact h_.1.2.1 e2_.symm | exact h_.2.2.1 e2_.symm | exact h_.1.1.2 e2_.symm | exact h_.2.1.2 e2_.symm | exact h_.1.2.2 e2_.symm | exact h_.2.2.2 e2_.symm | exact h_.1.1.1.1 e2_.symm | exact h_.2.1.1.1 e2_.symm | exact h_.1.2.1.1 e2_.symm | exact h_.2.2.1.1 e2_.symm | exact h_.1.1.2.1 e2_.symm | exact h_.2.1.2.1 e2_.symm | exact h_.1.2.2.1 e2_.symm | exact h_.2.2.2.1 e2_.symm | exact h_.1.1.1.2 e2_.symm | exact h_.2.1.1.2 e2_.symm | exact h_.1.2.1.2 e2_.symm | exact h_.2.2.1.2 e2_.symm | exact h_.1.1.2.2 e2_.symm | exact h_.2.1.2.2 e2_.symm | exact h_.1.2.2.2 e2_.symm | exact h_.2.2.2.2 e2_.symm | exact h_.1.1.1.1.1 e2_.symm | exact h_.2.1.1.1.1 e2_.symm | exact h_.1.2.1.1.1 e2_.symm | exact h_.2.2.1.1.1 e2_.symm | exact h_.1.1.2.1.1 e2_.symm | exact h_.2.1.2.1.1 e2_.symm | exact h_.1.2.2.1.1 e2_.symm | exact h_.2.2.2.1.1 e2_.symm | exact h_.1.1.1.2.1 e2_.symm | exact h_.2.1.1.2.1 e2_.symm | exact h_.1.2.1.2.1 e2_.symm | exact h_.2.2.1.2.1 e2_.symm | exact h_.1.1.2.2.1 e2_.symm | exact h_.2.1.2.2.1 e2_.symm | exact h_.1.2.2.2.1 e2_.symm | exact h_.2.2.2.2.1 e2_.symm | exact h_.1.1.1.1.2 e2_.symm | exact h_.2.1.1.1.2 e2_.symm | exact h_.1.2.1.1.2 e2_.symm | exact h_.2.2.1.1.2 e2_.symm | exact h_.1.1.2.1.2 e2_.symm | exact h_.2.1.2.1.2 e2_.symm | exact h_.1.2.2.1.2 e2_.symm | exact h_.2.2.2.1.2 e2_.symm | exact h_.1.1.1.2.2 e2_.symm | exact h_.2.1.1.2.2 e2_.symm | exact h_.1.2.1.2.2 e2_.symm | exact h_.2.2.1.2.2 e2_.symm | exact h_.1.1.2.2.2 e2_.symm | exact h_.2.1.2.2.2 e2_.symm | exact h_.1.2.2.2.2 e2_.symm | exact h_.2.2.2.2.2 e2_.symm | exact h_.1.1.1.1.1.1 e2_.symm | exact h_.2.1.1.1.1.1 e2_.symm | exact h_.1.2.1.1.1.1 e2_.symm | exact h_.2.2.1.1.1.1 e2_.symm | exact h_.1.1.2.1.1.1 e2_.symm | exact h_.2.1.2.1.1.1 e2_.symm | exact h_.1.2.2.1.1.1 e2_.symm | exact h_.2.2.2.1.1.1 e2_.symm | exact h_.1.1.1.2.1.1 e2_.symm | exact h_.2.1.1.2.1.1 e2_.symm | exact h_.1.2.1.2.1.1 e2_.symm | exact h_.2.2.1.2.1.1 e2_.symm | exact h_.1.1.2.2.1.1 e2_.symm | exact h_.2.1.2.2.1.1 e2_.symm | exact h_.1.2.2.2.1.1 e2_.symm | exact h_.2.2.2.2.1.1 e2_.symm | exact h_.1.1.1.1.2.1 e2_.symm | exact h_.2.1.1.1.2.1 e2_.symm | exact h_.1.2.1.1.2.1 e2_.symm | exact h_.2.2.1.1.2.1 e2_.symm | exact h_.1.1.2.1.2.1 e2_.symm | exact h_.2.1.2.1.2.1 e2_.symm | exact h_.1.2.2.1.2.1 e2_.symm | exact h_.2.2.2.1.2.1 e2_.symm | exact h_.1.1.1.2.2.1 e2_.symm | exact h_.2.1.1.2.2.1 e2_.symm | exact h_.1.2.1.2.2.1 e2_.symm | exact h_.2.2.1.2.2.1 e2_.symm | exact h_.1.1.2.2.2.1 e2_.symm | exact h_.2.1.2.2.2.1 e2_.symm | exact h_.1.2.2.2.2.1 e2_.symm | exact h_.2.2.2.2.2.1 e2_.symm | exact h_.1.1.1.1.1.2 e2_.symm | exact h_.2.1.1.1.1.2 e2_.symm | exact h_.1.2.1.1.1.2 e2_.symm | exact h_.2.2.1.1.1.2 e2_.symm | exact h_.1.1.2.1.1.2 e2_.symm | exact h_.2.1.2.1.1.2 e2_.symm | exact h_.1.2.2.1.1.2 e2_.symm | exact h_.2.2.2.1.1.2 e2_.symm | exact h_.1.1.1.2.1.2 e2_.symm | exact h_.2.1.1.2.1.2 e2_.symm | exact h_.1.2.1.2.1.2 e2_.symm | exact h_.2.2.1.2.1.2 e2_.symm | exact h_.1.1.2.2.1.2 e2_.symm | exact h_.2.1.2.2.1.2 e2_.symm | exact h_.1.2.2.2.1.2 e2_.symm | exact h_.2.2.2.2.1.2 e2_.symm | exact h_.1.1.1.1.2.2 e2_.symm | exact h_.2.1.1.1.2.2 e2_.symm | exact h_.1.2.1.1.2.2 e2_.symm | exact h_.2.2.1.1.2.2 e2_.symm | exact h_.1.1.2.1.2.2 e2_.symm | exact h_.2.1.2.1.2.2 e2_.symm | exact h_.1.2.2.1.2.2 e2_.symm | exact h_.2.2.2.1.2.2 e2_.symm | exact h_.1.1.1.2.2.2 e2_.symm | exact h_.2.1.1.2.2.2 e2_.symm | exact h_.1.2.1.2.2.2 e2_.symm | exact h_.2.2.1.2.2.2 e2_.symm | exact h_.1.1.2.2.2.2 e2_.symm | exact h_.2.1.2.2.2.2 e2_.symm | exact h_.1.2.2.2.2.2 e2_.symm | exact h_.2.2.2.2.2.2 e2_.symm) | (have h_ := HO_3.out.1 k_ e2_; first | exact h_ e_.symm | exact h_.1 e_.symm | exact h_.2 e_.symm | exact h_.1.1 e_.symm | exact h_.2.1 e_.symm | exact h_.1.2 e_.symm | exact h_.2.2 e_.symm | exact h_.1.1.1 e_.symm | exact h_.2.1.1 e_.symm | exact h_.1.2.1 e_.symm | exact h_.2.2.1 e_.symm | exact h_.1.1.2 e_.symm | exact h_.2.1.2 e_.symm | exact h_.1.2.2 e_.symm | exact h_.2.2.2 e_.symm | exact h_.1.1.1.1 e_.symm | exact h_.2.1.1.1 e_.symm | exact h_.1.2.1.1 e_.symm | exact h_.2.2.1.1 e_.symm | exact h_.1.1.2.1 e_.symm | exact h_.2.1.2.1 e_.symm | exact h_.1.2.2.1 e_.symm | exact h_.2.2.2.1 e_.symm | exact h_.1.1.1.2 e_.symm | exact h_.2.1.1.2 e_.symm | exact h_.1.2.1.2 e_.symm | exact h_.2.2.1.2 e_.symm | exact h_.1.1.2.2 e_.symm | exact h_.2.1.2.2 e_.symm | exact h_.1.2.2.2 e_.symm | exact h_.2.2.2.2 e_.symm | exact h_.1.1.1.1.1 e_.symm | exact h_.2.1.1.1.1 e_.symm | exact h_.1.2.1.1.1 e_.symm | exact h_.2.2.1.1.1 e_.symm | exact h_.1.1.2.1.1 e_.symm | exact h_.2.1.2.1.1 e_.symm | exact h_.1.2.2.1.1 e_.symm | exact h_.2.2.2.1.1 e_.symm | exact h_.1.1.1.2.1 e_.symm | exact h_.2.1.1.2.1 e_.symm | exact h_.1.2.1.2.1 e_.symm | exact h_.2.2.1.2.1 e_.symm | exact h_.1.1.2.2.1 e_.symm | exact h_.2.1.2.2.1 e_.symm | exact h_.1.2.2.2.1 e_.symm | exact h_.2.2.2.2.1 e_.symm | exact h_.1.1.1.1.2 e_.symm | exact h_.2.1.1.1.2 e_.symm | exact h_.1.2.1.1.2 e_.symm | exact h_.2.2.1.1.2 e_.symm | exact h_.1.1.2.1.2 e_.symm | exact h_.2.1.2.1.2 e_.symm | exact h_.1.2.2.1.2 e_.symm | exact h_.2.2.2.1.2 e_.symm | exact h_.1.1.1.2.2 e_.symm | exact h_.2.1.1.2.2 e_.symm | exact h_.1.2.1.2.2 e_.symm | exact h_.2.2.1.2.2 e_.symm | exact h_.1.1.2.2.2 e_.symm | exact h_.2.1.2.2.2 e_.symm | exact h_.1.2.2.2.2 e_.symm | exact h_.2.2.2.2.2 e_.symm | exact h_.1.1.1.1.1.1 e_.symm | exact h_.2.1.1.1.1.1 e_.symm | exact h_.1.2.1.1.1.1 e_.symm | exact h_.2.2.1.1.1.1 e_.symm | exact h_.1.1.2.1.1.1 e_.symm | exact h_.2.1.2.1.1.1 e_.symm | exact h_.1.2.2.1.1.1 e_.symm | exact h_.2.2.2.1.1.1 e_.symm | exact h_.1.1.1.2.1.1 e_.symm | exact h_.2.1.1.2.1.1 e_.symm | exact h_.1.2.1.2.1.1 e_.symm | exact h_.2.2.1.2.1.1 e_.symm | exact h_.1.1.2.2.1.1 e_.symm | exact h_.2.1.2.2.1.1 e_.symm | exact h_.1.2.2.2.1.1 e_.symm | exact h_.2.2.2.2.1.1 e_.symm | exact h_.1.1.1.1.2.1 e_.symm | exact h_.2.1.1.1.2.1 e_.symm | exact h_.1.2.1.1.2.1 e_.symm | exact h_.2.2.1.1.2.1 e_.symm | exact h_.1.1.2.1.2.1 e_.symm | exact h_.2.1.2.1.2.1 e_.symm | exact h_.1.2.2.1.2.1 e_.symm | exact h_.2.2.2.1.2.1 e_.symm | exact h_.1.1.1.2.2.1 e_.symm | exact h_.2.1.1.2.2.1 e_.symm | exact h_.1.2.1.2.2.1 e_.symm | exact h_.2.2.1.2.2.1 e_.symm | exact h_.1.1.2.2.2.1 e_.symm | exact h_.2.1.2.2.2.1 e_.symm | exact h_.1.2.2.2.2.1 e_.symm | exact h_.2.2.2.2.2.1 e_.symm | exact h_.1.1.1.1.1.2 e_.symm | exact h_.2.1.1.1.1.2 e_.symm | exact h_.1.2.1.1.1.2 e_.symm | exact h_.2.2.1.1.1.2 e_.symm | exact h_.1.1.2.1.1.2 e_.symm | exact h_.2.1.2.1.1.2 e_.symm | exact h_.1.2.2.1.1.2 e_.symm | exact h_.2.2.2.1.1.2 e_.symm | exact h_.1.1.1.2.1.2 e_.symm | exact h_.2.1.1.2.1.2 e_.symm | exact h_.1.2.1.2.1.2 e_.symm | exact h_.2.2.1.2.1.2 e_.symm | exact h_.1.1.2.2.1.2 e_.symm | exact h_.2.1.2.2.1.2 e_.symm | exact h_.1.2.2.2.1.2 e_.symm | exact h_.2.2.2.2.1.2 e_.symm | exact h_.1.1.1.1.2.2 e_.symm | exact h_.2.1.1.1.2.2 e_.symm | exact h_.1.2.1.1.2.2 e_.symm | exact h_.2.2.1.1.2.2 e_.symm | exact h_.1.1.2.1.2.2 e_.symm | exact h_.2.1.2.1.2.2 e_.symm | exact h_.1.2.2.1.2.2 e_.symm | exact h_.2.2.2.1.2.2 e_.symm | exact h_.1.1.1.2.2.2 e_.symm | exact h_.2.1.1.2.2.2 e_.symm | exact h_.1.2.1.2.2.2 e_.symm | exact h_.2.2.1.2.2.2 e_.symm | exact h_.1.1.2.2.2.2 e_.symm | exact h_.2.1.2.2.2.2 e_.symm | exact h_.1.2.2.2.2.2 e_.symm | exact h_.2.2.2.2.2.2 e_.symm)) (fun k_ e_ e2_ => by first | (have h_ := HO198.out.1 k_ e_; first | exact h_ e2_.symm | exact h_.1 e2_.symm | exact h_.2 e2_.symm | exact h_.1.1 e2_.symm | exact h_.2.1 e2_.symm | exact h_.1.2 e2_.symm | exact h_.2.2 e2_.symm | exact h_.1.1.1 e2_.symm | exact h_.2.1.1 e2_.symm | exact h_.1.2.1 e2_.symm | exact h_.2.2.1 e2_.symm | exact h_.1.1.2 e2_.symm | exact h_.2.1.2 e2_.symm | exact h_.1.2.2 e2_.symm | exact h_.2.2.2 e2_.symm | exact h_.1.1.1.1 e2_.symm | exact h_.2.1.1.1 e2_.symm | exact h_.1.2.1.1 e2_.symm | exact h_.2.2.1.1 e2_.symm | exact h_.1.1.2.1 e2_.symm | exact h_.2.1.2.1 e2_.symm | exact h_.1.2.2.1 e2_.symm | exact h_.2.2.2.1 e2_.symm | exact h_.1.1.1.2 e2_.symm | exact h_.2.1.1.2 e2_.symm | exact h_.1.2.1.2 e2_.symm | exact h_.2.2.1.2 e2_.symm | exact h_.1.1.2.2 e2_.symm | exact h_.2.1.2.2 e2_.symm | exact h_.1.2.2.2 e2_.symm | exact h_.2.2.2.2 e2_.symm | exact h_.1.1.1.1.1 e2_.symm | exact h_.2.1.1.1.1 e2_.symm | exact h_.1.2.1.1.1 e2_.symm | exact h_.2.2.1.1.1 e2_.symm | exact h_.1.1.2.1.1 e2_.symm | exact h_.2.1.2.1.1 e2_.symm | exact h_.1.2.2.1.1 e2_.symm | exact h_.2.2.2.1.1 e2_.symm | exact h_.1.1.1.2.1 e2_.symm | exact h_.2.1.1.2.1 e2_.symm | exact h_.1.2.1.2.1 e2_.symm | exact h_.2.2.1.2.1 e2_.symm | exact h_.1.1.2.2.1 e2_.symm | exact h_.2.1.2.2.1 e2_.symm | exact h_.1.2.2.2.1 e2_.symm | exact h_.2.2.2.2.1 e2_.symm | exact h_.1.1.1.1.2 e2_.symm | exact h_.2.1.1.1.2 e2_.symm | exact h_.1.2.1.1.2 e2_.symm | exact h_.2.2.1.1.2 e2_.symm | exact h_.1.1.2.1.2 e2_.symm | exact h_.2.1.2.1.2 e2_.symm | exact h_.1.2.2.1.2 e2_.symm | exact h_.2.2.2.1.2 e2_.symm | exact h_.1.1.1.2.2 e2_.symm | exact h_.2.1.1.2.2 e2_.symm | exact h_.1.2.1.2.2 e2_.symm | exact h_.2.2.1.2.2 e2_.symm | exact h_.1.1.2.2.2 e2_.symm | exact h_.2.1.2.2.2 e2_.symm | exact h_.1.2.2.2.2 e2_.symm | exact h_.2.2.2.2.2 e2_.symm | exact h_.1.1.1.1.1.1 e2_.symm | exact h_.2.1.1.1.1.1 e2_.symm | exact h_.1.2.1.1.1.1 e2_.symm | exact h_.2.2.1.1.1.1 e2_.symm | exact h_.1.1.2.1.1.1 e2_.symm | exact h_.2.1.2.1.1.1 e2_.symm | exact h_.1.2.2.1.1.1 e2_.symm | exact h_.2.2.2.1.1.1 e2_.symm | exact h_.1.1.1.2.1.1 e2_.symm | exact h_.2.1.1.2.1.1 e2_.symm | exact h_.1.2.1.2.1.1 e2_.symm | exact h_.2.2.1.2.1.1 e2_.symm | exact h_.1.1.2.2.1.1 e2_.symm | exact h_.2.1.2.2.1.1 e2_.symm | exact h_.1.2.2.2.1.1 e2_.symm | exact h_.2.2.2.2.1.1 e2_.symm | exact h_.1.1.1.1.2.1 e2_.symm | exact h_.2.1.1.1.2.1 e2_.symm | exact h_.1.2.1.1.2.1 e2_.symm | exact h_.2.2.1.1.2.1 e2_.symm | exact h_.1.1.2.1.2.1 e2_.symm | exact h_.2.1.2.1.2.1 e2_.symm | exact h_.1.2.2.1.2.1 e2_.symm | exact h_.2.2.2.1.2.1 e2_.symm | exact h_.1.1.1.2.2.1 e2_.symm | exact h_.2.1.1.2.2.1 e2_.symm | exact h_.1.2.1.2.2.1 e2_.symm | exact h_.2.2.1.2.2.1 e2_.symm | exact h_.1.1.2.2.2.1 e2_.symm | exact h_.2.1.2.2.2.1 e2_.symm | exact h_.1.2.2.2.2.1 e2_.symm | exact h_.2.2.2.2.2.1 e2_.symm | exact h_.1.1.1.1.1.2 e2_.symm | exact h_.2.1.1.1.1.2 e2_.symm | exact h_.1.2.1.1.1.2 e2_.symm | exact h_.2.2.1.1.1.2 e2_.symm | exact h_.1.1.2.1.1.2 e2_.symm | exact h_.2.1.2.1.1.2 e2_.symm | exact h_.1.2.2.1.1.2 e2_.symm | exact h_.2.2.2.1.1.2 e2_.symm | exact h_.1.1.1.2.1.2 e2_.symm | exact h_.2.1.1.2.1.2 e2_.symm | exact h_.1.2.1.2.1.2 e2_.symm | exact h_.2.2.1.2.1.2 e2_.symm | exact h_.1.1.2.2.1.2 e2_.symm | exact h_.2.1.2.2.1.2 e2_.symm | exact h_.1.2.2.2.1.2 e2_.symm | exact h_.2.2.2.2.1.2 e2_.symm | exact h_.1.1.1.1.2.2 e2_.symm | exact h_.2.1.1.1.2.2 e2_.symm | exact h_.1.2.1.1.2.2 e2_.symm | exact h_.2.2.1.1.2.2 e2_.symm | exact h_.1.1.2.1.2.2 e2_.symm | exact h_.2.1.2.1.2.2 e2_.symm | exact h_.1.2.2.1.2.2 e2_.symm | exact h_.2.2.2.1.2.2 e2_.symm | exact h_.1.1.1.2.2.2 e2_.symm | exact h_.2.1.1.2.2.2 e2_.symm | exact h_.1.2.1.2.2.2 e2_.symm | exact h_.2.2.1.2.2.2 e2_.symm | exact h_.1.1.2.2.2.2 e2_.symm | exact h_.2.1.2.2.2.2 e2_.symm | exact h_.1.2.2.2.2.2 e2_.symm | exact h_.2.2.2.2.2.2 e2_.symm) | (have h_ := HO201.out.1 k_ e2_; first | exact h_ e_.symm | exact h_.1 e_.symm | exact h_.2 e_.symm | exact h_.1.1 e_.symm | exact h_.2.1 e_.symm | exact h_.1.2 e_.symm | exact h_.2.2 e_.symm | exact h_.1.1.1 e_.symm | exact h_.2.1.1 e_.symm | exact h_.1.2.1 e_.symm | exact h_.2.2.1 e_.symm | exact h_.1.1.2 e_.symm | exact h_.2.1.2 e_.symm | exact h_.1.2.2 e_.symm | exact h_.2.2.2 e_.symm | exact h_.1.1.1.1 e_.symm | exact h_.2.1.1.1 e_.symm | exact h_.1.2.1.1 e_.symm | exact h_.2.2.1.1 e_.symm | exact h_.1.1.2.1 e_.symm | exact h_.2.1.2.1 e_.symm | exact h_.1.2.2.1 e_.symm | exact h_.2.2.2.1 e_.symm | exact h_.1.1.1.2 e_.symm | exact h_.2.1.1.2 e_.symm | exact h_.1.2.1.2 e_.symm | exact h_.2.2.1.2 e_.symm | exact h_.1.1.2.2 e_.symm | exact h_.2.1.2.2 e_.symm | exact h_.1.2.2.2 e_.symm | exact h_.2.2.2.2 e_.symm | exact h_.1.1.1.1.1 e_.symm | exact h_.2.1.1.1.1 e_.symm | exact h_.1.2.1.1.1 e_.symm | exact h_.2.2.1.1.1 e_.symm | exact h_.1.1.2.1.1 e_.symm | exact h_.2.1.2.1.1 e_.symm | exact h_.1.2.2.1.1 e_.symm | exact h_.2.2.2.1.1 e_.symm | exact h_.1.1.1.2.1 e_.symm | exact h_.2.1.1.2.1 e_.symm | exact h_.1.2.1.2.1 e_.symm | exact h_.2.2.1.2.1 e_.symm | exact h_.1.1.2.2.1 e_.symm | exact h_.2.1.2.2.1 e_.symm | exact h_.1.2.2.2.1 e_.symm | exact h_.2.2.2.2.1 e_.symm | exact h_.1.1.1.1.2 e_.symm | exact h_.2.1.1.1.2 e_.symm | exact h_.1.2.1.1.2 e_.symm | exact h_.2.2.1.1.2 e_.symm | exact h_.1.1.2.1.2 e_.symm | exact h_.2.1.2.1.2 e_.symm | exact h_.1.2.2.1.2 e_.symm | exact h_.2.2.2.1.2 e_.symm | exact h_.1.1.1.2.2 e_.symm | exact h_.2.1.1.2.2 e_.symm | exact h_.1.2.1.2.2 e_.symm | exact h_.2.2.1.2.2 e_.symm | exact h_.1.1.2.2.2 e_.symm | exact h_.2.1.2.2.2 e_.symm | exact h_.1.2.2.2.2 e_.symm | exact h_.2.2.2.2.2 e_.symm | exact h_.1.1.1.1.1.1 e_.symm | exact h_.2.1.1.1.1.1 e_.symm | exact h_.1.2.1.1.1.1 e_.symm | exact h_.2.2.1.1.1.1 e_.symm | exact h_.1.1.2.1.1.1 e_.symm | exact h_.2.1.2.1.1.1 e_.symm | exact h_.1.2.2.1.1.1 e_.symm | exact h_.2.2.2.1.1.1 e_.symm | exact h_.1.1.1.2.1.1 e_.symm | exact h_.2.1.1.2.1.1 e_.symm | exact h_.1.2.1.2.1.1 e_.symm | exact h_.2.2.1.2.1.1 e_.symm | exact h_.1.1.2.2.1.1 e_.symm | exact h_.2.1.2.2.1.1 e_.symm | exact h_.1.2.2.2.1.1 e_.symm | exact h_.2.2.2.2.1.1 e_.symm | exact h_.1.1.1.1.2.1 e_.symm | exact h_.2.1.1.1.2.1 e_.symm | exact h_.1.2.1.1.2.1 e_.symm | exact h_.2.2.1.1.2.1 e_.symm | exact h_.1.1.2.1.2.1 e_.symm | exact h_.2.1.2.1.2.1 e_.symm | exact h_.1.2.2.1.2.1 e_.symm | exact h_.2.2.2.1.2.1 e_.symm | exact h_.1.1.1.2.2.1 e_.symm | exact h_.2.1.1.2.2.1 e_.symm | exact h_.1.2.1.2.2.1 e_.symm | exact h_.2.2.1.2.2.1 e_.symm | exact h_.1.1.2.2.2.1 e_.symm | exact h_.2.1.2.2.2.1 e_.symm | exact h_.1.2.2.2.2.1 e_.symm | exact h_.2.2.2.2.2.1 e_.symm | exact h_.1.1.1.1.1.2 e_.symm | exact h_.2.1.1.1.1.2 e_.symm | exact h_.1.2.1.1.1.2 e_.symm | exact h_.2.2.1.1.1.2 e_.symm | exact h_.1.1.2.1.1.2 e_.symm | exact h_.2.1.2.1.1.2 e_.symm | exact h_.1.2.2.1.1.2 e_.symm | exact h_.2.2.2.1.1.2 e_.symm | exact h_.1.1.1.2.1.2 e_.symm | exact h_.2.1.1.2.1.2 e_.symm | exact h_.1.2.1.2.1.2 e_.symm | exact h_.2.2.1.2.1.2 e_.symm | exact h_.1.1.2.2.1.2 e_.symm | exact h_.2.1.2.2.1.2 e_.symm | exact h_.1.2.2.2.1.2 e_.symm | exact h_.2.2.2.2.1.2 e_.symm | exact h_.1.1.1.1.2.2 e_.symm | exact h_.2.1.1.1.2.2 e_.symm | exact h_.1.2.1.1.2.2 e_.symm | exact h_.2.2.1.1.2.2 e_.symm | exact h_.1.1.2.1.2.2 e_.symm | exact h_.2.1.2.1.2.2 e_.symm | exact h_.1.2.2.1.2.2 e_.symm | exact h_.2.2.2.1.2.2 e_.symm | exact h_.1.1.1.2.2.2 e_.symm | exact h_.2.1.1.2.2.2 e_.symm | exact h_.1.2.1.2.2.2 e_.symm | exact h_.2.2.1.2.2.2 e_.symm | exact h_.1.1.2.2.2.2 e_.symm | exact h_.2.1.2.2.2.2 e_.symm | exact h_.1.2.2.2.2.2 e_.symm | exact h_.2.2.2.2.2.2 e_.symm)) (fun k_ e_ e2_ => by first | (have h_ := HO_3.out.1 k_ e_; first | exact h_ e2_.symm | exact h_.1 e2_.symm | exact h_.2 e2_.symm | exact h_.1.1 e2_.symm | exact h_.2.1 e2_.symm | exact h_.1.2 e2_.symm | exact h_.2.2 e2_.symm | exact h_.1.1.1 e2_.symm | exact h_.2.1.1 e2_.symm | exact h_.1.2.1 e2_.symm | exact h_.2.2.1 e2_.symm | exact h_.1.1.2 e2_.symm | exact h_.2.1.2 e2_.symm | exact h_.1.2.2 e2_.symm | exact h_.2.2.2 e2_.symm | exact h_.1.1.1.1 e2_.symm | exact h_.2.1.1.1 e2_.symm | exact h_.1.2.1.1 e2_.symm | exact h_.2.2.1.1 e2_.symm | exact h_.1.1.2.1 e2_.symm | exact h_.2.1.2.1 e2_.symm | exact h_.1.2.2.1 e2_.symm | exact h_.2.2.2.1 e2_.symm | exact h_.1.1.1.2 e2_.symm | exact h_.2.1.1.2 e2_.symm | exact h_.1.2.1.2 e2_.symm | exact h_.2.2.1.2 e2_.symm | exact h_.1.1.2.2 e2_.symm | exact h_.2.1.2.2 e2_.symm | exact h_.1.2.2.2 e2_.symm | exact h_.2.2.2.2 e2_.symm | exact h_.1.1.1.1.1 e2_.symm | exact h_.2.1.1.1.1 e2_.symm | exact h_.1.2.1.1.1 e2_.symm | exact h_.2.2.1.1.1 e2_.symm | exact h_.1.1.2.1.1 e2_.symm | exact h_.2.1.2.1.1 e2_.symm | exact h_.1.2.2.1.1 e2_.symm | exact h_.2.2.2.1.1 e2_.symm | exact h_.1.1.1.2.1 e2_.symm | exact h_.2.1.1.2.1 e2_.symm | exact h_.1.2.1.2.1 e2_.symm | exact h_.2.2.1.2.1 e2_.symm | exact h_.1.1.2.2.1 e2_.symm | exact h_.2.1.2.2.1 e2_.symm | exact h_.1.2.2.2.1 e2_.symm | exact h_.2.2.2.2.1 e2_.symm | exact h_.1.1.1.1.2 e2_.symm | exact h_.2.1.1.1.2 e2_.symm | exact h_.1.2.1.1.2 e2_.symm | exact h_.2.2.1.1.2 e2_.symm | exact h_.1.1.2.1.2 e2_.symm | exact h_.2.1.2.1.2 e2_.symm | exact h_.1.2.2.1.2 e2_.symm | exact h_.2.2.2.1.2 e2_.symm | exact h_.1.1.1.2.2 e2_.symm | exact h_.2.1.1.2.2 e2_.symm | exact h_.1.2.1.2.2 e2_.symm | exact h_.2.2.1.2.2 e2_.symm | exact h_.1.1.2.2.2 e2_.symm | exact h_.2.1.2.2.2 e2_.symm | exact h_.1.2.2.2.2 e2_.symm | exact h_.2.2.2.2.2 e2_.symm | exact h_.1.1.1.1.1.1 e2_.symm | exact h_.2.1.1.1.1.1 e2_.symm | exact h_.1.2.1.1.1.1 e2_.symm | exact h_.2.2.1.1.1.1 e2_.symm | exact h_.1.1.2.1.1.1 e2_.symm | exact h_.2.1.2.1.1.1 e2_.symm | exact h_.1.2.2.1.1.1 e2_.symm | exact h_.2.2.2.1.1.1 e2_.symm | exact h_.1.1.1.2.1.1 e2_.symm | exact h_.2.1.1.2.1.1 e2_.symm | exact h_.1.2.1.2.1.1 e2_.symm | exact h_.2.2.1.2.1.1 e2_.symm | exact h_.1.1.2.2.1.1 e2_.symm | exact h_.2.1.2.2.1.1 e2_.symm | exact h_.1.2.2.2.1.1 e2_.symm | exact h_.2.2.2.2.1.1 e2_.symm | exact h_.1.1.1.1.2.1 e2_.symm | exact h_.2.1.1.1.2.1 e2_.symm | exact h_.1.2.1.1.2.1 e2_.symm | exact h_.2.2.1.1.2.1 e2_.symm | exact h_.1.1.2.1.2.1 e2_.symm | exact h_.2.1.2.1.2.1 e2_.symm | exact h_.1.2.2.1.2.1 e2_.symm | exact h_.2.2.2.1.2.1 e2_.symm | exact h_.1.1.1.2.2.1 e2_.symm | exact h_.2.1.1.2.2.1 e2_.symm | exact h_.1.2.1.2.2.1 e2_.symm | exact h_.2.2.1.2.2.1 e2_.symm | exact h_.1.1.2.2.2.1 e2_.symm | exact h_.2.1.2.2.2.1 e2_.symm | exact h_.1.2.2.2.2.1 e2_.symm | exact h_.2.2.2.2.2.1 e2_.symm | exact h_.1.1.1.1.1.2 e2_.symm | exact h_.2.1.1.1.1.2 e2_.symm | exact h_.1.2.1.1.1.2 e2_.symm | exact h_.2.2.1.1.1.2 e2_.symm | exact h_.1.1.2.1.1.2 e2_.symm | exact h_.2.1.2.1.1.2 e2_.symm | exact h_.1.2.2.1.1.2 e2_.symm | exact h_.2.2.2.1.1.2 e2_.symm | exact h_.1.1.1.2.1.2 e2_.symm | exact h_.2.1.1.2.1.2 e2_.symm | exact h_.1.2.1.2.1.2 e2_.symm | exact h_.2.2.1.2.1.2 e2_.symm | exact h_.1.1.2.2.1.2 e2_.symm | exact h_.2.1.2.2.1.2 e2_.symm | exact h_.1.2.2.2.1.2 e2_.symm | exact h_.2.2.2.2.1.2 e2_.symm | exact h_.1.1.1.1.2.2 e2_.symm | exact h_.2.1.1.1.2.2 e2_.symm | exact h_.1.2.1.1.2.2 e2_.symm | exact h_.2.2.1.1.2.2 e2_.symm | exact h_.1.1.2.1.2.2 e2_.symm | exact h_.2.1.2.1.2.2 e2_.symm | exact h_.1.2.2.1.2.2 e2_.symm | exact h_.2.2.2.1.2.2 e2_.symm | exact h_.1.1.1.2.2.2 e2_.symm | exact h_.2.1.1.2.2.2 e2_.symm | exact h_.1.2.1.2.2.2 e2_.symm | exact h_.2.2.1.2.2.2 e2_.symm | exact h_.1.1.2.2.2.2 e2_.symm | exact h_.2.1.2.2.2.2 e2_.symm | exact h_.1.2.2.2.2.2 e2_.symm | exact h_.2.2.2.2.2.2 e2_.symm) | (have h_ := HO201.out.1 k_ e2_; first | exact h_ e_.symm | exact h_.1 e_.symm | exact h_.2 e_.symm | exact h_.1.1 e_.symm | exact h_.2.1 e_.symm | exact h_.1.2 e_.symm | exact h_.2.2 e_.symm | exact h_.1.1.1 e_.symm | exact h_.2.1.1 e_.symm | exact h_.1.2.1 e_.symm | exact h_.2.2.1 e_.symm | exact h_.1.1.2 e_.symm | exact h_.2.1.2 e_.symm | exact h_.1.2.2 e_.symm | exact h_.2.2.2 e_.symm | exact h_.1.1.1.1 e_.symm | exact h_.2.1.1.1 e_.symm | exact h_.1.2.1.1 e_.symm | exact h_.2.2.1.1 e_.symm | exact h_.1.1.2.1 e_.symm | exact h_.2.1.2.1 e_.symm | exact h_.1.2.2.1 e_.symm | exact h_.2.2.2.1 e_.symm | exact h_.1.1.1.2 e_.symm | exact h_.2.1.1.2 e_.symm | exact h_.1.2.1.2 e_.symm | exact h_.2.2.1.2 e_.symm | exact h_.1.1.2.2 e_.symm | exact h_.2.1.2.2 e_.symm | exact h_.1.2.2.2 e_.symm | exact h_.2.2.2.2 e_.symm | exact h_.1.1.1.1.1 e_.symm | exact h_.2.1.1.1.1 e_.symm | exact h_.1.2.1.1.1 e_.symm | exact h_.2.2.1.1.1 e_.symm | exact h_.1.1.2.1.1 e_.symm | exact h_.2.1.2.1.1 e_.symm | exact h_.1.2.2.1.1 e_.symm | exact h_.2.2.2.1.1 e_.symm | exact h_.1.1.1.2.1 e_.symm | exact h_.2.1.1.2.1 e_.symm | exact h_.1.2.1.2.1 e_.symm | exact h_.2.2.1.2.1 e_.symm | exact h_.1.1.2.2.1 e_.symm | exact h_.2.1.2.2.1 e_.symm | exact h_.1.2.2.2.1 e_.symm | exact h_.2.2.2.2.1 e_.symm | exact h_.1.1.1.1.2 e_.symm | exact h_.2.1.1.1.2 e_.symm | exact h_.1.2.1.1.2 e_.symm | exact h_.2.2.1.1.2 e_.symm | exact h_.1.1.2.1.2 e_.symm | exact h_.2.1.2.1.2 e_.symm | exact h_.1.2.2.1.2 e_.symm | exact h_.2.2.2.1.2 e_.symm | exact h_.1.1.1.2.2 e_.symm | exact h_.2.1.1.2.2 e_.symm | exact h_.1.2.1.2.2 e_.symm | exact h_.2.2.1.2.2 e_.symm | exact h_.1.1.2.2.2 e_.symm | exact h_.2.1.2.2.2 e_.symm | exact h_.1.2.2.2.2 e_.symm | exact h_.2.2.2.2.2 e_.symm | exact h_.1.1.1.1.1.1 e_.symm | exact h_.2.1.1.1.1.1 e_.symm | exact h_.1.2.1.1.1.1 e_.symm | exact h_.2.2.1.1.1.1 e_.symm | exact h_.1.1.2.1.1.1 e_.symm | exact h_.2.1.2.1.1.1 e_.symm | exact h_.1.2.2.1.1.1 e_.symm | exact h_.2.2.2.1.1.1 e_.symm | exact h_.1.1.1.2.1.1 e_.symm | exact h_.2.1.1.2.1.1 e_.symm | exact h_.1.2.1.2.1.1 e_.symm | exact h_.2.2.1.2.1.1 e_.symm | exact h_.1.1.2.2.1.1 e_.symm | exact h_.2.1.2.2.1.1 e_.symm | exact h_.1.2.2.2.1.1 e_.symm | exact h_.2.2.2.2.1.1 e_.symm | exact h_.1.1.1.1.2.1 e_.symm | exact h_.2.1.1.1.2.1 e_.symm | exact h_.1.2.1.1.2.1 e_.symm | exact h_.2.2.1.1.2.1 e_.symm | exact h_.1.1.2.1.2.1 e_.symm | exact h_.2.1.2.1.2.1 e_.symm | exact h_.1.2.2.1.2.1 e_.symm | exact h_.2.2.2.1.2.1 e_.symm | exact h_.1.1.1.2.2.1 e_.symm | exact h_.2.1.1.2.2.1 e_.symm | exact h_.1.2.1.2.2.1 e_.symm | exact h_.2.2.1.2.2.1 e_.symm | exact h_.1.1.2.2.2.1 e_.symm | exact h_.2.1.2.2.2.1 e_.symm | exact h_.1.2.2.2.2.1 e_.symm | exact h_.2.2.2.2.2.1 e_.symm | exact h_.1.1.1.1.1.2 e_.symm | exact h_.2.1.1.1.1.2 e_.symm | exact h_.1.2.1.1.1.2 e_.symm | exact h_.2.2.1.1.1.2 e_.symm | exact h_.1.1.2.1.1.2 e_.symm | exact h_.2.1.2.1.1.2 e_.symm | exact h_.1.2.2.1.1.2 e_.symm | exact h_.2.2.2.1.1.2 e_.symm | exact h_.1.1.1.2.1.2 e_.symm | exact h_.2.1.1.2.1.2 e_.symm | exact h_.1.2.1.2.1.2 e_.symm | exact h_.2.2.1.2.1.2 e_.symm | exact h_.1.1.2.2.1.2 e_.symm | exact h_.2.1.2.2.1.2 e_.symm | exact h_.1.2.2.2.1.2 e_.symm | exact h_.2.2.2.2.1.2 e_.symm | exact h_.1.1.1.1.2.2 e_.symm | exact h_.2.1.1.1.2.2 e_.symm | exact h_.1.2.1.1.2.2 e_.symm | exact h_.2.2.1.1.2.2 e_.symm | exact h_.1.1.2.1.2.2 e_.symm | exact h_.2.1.2.1.2.2 e_.symm | exact h_.1.2.2.1.2.2 e_.symm | exact h_.2.2.2.1.2.2 e_.symm | exact h_.1.1.1.2.2.2 e_.symm | exact h_.2.1.1.2.2.2 e_.symm | exact h_.1.2.1.2.2.2 e_.symm | exact h_.2.2.1.2.2.2 e_.symm | exact h_.1.1.2.2.2.2 e_.symm | exact h_.2.1.2.2.2.2 e_.symm | exact h_.1.2.2.2.2.2 e_.symm | exact h_.2.2.2.2.2.2 e_.symm)))
       (case aB => exact (bZ HB))
       (case aF => exact (fun _ _ => trivial))
       (case aO => exact (by (with_reducible repeat (first | apply Kd.S_alloc | apply Kd.S_drewN | apply Kd.S_drew)); exact Kd.S_mono HO195.out (fun k_ hk => ⟨trivial, fun e_ => e_.elim (fun h_ => hk.1.2 h_) (fun h_ => h_.elim (fun h_ => hk.1.1 h_) (fun h_ => hk.2 h_))⟩)))
       (case aS => exact (below_size (bZ HB)))
       (case aL => have := LMc46.out; omega)
       intro v203 w63 ho hb hg hat
       rw [← Ny202.out] at ho
       replace BK165 := Aside0.mk (blk_grown (bP BK165) hg (Kd.S_ne HO195.out BK165.out (by decide)))
       replace BK166 := Aside0.mk (blk_grown (bP BK166) hg (Kd.S_ne HO195.out BK166.out (by decide)))
       replace HB := Aside0.mk (hb)
       have HO204 := Aside0.mk (ho)
       clear HO195 HO198 HO201 HO_3
       clear ho hb hg hat
       obtain ⟨Ao64, co64, eo64⟩ := Kd.S_slice HO204.out
       (first | subst eo64 | (injection eo64 with f1_ f2_ f3_; have f4_ := f1_.symm; have f5_ := f3_.symm; clear f1_ f2_ f3_; subst f4_; subst f5_))
       refine hK.out _ _ (bT3 BK166) (fun hHeld => ?_)
       clear hK K
       refine nO (some 70) ?_
       refine pI 12 (some 71) HT_.out ?_
       refine last_ (i := 13) (N := none) #[true, true, true, true, true, true, true, true, true, true, true, true, true, true] rfl rfl (one_of HT_.out (by kernel_rfl)) (by decide) (fun K hK => ?_)
       have hs65 : w63.cell? ⟨gb166, 2, none⟩ = some (.slice Ao54 y193.length co54) := bc BK166 2
       have hfs65 := blk_frozen BK166.out 2
       obtain ⟨hns65_0, hms65_0⟩ := nB NB165_166
       refine skip_ (w1 := ?_) (by rfl) rfl ?_ ?_
       rotate_left
       ·go_simp
        rfl
       refine hK.out _ _ ?_
       clear hK K
       refine done_ (done_of HT_.out (by kernel_rfl)) ?_
       obtain ⟨hnb66, hnc66⟩ := nB NB166_165
       obtain ⟨hcz67_0, hcz67_1, hcz67_2, hfz67_0, hfz67_1, hfz67_2⟩ := bK3 (w := w63) BK166
       obtain ⟨hcz68_0, hcz68_1, hcz68_2, hfz68_0, hfz68_1, hfz68_2⟩ := bK3 (w := w63) BK165
       try go_wp2
       refine rC gb165 43 #[.int .i64 11, .int .i64 2, .slice Ao64 y202.length co64] (bU BK165) Try.underlying43 ?_
       exact ⟨_, by first | rfl | (simp [errW_none, errW_some] <;> rfl) | (simp [*, errW_none, errW_some] <;> rfl), by (with_reducible repeat (first | apply Kd.S_alloc | apply Kd.S_drewN | apply Kd.S_drew)); exact Kd.S_mono (Kd.S_far (p := ⟨gb165, 2, none⟩) (Kd.S_far (p := ⟨gb165, 1, none⟩) (Kd.S_far (p := ⟨gb165, 0, none⟩) (Kd.S_far (p := ⟨gb166, 2, none⟩) (Kd.S_types (Kd.S_types HO204.out BK166.out (by decide)) BK165.out (by decide)) (fun _ hk => hk.1.2) (.slice Ao64 y202.length co64)) (fun _ hk => hk.2) (.int .i64 11)) (fun _ hk => hk.2) (.int .i64 2)) (fun _ hk => hk.2) (.slice Ao64 y202.length co64)) (fun _ hk => trivial), bZ HB⟩
      ·rw [if_neg c46] at H
       exact absurd H (by simp)
     ·rw [if_neg c43] at H
      exact absurd H (by simp)
 ·rw [if_neg c1] at H
  exact absurd H (by simp)
def laws_eqIntS.l0 : Nat → List Int → List Int → Int → Option (Bool)
 | 0, _, _, _ => none
 | k + 1, x0, x1, x5 => if x5 < (x0.length : Int) then (if 0 ≤ x5 then (if x5 < (x1.length : Int) then (if (rd x0 x5) = (rd x1 x5) then (laws_eqIntS.l0 k x0 x1 (wrap64 (x5 + 1))) else (some false)) else (none)) else (none)) else (some true)
def laws_eqIntS.f (k : Nat) (l0 : List Int) (l1 : List Int) : Option (Bool) := if (l0.length : Int) = (l1.length : Int) then (laws_eqIntS.l0 k l0 l1 0) else (some false)
set_option maxHeartbeats 8000000 in
set_option maxRecDepth 100000 in
theorem laws_eqIntS.calls (k : Nat) (A0 : Option Addr) (c0 : Nat) (l0 : List Int) (A1 : Option Addr) (c1 : Nat) (l1 : List Int) (r : Bool) (w : World) (hr0 : Kd.C (Kd.int .i64) w A0 l0.length l0) (hc0 : l0.length ≤ c0) (hr1 : Kd.C (Kd.int .i64) w A1 l1.length l1) (hc1 : l1.length ≤ c1) (h : laws_eqIntS.f k l0 l1 = some r) :
  Calls Try.prog 23 #[.slice A0 l0.length c0, .slice A1 l1.length c1] w fun e w' => e = .returned (.bool r) ∧ Drawn0 w w' := by
 have HR0 := Aside0.mk hr0
 have HC0 := Aside0.mk hc0
 clear hr0 hc0
 have HR1 := Aside0.mk hr1
 have HC1 := Aside0.mk hc1
 clear hr1 hc1
 have H : (if (l0.length : Int) = (l1.length : Int) then (laws_eqIntS.l0 k l0 l1 0) else (some false)) = some r := h
 clear h
 by_cases c3 : (l0.length : Int) = (l1.length : Int)
 ·rw [if_pos c3] at H
  have c3b0 : ((l0.length : Int) == (l1.length : Int)) = true := beq_iff_eq.mpr c3
  have c3b1 : ((l0.length : Int) != (l1.length : Int)) = false := bne_eq_false_iff_eq.mpr c3
  have c3b2 : (l0.length == l1.length) = true := by first | simpa using c3 | (simp at c3 ⊢; omega)
  clear c3
  have H' := Aside0.mk H
  clear H
  go_enter Try.func23, Try.ntmps23
  go_wp2
  repeat (go_quiet (fail); try go_wp2)
  go_loopg [5] k (fun kq v5 w' => ∃ (x5_1 : Int), v5 = .int .i64 x5_1 ∧ Aside0 (laws_eqIntS.l0 kq l0 l1 x5_1 = some r) ∧ Aside0 (kq ≤ k) ∧ Drawn0 w w')
  case atStart => exact ⟨(0), rS, H', ⟨Nat.le_refl _⟩, by repeat (first | exact Drawn0.refl _ | apply Drawn0.step)⟩
  case round =>
   clear H'
   try clear c1
   try clear c2
   try clear p2
   try clear c3
   try clear c3b0
   try clear c3b1
   try clear c3b2
   obtain ⟨x5_1, rfl, HA, HK1, ⟨m1, rfl⟩⟩ := hrel
   cases gk with
   | zero => exact absurd HA.out (by simp [laws_eqIntS.l0])
   | succ k1 =>
    have H := HA.out
    clear HA
    simp only [laws_eqIntS.l0] at H
    by_cases c4 : x5_1 < (l0.length : Int)
    ·rw [if_pos c4] at H
     have c4b0 : decide (x5_1 < (l0.length : Int)) = true := decide_eq_true c4
     clear c4
     by_cases c5 : 0 ≤ x5_1
     ·rw [if_pos c5] at H
      have c5b0 : decide (0 ≤ x5_1) = true := decide_eq_true c5
      clear c5
      by_cases c6 : x5_1 < (l1.length : Int)
      ·rw [if_pos c6] at H
       have c6b0 : decide (x5_1 < (l1.length : Int)) = true := decide_eq_true c6
       clear c6
       by_cases c7 : (rd l0 x5_1) = (rd l1 x5_1)
       ·rw [if_pos c7] at H
        have c7b0 : ((rd l0 x5_1) == (rd l1 x5_1)) = true := beq_iff_eq.mpr c7
        have c7b1 : ((rd l0 x5_1) != (rd l1 x5_1)) = false := bne_eq_false_iff_eq.mpr c7
        clear c7
        have H' := Aside0.mk H
        clear H
        have p205 : 0 ≤ (x5_1 : Int) := of_decide_eq_true (by first | (with_reducible assumption) | assumption)
        have q205 : x5_1 < (l0.length : Int) := of_decide_eq_true (by first | (with_reducible assumption) | assumption)
        obtain ⟨ad205, e205, hx205_0⟩ := Kd.at_int HR0.out x5_1 p205 q205
        cases e205
        replace p205 := eq_true p205
        replace q205 := eq_true q205
        have p206 : 0 ≤ (x5_1 : Int) := of_decide_eq_true (by first | (with_reducible assumption) | assumption)
        have q206 : x5_1 < (l1.length : Int) := of_decide_eq_true (by first | (with_reducible assumption) | assumption)
        obtain ⟨ad206, e206, hx206_0⟩ := Kd.at_int HR1.out x5_1 p206 q206
        cases e206
        replace p206 := eq_true p206
        replace q206 := eq_true q206
        go_wp2
        repeat (go_quiet (fail); try go_wp2)
        go_roundg k1
        case measure => have := HK1.out; omega
        case rel => exact ⟨(wrap64 (x5_1 + 1)), rS, H', ⟨by have := HK1.out; omega⟩, by repeat (first | exact Drawn0.refl _ | apply Drawn0.step)⟩
       ·rw [if_neg c7] at H
        have c7b0 : ((rd l0 x5_1) == (rd l1 x5_1)) = false := beq_eq_false_iff_ne.mpr c7
        have c7b1 : ((rd l0 x5_1) != (rd l1 x5_1)) = true := bne_iff_ne.mpr c7
        obtain rfl := Option.some.inj H
        have p205 : 0 ≤ (x5_1 : Int) := of_decide_eq_true (by first | (with_reducible assumption) | assumption)
        have q205 : x5_1 < (l0.length : Int) := of_decide_eq_true (by first | (with_reducible assumption) | assumption)
        obtain ⟨ad205, e205, hx205_0⟩ := Kd.at_int HR0.out x5_1 p205 q205
        cases e205
        replace p205 := eq_true p205
        replace q205 := eq_true q205
        have p206 : 0 ≤ (x5_1 : Int) := of_decide_eq_true (by first | (with_reducible assumption) | assumption)
        have q206 : x5_1 < (l1.length : Int) := of_decide_eq_true (by first | (with_reducible assumption) | assumption)
        obtain ⟨ad206, e206, hx206_0⟩ := Kd.at_int HR1.out x5_1 p206 q206
        cases e206
        replace p206 := eq_true p206
        replace q206 := eq_true q206
        go_wp2
        repeat (go_quiet (fail); try go_wp2)
        go_ret
        exact ⟨rS, rD⟩
      ·rw [if_neg c6] at H
       exact absurd H (by simp)
     ·rw [if_neg c5] at H
      exact absurd H (by simp)
    ·rw [if_neg c4] at H
     have c4b0 : decide (x5_1 < (l0.length : Int)) = false := decide_eq_false c4
     clear c4
     obtain rfl := Option.some.inj H
     go_wp2
     repeat (go_quiet (fail); try go_wp2)
     go_ret
     exact ⟨rS, rD⟩
 ·rw [if_neg c3] at H
  have c3b0 : ((l0.length : Int) == (l1.length : Int)) = false := beq_eq_false_iff_ne.mpr c3
  have c3b1 : ((l0.length : Int) != (l1.length : Int)) = true := bne_iff_ne.mpr c3
  have c3b2 : (l0.length == l1.length) = false := by first | simpa using c3 | (simp at c3 ⊢; omega)
  obtain rfl := Option.some.inj H
  go_enter Try.func23, Try.ntmps23
  go_wp2
  repeat (go_quiet (fail); try go_wp2)
  go_ret
  exact ⟨rS, rD⟩
def laws_eqRow.f (k : Nat) (l0_0 : List Int) (l0_1 : List Int) (l0_2 : List Int) (l1_0 : List Int) (l1_1 : List Int) (l1_2 : List Int) : Option (Bool) := (laws_eqIntS.f k l0_0 l1_0).bind fun t209 => (if t209 = true then ((laws_eqIntS.f k l0_1 l1_1).bind fun t210 => (if t210 = true then ((laws_eqIntS.f k l0_2 l1_2).bind fun t211 => (if t211 = true then (some true) else (some false))) else (some false))) else (some false))
set_option maxHeartbeats 8000000 in
set_option maxRecDepth 100000 in
theorem laws_eqRow.calls (k : Nat) (A0_0 : Option Addr) (c0_0 : Nat) (l0_0 : List Int) (A0_1 : Option Addr) (c0_1 : Nat) (l0_1 : List Int) (A0_2 : Option Addr) (c0_2 : Nat) (l0_2 : List Int) (A1_0 : Option Addr) (c1_0 : Nat) (l1_0 : List Int) (A1_1 : Option Addr) (c1_1 : Nat) (l1_1 : List Int) (A1_2 : Option Addr) (c1_2 : Nat) (l1_2 : List Int) (r : Bool) (w : World) (hr0_0 : Kd.C (Kd.int .i64) w A0_0 l0_0.length l0_0) (hc0_0 : l0_0.length ≤ c0_0) (hr0_1 : Kd.C (Kd.int .i64) w A0_1 l0_1.length l0_1) (hc0_1 : l0_1.length ≤ c0_1) (hr0_2 : Kd.C (Kd.int .i64) w A0_2 l0_2.length l0_2) (hc0_2 : l0_2.length ≤ c0_2) (hr1_0 : Kd.C (Kd.int .i64) w A1_0 l1_0.length l1_0) (hc1_0 : l1_0.length ≤ c1_0) (hr1_1 : Kd.C (Kd.int .i64) w A1_1 l1_1.length l1_1) (hc1_1 : l1_1.length ≤ c1_1) (hr1_2 : Kd.C (Kd.int .i64) w A1_2 l1_2.length l1_2) (hc1_2 : l1_2.length ≤ c1_2) (h : laws_eqRow.f k l0_0 l0_1 l0_2 l1_0 l1_1 l1_2 = some r) :
  Calls Try.prog 90 #[.agg #[.slice A0_0 l0_0.length c0_0, .slice A0_1 l0_1.length c0_1, .slice A0_2 l0_2.length c0_2], .agg #[.slice A1_0 l1_0.length c1_0, .slice A1_1 l1_1.length c1_1, .slice A1_2 l1_2.length c1_2]] w fun e w' => e = .returned (.bool r) ∧ Below w.heap.size w w' := by
 have hu75 := Try.underlying75
 have HR0_0 := Aside0.mk hr0_0
 have HC0_0 := Aside0.mk hc0_0
 clear hr0_0 hc0_0
 have HR0_1 := Aside0.mk hr0_1
 have HC0_1 := Aside0.mk hc0_1
 clear hr0_1 hc0_1
 have HR0_2 := Aside0.mk hr0_2
 have HC0_2 := Aside0.mk hc0_2
 clear hr0_2 hc0_2
 have HR1_0 := Aside0.mk hr1_0
 have HC1_0 := Aside0.mk hc1_0
 clear hr1_0 hc1_0
 have HR1_1 := Aside0.mk hr1_1
 have HC1_1 := Aside0.mk hc1_1
 clear hr1_1 hc1_1
 have HR1_2 := Aside0.mk hr1_2
 have HC1_2 := Aside0.mk hc1_2
 clear hr1_2 hc1_2
 have HB := Aside0.mk (Below.refl w.heap.size w)
 have H : ((laws_eqIntS.f k l0_0 l1_0).bind fun t209 => (if t209 = true then ((laws_eqIntS.f k l0_1 l1_1).bind fun t210 => (if t210 = true then ((laws_eqIntS.f k l0_2 l1_2).bind fun t211 => (if t211 = true then (some true) else (some false))) else (some false))) else (some false))) = some r := h
 clear h
 replace H := Option.bind_eq_some_iff.mp H
 obtain ⟨t209, A30, H⟩ := H
 have A3 := Aside0.mk A30
 clear A30
 by_cases c4 : t209 = true
 ·subst c4
  rw [if_pos rfl] at H
  replace H := Option.bind_eq_some_iff.mp H
  obtain ⟨t210, A50, H⟩ := H
  have A5 := Aside0.mk A50
  clear A50
  by_cases c6 : t210 = true
  ·subst c6
   rw [if_pos rfl] at H
   replace H := Option.bind_eq_some_iff.mp H
   obtain ⟨t211, A70, H⟩ := H
   have A7 := Aside0.mk A70
   clear A70
   by_cases c8 : t211 = true
   ·subst c8
    rw [if_pos rfl] at H
    obtain rfl := Option.some.inj H
    go_enter Try.func90, Try.ntmps90
    go_wp2_with (first | ((with_reducible refine gate_dst (N := 2) rfl ?_); refine bE 2 #[.slice A0_0 l0_0.length c0_0, .slice A0_1 l0_1.length c0_1, .slice A0_2 l0_2.length c0_2] 75 ?_; intro gb207 hg w9 hbox hb; have BK207 := Aside0.mk (hbox); have GW207 := bG HB hg; have GE207 := bG HB hg; replace HB := bS HB hb; clear hb hbox hg) | ((with_reducible refine gate_dst (N := 3) rfl ?_); refine bE 3 #[.slice A1_0 l1_0.length c1_0, .slice A1_1 l1_1.length c1_1, .slice A1_2 l1_2.length c1_2] 75 ?_; intro gb208 hg w10 hbox hb; have BK208 := Aside0.mk (hbox); have GW208 := bG HB hg; have GE208 := bG HB hg; replace HB := bS HB hb; have NB207_208 := bL BK207 hg; have NB208_207 := bR BK207 hg; replace BK207 := bB BK207 hb; clear hb hbox hg; obtain ⟨hnb11, hnc11⟩ := nB NB207_208; obtain ⟨hcz12_0, hcz12_1, hcz12_2, hfz12_0, hfz12_1, hfz12_2⟩ := bK3 (w := w10) BK207; obtain ⟨hcz13_0, hcz13_1, hcz13_2, hfz13_0, hfz13_1, hfz13_2⟩ := bK3 (w := w10) BK208) | ((with_reducible refine gate_callee (f := 23) rfl ?_); refine gL (some 9) Try.func23 #[.slice A0_0 l0_0.length c0_0, .slice A1_0 l1_0.length c1_0] ?_; (with_reducible refine (laws_eqIntS.calls k _ _ l0_0 _ _ l1_0 true _ ?side1 ?side2 ?side3 ?side4 A3.out).mono ?_); (case side1 => exact cP (Kd.C_below HR0_0.out HB.out)); (case side2 => exact HC0_0.out); (case side3 => exact cP (Kd.C_below HR1_0.out HB.out)); (case side4 => exact HC1_0.out); rintro e w' ⟨rfl, ⟨nd, rfl⟩⟩; refine ⟨_, rfl, ?_⟩) | ((with_reducible refine gate_callee (f := 23) rfl ?_); refine gL (some 15) Try.func23 #[.slice A0_1 l0_1.length c0_1, .slice A1_1 l1_1.length c1_1] ?_; (with_reducible refine (laws_eqIntS.calls k _ _ l0_1 _ _ l1_1 true _ ?side1 ?side2 ?side3 ?side4 A5.out).mono ?_); (case side1 => exact cP (Kd.C_below HR0_1.out (bZ HB))); (case side2 => exact HC0_1.out); (case side3 => exact cP (Kd.C_below HR1_1.out (bZ HB))); (case side4 => exact HC1_1.out); rintro e w' ⟨rfl, ⟨nd, rfl⟩⟩; refine ⟨_, rfl, ?_⟩) | ((with_reducible refine gate_callee (f := 23) rfl ?_); refine gL (some 21) Try.func23 #[.slice A0_2 l0_2.length c0_2, .slice A1_2 l1_2.length c1_2] ?_; (with_reducible refine (laws_eqIntS.calls k _ _ l0_2 _ _ l1_2 true _ ?side1 ?side2 ?side3 ?side4 A7.out).mono ?_); (case side1 => exact cP (Kd.C_below HR0_2.out (bZ HB))); (case side2 => exact HC0_2.out); (case side3 => exact cP (Kd.C_below HR1_2.out (bZ HB))); (case side4 => exact HC1_2.out); rintro e w' ⟨rfl, ⟨nd, rfl⟩⟩; refine ⟨_, rfl, ?_⟩))
    go_ret
    exact ⟨rR, bZ HB⟩
   ·replace c8 := Bool.eq_false_iff.mpr c8
    subst c8
    rw [if_neg (show ¬ (false = true) by decide)] at H
    obtain rfl := Option.some.inj H
    go_enter Try.func90, Try.ntmps90
    go_wp2_with (first | ((with_reducible refine gate_dst (N := 2) rfl ?_); refine bE 2 #[.slice A0_0 l0_0.length c0_0, .slice A0_1 l0_1.length c0_1, .slice A0_2 l0_2.length c0_2] 75 ?_; intro gb207 hg w14 hbox hb; have BK207 := Aside0.mk (hbox); have GW207 := bG HB hg; have GE207 := bG HB hg; replace HB := bS HB hb; clear hb hbox hg) | ((with_reducible refine gate_dst (N := 3) rfl ?_); refine bE 3 #[.slice A1_0 l1_0.length c1_0, .slice A1_1 l1_1.length c1_1, .slice A1_2 l1_2.length c1_2] 75 ?_; intro gb208 hg w15 hbox hb; have BK208 := Aside0.mk (hbox); have GW208 := bG HB hg; have GE208 := bG HB hg; replace HB := bS HB hb; have NB207_208 := bL BK207 hg; have NB208_207 := bR BK207 hg; replace BK207 := bB BK207 hb; clear hb hbox hg; obtain ⟨hnb16, hnc16⟩ := nB NB207_208; obtain ⟨hcz17_0, hcz17_1, hcz17_2, hfz17_0, hfz17_1, hfz17_2⟩ := bK3 (w := w15) BK207; obtain ⟨hcz18_0, hcz18_1, hcz18_2, hfz18_0, hfz18_1, hfz18_2⟩ := bK3 (w := w15) BK208) | ((with_reducible refine gate_callee (f := 23) rfl ?_); refine gL (some 9) Try.func23 #[.slice A0_0 l0_0.length c0_0, .slice A1_0 l1_0.length c1_0] ?_; (with_reducible refine (laws_eqIntS.calls k _ _ l0_0 _ _ l1_0 true _ ?side1 ?side2 ?side3 ?side4 A3.out).mono ?_); (case side1 => exact cP (Kd.C_below HR0_0.out HB.out)); (case side2 => exact HC0_0.out); (case side3 => exact cP (Kd.C_below HR1_0.out HB.out)); (case side4 => exact HC1_0.out); rintro e w' ⟨rfl, ⟨nd, rfl⟩⟩; refine ⟨_, rfl, ?_⟩) | ((with_reducible refine gate_callee (f := 23) rfl ?_); refine gL (some 15) Try.func23 #[.slice A0_1 l0_1.length c0_1, .slice A1_1 l1_1.length c1_1] ?_; (with_reducible refine (laws_eqIntS.calls k _ _ l0_1 _ _ l1_1 true _ ?side1 ?side2 ?side3 ?side4 A5.out).mono ?_); (case side1 => exact cP (Kd.C_below HR0_1.out (bZ HB))); (case side2 => exact HC0_1.out); (case side3 => exact cP (Kd.C_below HR1_1.out (bZ HB))); (case side4 => exact HC1_1.out); rintro e w' ⟨rfl, ⟨nd, rfl⟩⟩; refine ⟨_, rfl, ?_⟩) | ((with_reducible refine gate_callee (f := 23) rfl ?_); refine gL (some 21) Try.func23 #[.slice A0_2 l0_2.length c0_2, .slice A1_2 l1_2.length c1_2] ?_; (with_reducible refine (laws_eqIntS.calls k _ _ l0_2 _ _ l1_2 false _ ?side1 ?side2 ?side3 ?side4 A7.out).mono ?_); (case side1 => exact cP (Kd.C_below HR0_2.out (bZ HB))); (case side2 => exact HC0_2.out); (case side3 => exact cP (Kd.C_below HR1_2.out (bZ HB))); (case side4 => exact HC1_2.out); rintro e w' ⟨rfl, ⟨nd, rfl⟩⟩; refine ⟨_, rfl, ?_⟩))
    go_ret
    exact ⟨rR, bZ HB⟩
  ·replace c6 := Bool.eq_false_iff.mpr c6
   subst c6
   rw [if_neg (show ¬ (false = true) by decide)] at H
   obtain rfl := Option.some.inj H
   go_enter Try.func90, Try.ntmps90
   go_wp2_with (first | ((with_reducible refine gate_dst (N := 2) rfl ?_); refine bE 2 #[.slice A0_0 l0_0.length c0_0, .slice A0_1 l0_1.length c0_1, .slice A0_2 l0_2.length c0_2] 75 ?_; intro gb207 hg w19 hbox hb; have BK207 := Aside0.mk (hbox); have GW207 := bG HB hg; have GE207 := bG HB hg; replace HB := bS HB hb; clear hb hbox hg) | ((with_reducible refine gate_dst (N := 3) rfl ?_); refine bE 3 #[.slice A1_0 l1_0.length c1_0, .slice A1_1 l1_1.length c1_1, .slice A1_2 l1_2.length c1_2] 75 ?_; intro gb208 hg w20 hbox hb; have BK208 := Aside0.mk (hbox); have GW208 := bG HB hg; have GE208 := bG HB hg; replace HB := bS HB hb; have NB207_208 := bL BK207 hg; have NB208_207 := bR BK207 hg; replace BK207 := bB BK207 hb; clear hb hbox hg; obtain ⟨hnb21, hnc21⟩ := nB NB207_208; obtain ⟨hcz22_0, hcz22_1, hcz22_2, hfz22_0, hfz22_1, hfz22_2⟩ := bK3 (w := w20) BK207; obtain ⟨hcz23_0, hcz23_1, hcz23_2, hfz23_0, hfz23_1, hfz23_2⟩ := bK3 (w := w20) BK208) | ((with_reducible refine gate_callee (f := 23) rfl ?_); refine gL (some 9) Try.func23 #[.slice A0_0 l0_0.length c0_0, .slice A1_0 l1_0.length c1_0] ?_; (with_reducible refine (laws_eqIntS.calls k _ _ l0_0 _ _ l1_0 true _ ?side1 ?side2 ?side3 ?side4 A3.out).mono ?_); (case side1 => exact cP (Kd.C_below HR0_0.out HB.out)); (case side2 => exact HC0_0.out); (case side3 => exact cP (Kd.C_below HR1_0.out HB.out)); (case side4 => exact HC1_0.out); rintro e w' ⟨rfl, ⟨nd, rfl⟩⟩; refine ⟨_, rfl, ?_⟩) | ((with_reducible refine gate_callee (f := 23) rfl ?_); refine gL (some 15) Try.func23 #[.slice A0_1 l0_1.length c0_1, .slice A1_1 l1_1.length c1_1] ?_; (with_reducible refine (laws_eqIntS.calls k _ _ l0_1 _ _ l1_1 false _ ?side1 ?side2 ?side3 ?side4 A5.out).mono ?_); (case side1 => exact cP (Kd.C_below HR0_1.out (bZ HB))); (case side2 => exact HC0_1.out); (case side3 => exact cP (Kd.C_below HR1_1.out (bZ HB))); (case side4 => exact HC1_1.out); rintro e w' ⟨rfl, ⟨nd, rfl⟩⟩; refine ⟨_, rfl, ?_⟩))
   go_ret
   exact ⟨rR, bZ HB⟩
 ·replace c4 := Bool.eq_false_iff.mpr c4
  subst c4
  rw [if_neg (show ¬ (false = true) by decide)] at H
  obtain rfl := Option.some.inj H
  go_enter Try.func90, Try.ntmps90
  go_wp2_with (first | ((with_reducible refine gate_dst (N := 2) rfl ?_); refine bE 2 #[.slice A0_0 l0_0.length c0_0, .slice A0_1 l0_1.length c0_1, .slice A0_2 l0_2.length c0_2] 75 ?_; intro gb207 hg w24 hbox hb; have BK207 := Aside0.mk (hbox); have GW207 := bG HB hg; have GE207 := bG HB hg; replace HB := bS HB hb; clear hb hbox hg) | ((with_reducible refine gate_dst (N := 3) rfl ?_); refine bE 3 #[.slice A1_0 l1_0.length c1_0, .slice A1_1 l1_1.length c1_1, .slice A1_2 l1_2.length c1_2] 75 ?_; intro gb208 hg w25 hbox hb; have BK208 := Aside0.mk (hbox); have GW208 := bG HB hg; have GE208 := bG HB hg; replace HB := bS HB hb; have NB207_208 := bL BK207 hg; have NB208_207 := bR BK207 hg; replace BK207 := bB BK207 hb; clear hb hbox hg; obtain ⟨hnb26, hnc26⟩ := nB NB207_208; obtain ⟨hcz27_0, hcz27_1, hcz27_2, hfz27_0, hfz27_1, hfz27_2⟩ := bK3 (w := w25) BK207; obtain ⟨hcz28_0, hcz28_1, hcz28_2, hfz28_0, hfz28_1, hfz28_2⟩ := bK3 (w := w25) BK208) | ((with_reducible refine gate_callee (f := 23) rfl ?_); refine gL (some 9) Try.func23 #[.slice A0_0 l0_0.length c0_0, .slice A1_0 l1_0.length c1_0] ?_; (with_reducible refine (laws_eqIntS.calls k _ _ l0_0 _ _ l1_0 false _ ?side1 ?side2 ?side3 ?side4 A3.out).mono ?_); (case side1 => exact cP (Kd.C_below HR0_0.out HB.out)); (case side2 => exact HC0_0.out); (case side3 => exact cP (Kd.C_below HR1_0.out HB.out)); (case side4 => exact HC1_0.out); rintro e w' ⟨rfl, ⟨nd, rfl⟩⟩; refine ⟨_, rfl, ?_⟩))
  go_ret
  exact ⟨rR, bZ HB⟩
def laws_eqRowS.l0 : Nat → List (S75) → List (S75) → Int → Option (Bool)
 | 0, _, _, _ => none
 | k + 1, x0, x1, x5 => if x5 < (x0.length : Int) then (if 0 ≤ x5 then (if x5 < (x1.length : Int) then ((laws_eqRow.f k ((rd_T75 x0 x5).f0) ((rd_T75 x0 x5).f1) ((rd_T75 x0 x5).f2) ((rd_T75 x1 x5).f0) ((rd_T75 x1 x5).f1) ((rd_T75 x1 x5).f2)).bind fun t214 => (if t214 = true then (laws_eqRowS.l0 k x0 x1 (wrap64 (x5 + 1))) else (some false))) else (none)) else (none)) else (some true)
def laws_eqRowS.f (k : Nat) (l0 : List (S75)) (l1 : List (S75)) : Option (Bool) := if (l0.length : Int) = (l1.length : Int) then (laws_eqRowS.l0 k l0 l1 0) else (some false)
def laws_eqRowS.T6 : Bool × List (List Nat × List Nat) := (true, [([], []), ([], []), ([0, 1], [0, 1]), ([2], [2]), ([], []), ([], []), ([4, 5], [4, 5]), ([6], [6]), ([3, 7], [3, 7]), ([8], [8])])
def laws_eqRowS.B6 : List Nat := [0, 0, 3, 7, 0, 0, 48, 112, 255, 511]
theorem laws_eqRowS.tab6 : rtab .any (opsOf Try.f68 6) = laws_eqRowS.T6 := by kernel_rfl
theorem laws_eqRowS.bits6 : waitsOk laws_eqRowS.T6.2 laws_eqRowS.B6 = true := by kernel_rfl
set_option maxHeartbeats 8000000 in
set_option maxRecDepth 100000 in
theorem laws_eqRowS.calls (k : Nat) (A0 : Option Addr) (c0 : Nat) (l0 : List (S75)) (A1 : Option Addr) (c1 : Nat) (l1 : List (S75)) (r : Bool) (w : World) (hr0 : Kd.C k75 w A0 l0.length l0) (hc0 : l0.length ≤ c0) (hr1 : Kd.C k75 w A1 l1.length l1) (hc1 : l1.length ≤ c1) (h : laws_eqRowS.f k l0 l1 = some r) :
  Calls Try.prog 68 #[.slice A0 l0.length c0, .slice A1 l1.length c1] w fun e w' => e = .returned (.bool r) ∧ Below w.heap.size w w' := by
 have hu75 := Try.underlying75
 have HR0 := Aside0.mk hr0
 have HC0 := Aside0.mk hc0
 clear hr0 hc0
 have HR1 := Aside0.mk hr1
 have HC1 := Aside0.mk hc1
 clear hr1 hc1
 have HB := Aside0.mk (Below.refl w.heap.size w)
 have H : (if (l0.length : Int) = (l1.length : Int) then (laws_eqRowS.l0 k l0 l1 0) else (some false)) = some r := h
 clear h
 by_cases c3 : (l0.length : Int) = (l1.length : Int)
 ·rw [if_pos c3] at H
  have c3b0 : ((l0.length : Int) == (l1.length : Int)) = true := beq_iff_eq.mpr c3
  have c3b1 : ((l0.length : Int) != (l1.length : Int)) = false := bne_eq_false_iff_eq.mpr c3
  have c3b2 : (l0.length == l1.length) = true := by first | simpa using c3 | (simp at c3 ⊢; omega)
  clear c3
  have H' := Aside0.mk H
  clear H
  go_enter Try.func68, Try.ntmps68
  go_wp2
  go_loopg [5] k (fun kq v5 w' => ∃ (x5_1 : Int), v5 = .int .i64 x5_1 ∧ Aside0 (laws_eqRowS.l0 kq l0 l1 x5_1 = some r) ∧ Aside0 (kq ≤ k) ∧ Aside0 (Below w.heap.size w w'))
  case atStart => exact ⟨(0), rS, H', ⟨Nat.le_refl _⟩, ⟨bZ HB⟩⟩
  case round =>
   clear H'
   try clear c1
   try clear p2
   try clear c3
   try clear c3b0
   try clear c3b1
   try clear c3b2
   obtain ⟨x5_1, rfl, HA, HK1, HB⟩ := hrel
   cases gk with
   | zero => exact absurd HA.out (by simp [laws_eqRowS.l0])
   | succ k1 =>
    have H := HA.out
    clear HA
    simp only [laws_eqRowS.l0] at H
    by_cases c4 : x5_1 < (l0.length : Int)
    ·rw [if_pos c4] at H
     have c4b0 : decide (x5_1 < (l0.length : Int)) = true := decide_eq_true c4
     clear c4
     by_cases c5 : 0 ≤ x5_1
     ·rw [if_pos c5] at H
      have c5b0 : decide (0 ≤ x5_1) = true := decide_eq_true c5
      clear c5
      by_cases c6 : x5_1 < (l1.length : Int)
      ·rw [if_pos c6] at H
       have c6b0 : decide (x5_1 < (l1.length : Int)) = true := decide_eq_true c6
       clear c6
       replace H := Option.bind_eq_some_iff.mp H
       obtain ⟨t214, A70, H⟩ := H
       have A7 := Aside0.mk A70
       clear A70
       by_cases c8 : t214 = true
       ·subst c8
        rw [if_pos rfl] at H
        have H' := Aside0.mk H
        clear H
        try go_wp2
        replace HB := Aside0.mk (below_drew1 HB.out)
        have p212 : 0 ≤ (x5_1 : Int) := of_decide_eq_true (by first | (with_reducible assumption) | assumption)
        have q212 : x5_1 < (l0.length : Int) := of_decide_eq_true (by first | (with_reducible assumption) | assumption)
        obtain ⟨ad212, A212_0, c212_0, A212_1, c212_1, A212_2, c212_2, e212, hx212_0, hx212_1, hx212_2, hl212_0, hi212_0, hl212_1, hi212_1, hl212_2, hi212_2⟩ := at_T75 HR0.out x5_1 p212 q212
        have hw212_2 := hx212_2
        have hw212_1 := hx212_1
        have hw212_0 := hx212_0
        cases e212
        replace hx212_0 := (hC HB hx212_0 :)
        replace hx212_1 := (hC HB hx212_1 :)
        replace hx212_2 := (hC HB hx212_2 :)
        have HR212_0 := Aside0.mk hi212_0
        have HC212_0 := Aside0.mk hl212_0
        clear hi212_0 hl212_0
        have HR212_1 := Aside0.mk hi212_1
        have HC212_1 := Aside0.mk hl212_1
        clear hi212_1 hl212_1
        have HR212_2 := Aside0.mk hi212_2
        have HC212_2 := Aside0.mk hl212_2
        clear hi212_2 hl212_2
        replace p212 := eq_true p212
        replace q212 := eq_true q212
        have p213 : 0 ≤ (x5_1 : Int) := of_decide_eq_true (by first | (with_reducible assumption) | assumption)
        have q213 : x5_1 < (l1.length : Int) := of_decide_eq_true (by first | (with_reducible assumption) | assumption)
        obtain ⟨ad213, A213_0, c213_0, A213_1, c213_1, A213_2, c213_2, e213, hx213_0, hx213_1, hx213_2, hl213_0, hi213_0, hl213_1, hi213_1, hl213_2, hi213_2⟩ := at_T75 HR1.out x5_1 p213 q213
        have hw213_2 := hx213_2
        have hw213_1 := hx213_1
        have hw213_0 := hx213_0
        cases e213
        replace hx213_0 := (hC HB hx213_0 :)
        replace hx213_1 := (hC HB hx213_1 :)
        replace hx213_2 := (hC HB hx213_2 :)
        have HR213_0 := Aside0.mk hi213_0
        have HC213_0 := Aside0.mk hl213_0
        clear hi213_0 hl213_0
        have HR213_1 := Aside0.mk hi213_1
        have HC213_1 := Aside0.mk hl213_1
        clear hi213_1 hl213_1
        have HR213_2 := Aside0.mk hi213_2
        have HC213_2 := Aside0.mk hl213_2
        clear hi213_2 hl213_2
        replace p213 := eq_true p213
        replace q213 := eq_true q213
        refine start_ (n := 10) (S := fun w' => w'.cell? (ad212.add ((x5_1).toNat * 3)) = some (.slice A212_0 ((rd_T75 l0 x5_1).f0).length c212_0) ∧ w'.cell? ⟨(ad212.add ((x5_1).toNat * 3)).block, (ad212.add ((x5_1).toNat * 3)).off + 1, none⟩ = some (.slice A212_1 ((rd_T75 l0 x5_1).f1).length c212_1) ∧ w'.cell? ⟨(ad212.add ((x5_1).toNat * 3)).block, (ad212.add ((x5_1).toNat * 3)).off + 2, none⟩ = some (.slice A212_2 ((rd_T75 l0 x5_1).f2).length c212_2) ∧ w'.cell? (ad213.add ((x5_1).toNat * 3)) = some (.slice A213_0 ((rd_T75 l1 x5_1).f0).length c213_0) ∧ w'.cell? ⟨(ad213.add ((x5_1).toNat * 3)).block, (ad213.add ((x5_1).toNat * 3)).off + 1, none⟩ = some (.slice A213_1 ((rd_T75 l1 x5_1).f1).length c213_1) ∧ w'.cell? ⟨(ad213.add ((x5_1).toNat * 3)).block, (ad213.add ((x5_1).toNat * 3)).off + 2, none⟩ = some (.slice A213_2 ((rd_T75 l1 x5_1).f2).length c213_2)) (ds := []) #[false, false, false, false, false, false, false, false, false, false] (by kernel_rfl) rfl rfl ⟨((hC HB hw212_0 :)), ((hC HB hw212_1 :)), ((hC HB hw212_2 :)), ((hC HB hw213_0 :)), ((hC HB hw213_1 :)), ((hC HB hw213_2 :))⟩ (fun hHeld => ?_); refine with_tabW laws_eqRowS.tab6 laws_eqRowS.bits6 (fun HT_ HW_ => ?_)
        generalize wr.drew = w9 at HB HR212_0 HR212_1 HR212_2 HR213_0 HR213_1 HR213_2 hx212_0 hx212_1 hx212_2 hx213_0 hx213_1 hx213_2 hHeld ⊢
        refine pI 0 (some 17) HT_.out ?_
        refine pI 1 (some 18) HT_.out ?_
        refine pI 2 (some 19) HT_.out ?_
        refine pI 4 (some 21) HT_.out ?_
        refine pI 5 (some 22) HT_.out ?_
        refine pI 6 (some 23) HT_.out ?_
        refine tI6 3 (some 20) HT_.out HW_.out hHeld ?_
        refine tI6 7 (some 24) HT_.out HW_.out hHeld ?_
        refine oI 8 (some 25) HT_.out (fun K hK => ?_)
        refine gO Try.func90 #[.agg #[.slice A212_0 ((rd_T75 l0 x5_1).f0).length c212_0, .slice A212_1 ((rd_T75 l0 x5_1).f1).length c212_1, .slice A212_2 ((rd_T75 l0 x5_1).f2).length c212_2], .agg #[.slice A213_0 ((rd_T75 l1 x5_1).f0).length c213_0, .slice A213_1 ((rd_T75 l1 x5_1).f1).length c213_1, .slice A213_2 ((rd_T75 l1 x5_1).f2).length c213_2]] ?_
        with_reducible refine (laws_eqRow.calls k1 _ _ ((rd_T75 l0 x5_1).f0) _ _ ((rd_T75 l0 x5_1).f1) _ _ ((rd_T75 l0 x5_1).f2) _ _ ((rd_T75 l1 x5_1).f0) _ _ ((rd_T75 l1 x5_1).f1) _ _ ((rd_T75 l1 x5_1).f2) true _ ?side1 ?side2 ?side3 ?side4 ?side5 ?side6 ?side7 ?side8 ?side9 ?side10 ?side11 ?side12 A7.out).mono ?_
        (case side1 => exact cP (Kd.C_below HR212_0.out HB.out))
        (case side2 => exact HC212_0.out)
        (case side3 => exact cP (Kd.C_below HR212_1.out HB.out))
        (case side4 => exact HC212_1.out)
        (case side5 => exact cP (Kd.C_below HR212_2.out HB.out))
        (case side6 => exact HC212_2.out)
        (case side7 => exact cP (Kd.C_below HR213_0.out HB.out))
        (case side8 => exact HC213_0.out)
        (case side9 => exact cP (Kd.C_below HR213_1.out HB.out))
        (case side10 => exact HC213_1.out)
        (case side11 => exact cP (Kd.C_below HR213_2.out HB.out))
        (case side12 => exact HC213_2.out)
        rintro e w10 ⟨rfl, hb⟩
        refine ⟨_, rfl, ?_⟩
        replace HB := bS HB hb
        (try clear hb)
        refine hK.out _ _ ⟨((hC HB hw212_0 :)), ((hC HB hw212_1 :)), ((hC HB hw212_2 :)), ((hC HB hw213_0 :)), ((hC HB hw213_1 :)), ((hC HB hw213_2 :))⟩ (fun hHeld => ?_)
        clear hK K
        refine nO (some 25) ?_
        refine pI 9 (some 26) HT_.out ?_
        refine done_ (done_of HT_.out (by kernel_rfl)) ?_
        try go_wp2
        go_roundg k1
        case measure => have := HK1.out; omega
        case rel => exact ⟨(wrap64 (x5_1 + 1)), rS, H', ⟨by have := HK1.out; omega⟩, ⟨bZ HB⟩⟩
       ·replace c8 := Bool.eq_false_iff.mpr c8
        subst c8
        rw [if_neg (show ¬ (false = true) by decide)] at H
        obtain rfl := Option.some.inj H
        try go_wp2
        replace HB := Aside0.mk (below_drew1 HB.out)
        have p212 : 0 ≤ (x5_1 : Int) := of_decide_eq_true (by first | (with_reducible assumption) | assumption)
        have q212 : x5_1 < (l0.length : Int) := of_decide_eq_true (by first | (with_reducible assumption) | assumption)
        obtain ⟨ad212, A212_0, c212_0, A212_1, c212_1, A212_2, c212_2, e212, hx212_0, hx212_1, hx212_2, hl212_0, hi212_0, hl212_1, hi212_1, hl212_2, hi212_2⟩ := at_T75 HR0.out x5_1 p212 q212
        have hw212_2 := hx212_2
        have hw212_1 := hx212_1
        have hw212_0 := hx212_0
        cases e212
        replace hx212_0 := (hC HB hx212_0 :)
        replace hx212_1 := (hC HB hx212_1 :)
        replace hx212_2 := (hC HB hx212_2 :)
        have HR212_0 := Aside0.mk hi212_0
        have HC212_0 := Aside0.mk hl212_0
        clear hi212_0 hl212_0
        have HR212_1 := Aside0.mk hi212_1
        have HC212_1 := Aside0.mk hl212_1
        clear hi212_1 hl212_1
        have HR212_2 := Aside0.mk hi212_2
        have HC212_2 := Aside0.mk hl212_2
        clear hi212_2 hl212_2
        replace p212 := eq_true p212
        replace q212 := eq_true q212
        have p213 : 0 ≤ (x5_1 : Int) := of_decide_eq_true (by first | (with_reducible assumption) | assumption)
        have q213 : x5_1 < (l1.length : Int) := of_decide_eq_true (by first | (with_reducible assumption) | assumption)
        obtain ⟨ad213, A213_0, c213_0, A213_1, c213_1, A213_2, c213_2, e213, hx213_0, hx213_1, hx213_2, hl213_0, hi213_0, hl213_1, hi213_1, hl213_2, hi213_2⟩ := at_T75 HR1.out x5_1 p213 q213
        have hw213_2 := hx213_2
        have hw213_1 := hx213_1
        have hw213_0 := hx213_0
        cases e213
        replace hx213_0 := (hC HB hx213_0 :)
        replace hx213_1 := (hC HB hx213_1 :)
        replace hx213_2 := (hC HB hx213_2 :)
        have HR213_0 := Aside0.mk hi213_0
        have HC213_0 := Aside0.mk hl213_0
        clear hi213_0 hl213_0
        have HR213_1 := Aside0.mk hi213_1
        have HC213_1 := Aside0.mk hl213_1
        clear hi213_1 hl213_1
        have HR213_2 := Aside0.mk hi213_2
        have HC213_2 := Aside0.mk hl213_2
        clear hi213_2 hl213_2
        replace p213 := eq_true p213
        replace q213 := eq_true q213
        refine start_ (n := 10) (S := fun w' => w'.cell? (ad212.add ((x5_1).toNat * 3)) = some (.slice A212_0 ((rd_T75 l0 x5_1).f0).length c212_0) ∧ w'.cell? ⟨(ad212.add ((x5_1).toNat * 3)).block, (ad212.add ((x5_1).toNat * 3)).off + 1, none⟩ = some (.slice A212_1 ((rd_T75 l0 x5_1).f1).length c212_1) ∧ w'.cell? ⟨(ad212.add ((x5_1).toNat * 3)).block, (ad212.add ((x5_1).toNat * 3)).off + 2, none⟩ = some (.slice A212_2 ((rd_T75 l0 x5_1).f2).length c212_2) ∧ w'.cell? (ad213.add ((x5_1).toNat * 3)) = some (.slice A213_0 ((rd_T75 l1 x5_1).f0).length c213_0) ∧ w'.cell? ⟨(ad213.add ((x5_1).toNat * 3)).block, (ad213.add ((x5_1).toNat * 3)).off + 1, none⟩ = some (.slice A213_1 ((rd_T75 l1 x5_1).f1).length c213_1) ∧ w'.cell? ⟨(ad213.add ((x5_1).toNat * 3)).block, (ad213.add ((x5_1).toNat * 3)).off + 2, none⟩ = some (.slice A213_2 ((rd_T75 l1 x5_1).f2).length c213_2)) (ds := []) #[false, false, false, false, false, false, false, false, false, false] (by kernel_rfl) rfl rfl ⟨((hC HB hw212_0 :)), ((hC HB hw212_1 :)), ((hC HB hw212_2 :)), ((hC HB hw213_0 :)), ((hC HB hw213_1 :)), ((hC HB hw213_2 :))⟩ (fun hHeld => ?_); refine with_tabW laws_eqRowS.tab6 laws_eqRowS.bits6 (fun HT_ HW_ => ?_)
        generalize wr.drew = w11 at HB HR212_0 HR212_1 HR212_2 HR213_0 HR213_1 HR213_2 hx212_0 hx212_1 hx212_2 hx213_0 hx213_1 hx213_2 hHeld ⊢
        refine pI 0 (some 17) HT_.out ?_
        refine pI 1 (some 18) HT_.out ?_
        refine pI 2 (some 19) HT_.out ?_
        refine pI 4 (some 21) HT_.out ?_
        refine pI 5 (some 22) HT_.out ?_
        refine pI 6 (some 23) HT_.out ?_
        refine tI6 3 (some 20) HT_.out HW_.out hHeld ?_
        refine tI6 7 (some 24) HT_.out HW_.out hHeld ?_
        refine oI 8 (some 25) HT_.out (fun K hK => ?_)
        refine gO Try.func90 #[.agg #[.slice A212_0 ((rd_T75 l0 x5_1).f0).length c212_0, .slice A212_1 ((rd_T75 l0 x5_1).f1).length c212_1, .slice A212_2 ((rd_T75 l0 x5_1).f2).length c212_2], .agg #[.slice A213_0 ((rd_T75 l1 x5_1).f0).length c213_0, .slice A213_1 ((rd_T75 l1 x5_1).f1).length c213_1, .slice A213_2 ((rd_T75 l1 x5_1).f2).length c213_2]] ?_
        with_reducible refine (laws_eqRow.calls k1 _ _ ((rd_T75 l0 x5_1).f0) _ _ ((rd_T75 l0 x5_1).f1) _ _ ((rd_T75 l0 x5_1).f2) _ _ ((rd_T75 l1 x5_1).f0) _ _ ((rd_T75 l1 x5_1).f1) _ _ ((rd_T75 l1 x5_1).f2) false _ ?side1 ?side2 ?side3 ?side4 ?side5 ?side6 ?side7 ?side8 ?side9 ?side10 ?side11 ?side12 A7.out).mono ?_
        (case side1 => exact cP (Kd.C_below HR212_0.out HB.out))
        (case side2 => exact HC212_0.out)
        (case side3 => exact cP (Kd.C_below HR212_1.out HB.out))
        (case side4 => exact HC212_1.out)
        (case side5 => exact cP (Kd.C_below HR212_2.out HB.out))
        (case side6 => exact HC212_2.out)
        (case side7 => exact cP (Kd.C_below HR213_0.out HB.out))
        (case side8 => exact HC213_0.out)
        (case side9 => exact cP (Kd.C_below HR213_1.out HB.out))
        (case side10 => exact HC213_1.out)
        (case side11 => exact cP (Kd.C_below HR213_2.out HB.out))
        (case side12 => exact HC213_2.out)
        rintro e w12 ⟨rfl, hb⟩
        refine ⟨_, rfl, ?_⟩
        replace HB := bS HB hb
        (try clear hb)
        refine hK.out _ _ ⟨((hC HB hw212_0 :)), ((hC HB hw212_1 :)), ((hC HB hw212_2 :)), ((hC HB hw213_0 :)), ((hC HB hw213_1 :)), ((hC HB hw213_2 :))⟩ (fun hHeld => ?_)
        clear hK K
        refine nO (some 25) ?_
        refine pI 9 (some 26) HT_.out ?_
        refine done_ (done_of HT_.out (by kernel_rfl)) ?_
        try go_wp2
        go_ret
        exact ⟨rR, bZ HB⟩
      ·rw [if_neg c6] at H
       exact absurd H (by simp)
     ·rw [if_neg c5] at H
      exact absurd H (by simp)
    ·rw [if_neg c4] at H
     have c4b0 : decide (x5_1 < (l0.length : Int)) = false := decide_eq_false c4
     clear c4
     obtain rfl := Option.some.inj H
     go_wp2
     go_ret
     exact ⟨rR, bZ HB⟩
 ·rw [if_neg c3] at H
  have c3b0 : ((l0.length : Int) == (l1.length : Int)) = false := beq_eq_false_iff_ne.mpr c3
  have c3b1 : ((l0.length : Int) != (l1.length : Int)) = true := bne_iff_ne.mpr c3
  have c3b2 : (l0.length == l1.length) = false := by first | simpa using c3 | (simp at c3 ⊢; omega)
  obtain rfl := Option.some.inj H
  go_enter Try.func68, Try.ntmps68
  go_wp2
  go_ret
  exact ⟨rR, bZ HB⟩
def laws_eqSystem.f (k : Nat) (a0_0 : Int) (a0_1 : Int) (l0_2 : List (S75)) (a1_0 : Int) (a1_1 : Int) (l1_2 : List (S75)) : Option (Bool) := if a0_0 = a1_0 then (if a0_1 = a1_1 then ((laws_eqRowS.f k l0_2 l1_2).bind fun t217 => (if t217 = true then (some true) else (some false))) else (some false)) else (some false)
set_option maxHeartbeats 8000000 in
set_option maxRecDepth 100000 in
theorem laws_eqSystem.calls (k : Nat) (a0_0 : Int) (a0_1 : Int) (A0_2 : Option Addr) (c0_2 : Nat) (l0_2 : List (S75)) (a1_0 : Int) (a1_1 : Int) (A1_2 : Option Addr) (c1_2 : Nat) (l1_2 : List (S75)) (r : Bool) (w : World) (hr0_2 : Kd.C k75 w A0_2 l0_2.length l0_2) (hc0_2 : l0_2.length ≤ c0_2) (hr1_2 : Kd.C k75 w A1_2 l1_2.length l1_2) (hc1_2 : l1_2.length ≤ c1_2) (h : laws_eqSystem.f k a0_0 a0_1 l0_2 a1_0 a1_1 l1_2 = some r) :
  Calls Try.prog 39 #[.agg #[.int .i64 a0_0, .int .i64 a0_1, .slice A0_2 l0_2.length c0_2], .agg #[.int .i64 a1_0, .int .i64 a1_1, .slice A1_2 l1_2.length c1_2]] w fun e w' => e = .returned (.bool r) ∧ Below w.heap.size w w' := by
 have hu43 := Try.underlying43
 have HR0_2 := Aside0.mk hr0_2
 have HC0_2 := Aside0.mk hc0_2
 clear hr0_2 hc0_2
 have HR1_2 := Aside0.mk hr1_2
 have HC1_2 := Aside0.mk hc1_2
 clear hr1_2 hc1_2
 have HB := Aside0.mk (Below.refl w.heap.size w)
 have H : (if a0_0 = a1_0 then (if a0_1 = a1_1 then ((laws_eqRowS.f k l0_2 l1_2).bind fun t217 => (if t217 = true then (some true) else (some false))) else (some false)) else (some false)) = some r := h
 clear h
 by_cases c3 : a0_0 = a1_0
 ·rw [if_pos c3] at H
  have c3b0 : (a0_0 == a1_0) = true := beq_iff_eq.mpr c3
  have c3b1 : (a0_0 != a1_0) = false := bne_eq_false_iff_eq.mpr c3
  clear c3
  by_cases c4 : a0_1 = a1_1
  ·rw [if_pos c4] at H
   have c4b0 : (a0_1 == a1_1) = true := beq_iff_eq.mpr c4
   have c4b1 : (a0_1 != a1_1) = false := bne_eq_false_iff_eq.mpr c4
   clear c4
   replace H := Option.bind_eq_some_iff.mp H
   obtain ⟨t217, A50, H⟩ := H
   have A5 := Aside0.mk A50
   clear A50
   by_cases c6 : t217 = true
   ·subst c6
    rw [if_pos rfl] at H
    obtain rfl := Option.some.inj H
    go_enter Try.func39, Try.ntmps39
    go_wp2_with (first | ((with_reducible refine gate_dst (N := 2) rfl ?_); refine bE 2 #[.int .i64 a0_0, .int .i64 a0_1, .slice A0_2 l0_2.length c0_2] 43 ?_; intro gb215 hg w7 hbox hb; have BK215 := Aside0.mk (hbox); have GW215 := bG HB hg; have GE215 := bG HB hg; replace HB := bS HB hb; clear hb hbox hg) | ((with_reducible refine gate_dst (N := 3) rfl ?_); refine bE 3 #[.int .i64 a1_0, .int .i64 a1_1, .slice A1_2 l1_2.length c1_2] 43 ?_; intro gb216 hg w8 hbox hb; have BK216 := Aside0.mk (hbox); have GW216 := bG HB hg; have GE216 := bG HB hg; replace HB := bS HB hb; have NB215_216 := bL BK215 hg; have NB216_215 := bR BK215 hg; replace BK215 := bB BK215 hb; clear hb hbox hg; obtain ⟨hnb9, hnc9⟩ := nB NB215_216; obtain ⟨hcz10_0, hcz10_1, hcz10_2, hfz10_0, hfz10_1, hfz10_2⟩ := bK3 (w := w8) BK215; obtain ⟨hcz11_0, hcz11_1, hcz11_2, hfz11_0, hfz11_1, hfz11_2⟩ := bK3 (w := w8) BK216) | ((with_reducible refine gate_callee (f := 68) rfl ?_); refine gL (some 19) Try.func68 #[.slice A0_2 l0_2.length c0_2, .slice A1_2 l1_2.length c1_2] ?_; (with_reducible refine (laws_eqRowS.calls k _ _ l0_2 _ _ l1_2 true _ ?side1 ?side2 ?side3 ?side4 A5.out).mono ?_); (case side1 => exact cP (Kd.C_below HR0_2.out HB.out)); (case side2 => exact HC0_2.out); (case side3 => exact cP (Kd.C_below HR1_2.out HB.out)); (case side4 => exact HC1_2.out); rintro e w12 ⟨rfl, hb⟩; refine ⟨_, rfl, ?_⟩; replace BK215 := bB BK215 hb; replace BK216 := bB BK216 hb; replace HB := bS HB hb; (try clear hb)))
    go_ret
    exact ⟨rR, bZ HB⟩
   ·replace c6 := Bool.eq_false_iff.mpr c6
    subst c6
    rw [if_neg (show ¬ (false = true) by decide)] at H
    obtain rfl := Option.some.inj H
    go_enter Try.func39, Try.ntmps39
    go_wp2_with (first | ((with_reducible refine gate_dst (N := 2) rfl ?_); refine bE 2 #[.int .i64 a0_0, .int .i64 a0_1, .slice A0_2 l0_2.length c0_2] 43 ?_; intro gb215 hg w13 hbox hb; have BK215 := Aside0.mk (hbox); have GW215 := bG HB hg; have GE215 := bG HB hg; replace HB := bS HB hb; clear hb hbox hg) | ((with_reducible refine gate_dst (N := 3) rfl ?_); refine bE 3 #[.int .i64 a1_0, .int .i64 a1_1, .slice A1_2 l1_2.length c1_2] 43 ?_; intro gb216 hg w14 hbox hb; have BK216 := Aside0.mk (hbox); have GW216 := bG HB hg; have GE216 := bG HB hg; replace HB := bS HB hb; have NB215_216 := bL BK215 hg; have NB216_215 := bR BK215 hg; replace BK215 := bB BK215 hb; clear hb hbox hg; obtain ⟨hnb15, hnc15⟩ := nB NB215_216; obtain ⟨hcz16_0, hcz16_1, hcz16_2, hfz16_0, hfz16_1, hfz16_2⟩ := bK3 (w := w14) BK215; obtain ⟨hcz17_0, hcz17_1, hcz17_2, hfz17_0, hfz17_1, hfz17_2⟩ := bK3 (w := w14) BK216) | ((with_reducible refine gate_callee (f := 68) rfl ?_); refine gL (some 19) Try.func68 #[.slice A0_2 l0_2.length c0_2, .slice A1_2 l1_2.length c1_2] ?_; (with_reducible refine (laws_eqRowS.calls k _ _ l0_2 _ _ l1_2 false _ ?side1 ?side2 ?side3 ?side4 A5.out).mono ?_); (case side1 => exact cP (Kd.C_below HR0_2.out HB.out)); (case side2 => exact HC0_2.out); (case side3 => exact cP (Kd.C_below HR1_2.out HB.out)); (case side4 => exact HC1_2.out); rintro e w18 ⟨rfl, hb⟩; refine ⟨_, rfl, ?_⟩; replace BK215 := bB BK215 hb; replace BK216 := bB BK216 hb; replace HB := bS HB hb; (try clear hb)))
    go_ret
    exact ⟨rR, bZ HB⟩
  ·rw [if_neg c4] at H
   have c4b0 : (a0_1 == a1_1) = false := beq_eq_false_iff_ne.mpr c4
   have c4b1 : (a0_1 != a1_1) = true := bne_iff_ne.mpr c4
   obtain rfl := Option.some.inj H
   go_enter Try.func39, Try.ntmps39
   go_wp2_with (first | ((with_reducible refine gate_dst (N := 2) rfl ?_); refine bE 2 #[.int .i64 a0_0, .int .i64 a0_1, .slice A0_2 l0_2.length c0_2] 43 ?_; intro gb215 hg w19 hbox hb; have BK215 := Aside0.mk (hbox); have GW215 := bG HB hg; have GE215 := bG HB hg; replace HB := bS HB hb; clear hb hbox hg) | ((with_reducible refine gate_dst (N := 3) rfl ?_); refine bE 3 #[.int .i64 a1_0, .int .i64 a1_1, .slice A1_2 l1_2.length c1_2] 43 ?_; intro gb216 hg w20 hbox hb; have BK216 := Aside0.mk (hbox); have GW216 := bG HB hg; have GE216 := bG HB hg; replace HB := bS HB hb; have NB215_216 := bL BK215 hg; have NB216_215 := bR BK215 hg; replace BK215 := bB BK215 hb; clear hb hbox hg; obtain ⟨hnb21, hnc21⟩ := nB NB215_216; obtain ⟨hcz22_0, hcz22_1, hcz22_2, hfz22_0, hfz22_1, hfz22_2⟩ := bK3 (w := w20) BK215; obtain ⟨hcz23_0, hcz23_1, hcz23_2, hfz23_0, hfz23_1, hfz23_2⟩ := bK3 (w := w20) BK216))
   go_ret
   exact ⟨rR, bZ HB⟩
 ·rw [if_neg c3] at H
  have c3b0 : (a0_0 == a1_0) = false := beq_eq_false_iff_ne.mpr c3
  have c3b1 : (a0_0 != a1_0) = true := bne_iff_ne.mpr c3
  obtain rfl := Option.some.inj H
  go_enter Try.func39, Try.ntmps39
  go_wp2_with (first | ((with_reducible refine gate_dst (N := 2) rfl ?_); refine bE 2 #[.int .i64 a0_0, .int .i64 a0_1, .slice A0_2 l0_2.length c0_2] 43 ?_; intro gb215 hg w24 hbox hb; have BK215 := Aside0.mk (hbox); have GW215 := bG HB hg; have GE215 := bG HB hg; replace HB := bS HB hb; clear hb hbox hg) | ((with_reducible refine gate_dst (N := 3) rfl ?_); refine bE 3 #[.int .i64 a1_0, .int .i64 a1_1, .slice A1_2 l1_2.length c1_2] 43 ?_; intro gb216 hg w25 hbox hb; have BK216 := Aside0.mk (hbox); have GW216 := bG HB hg; have GE216 := bG HB hg; replace HB := bS HB hb; have NB215_216 := bL BK215 hg; have NB216_215 := bR BK215 hg; replace BK215 := bB BK215 hb; clear hb hbox hg; obtain ⟨hnb26, hnc26⟩ := nB NB215_216; obtain ⟨hcz27_0, hcz27_1, hcz27_2, hfz27_0, hfz27_1, hfz27_2⟩ := bK3 (w := w25) BK215; obtain ⟨hcz28_0, hcz28_1, hcz28_2, hfz28_0, hfz28_1, hfz28_2⟩ := bK3 (w := w25) BK216))
  go_ret
  exact ⟨rR, bZ HB⟩
def laws_markIntS.l0 : Nat → List Int → Int → Int → Option (Int × List Int)
 | 0, _, _, _ => none
 | k + 1, x0, x1, x5 => if x5 < (x0.length : Int) then (if 0 ≤ x5 then (laws_markIntS.l0 k (x0.set (x5 : Int).toNat x1) (wrap64 (x1 + 1)) (wrap64 (x5 + 1))) else (none)) else (some (x1, x0))
def laws_markIntS.f (k : Nat) (l0 : List Int) (a1 : Int) : Option (Int × List Int) := laws_markIntS.l0 k l0 a1 0
set_option maxHeartbeats 8000000 in
set_option maxRecDepth 100000 in
theorem laws_markIntS.calls (k : Nat) (P0_ : Nat → Prop) (u9000_ : Value) (l0 : List Int) (a1 : Int) (r1 : Int) (r2 : List Int) (w0 w : World) (hB : Below w0.heap.size w0 w) (ho0 : Kd.R (Kd.int .i64) 3 w w0.heap.size P0_ u9000_ l0) (h : laws_markIntS.f k l0 a1 = some (r1, r2)) :
  Calls Try.prog 24 #[u9000_, .int .i64 a1] w fun e w' => e = .returned (.int .i64 r1) ∧ Kd.R (Kd.int .i64) 3 w' w0.heap.size (fun k_ => (P0_ k_ ∨ w.heap.size ≤ k_)) u9000_ r2 ∧ Below w0.heap.size w0 w' ∧ Kept w w' (fun k_ => P0_ k_) := by
 have HO0 := Aside0.mk (show Kd.R (Kd.int .i64) 3 w w0.heap.size (fun k_ => (P0_ k_ ∨ w.heap.size ≤ k_)) u9000_ l0 from Kd.R_mono ho0 (fun k_ hk => (.inl hk)))
 have HK := Aside0.mk (Kept.refl w (fun k_ => P0_ k_))
 have HW0 := Aside0.mk hB.size
 have HB := Aside0.mk hB
 clear hB
 have H : (laws_markIntS.l0 k l0 a1 0) = some (r1, r2) := h
 clear h
 have H' := Aside0.mk H
 clear H
 go_enter Try.func24, Try.ntmps24
 go_wp2
 go_loopg [1, 5] k (fun kq v1 v5 w' => ∃ (x0_1 : List Int) (x1_1 : Int) (x5_1 : Int), v1 = .int .i64 x1_1 ∧ v5 = .int .i64 x5_1 ∧ Aside0 (laws_markIntS.l0 kq x0_1 x1_1 x5_1 = some (r1, r2)) ∧ Aside0 (kq ≤ k) ∧ Aside0 (Kd.R (Kd.int .i64) 3 w' w0.heap.size (fun k_ => (P0_ k_ ∨ w.heap.size ≤ k_)) u9000_ x0_1) ∧ Aside0 (Kept w w' (fun k_ => P0_ k_)) ∧ Aside0 (Below w0.heap.size w0 w'))
 case atStart => exact ⟨(l0), (a1), (0), rS, rS, H', ⟨Nat.le_refl _⟩, ⟨rP HO0⟩, ⟨by repeat (first | (with_reducible first | exact HK.out | apply Kept.alloc | apply Kept.drewN | apply Kept.drew) | exact HK.out)⟩, ⟨bZ HB⟩⟩
 case round =>
  clear H'
  try clear c2
  try clear p2
  obtain ⟨x0_1, x1_1, x5_1, rfl, rfl, HA, HK1, HO_0, HK, HB⟩ := hrel
  cases gk with
  | zero => exact absurd HA.out (by simp [laws_markIntS.l0])
  | succ k1 =>
   have H := HA.out
   clear HA
   simp only [laws_markIntS.l0] at H
   by_cases c3 : x5_1 < (x0_1.length : Int)
   ·rw [if_pos c3] at H
    have c3b0 : decide (x5_1 < (x0_1.length : Int)) = true := decide_eq_true c3
    clear c3
    by_cases c4 : 0 ≤ x5_1
    ·rw [if_pos c4] at H
     have c4b0 : decide (0 ≤ x5_1) = true := decide_eq_true c4
     clear c4
     obtain ⟨y218, hy218⟩ : ∃ y_ : List Int, y_ = (x0_1.set (x5_1 : Int).toNat x1_1) := ⟨_, rfl⟩
     replace H : (laws_markIntS.l0 k1 y218 (wrap64 (x1_1 + 1)) (wrap64 (x5_1 + 1))) = some (r1, r2) := by first | (rw [hy218]; with_reducible exact H) | (have H2_ := (Option.bind_some _ _).symm.trans H; rw [hy218]; with_reducible exact H2_) | (have H2_ := (Option.bind_some _ _).symm.trans H; with_reducible exact H2_) | with_reducible exact H | (rw [hy218]; exact H) | exact H
     have Ny218 := Aside0.mk hy218
     clear hy218
     have H' := Aside0.mk H
     clear H
     obtain ⟨Ao6, co6, eo6⟩ := Kd.R_slice HO_0.out
     subst eo6
     have p5 : 0 ≤ (x5_1 : Int) := of_decide_eq_true (by first | (with_reducible assumption) | assumption)
     have q5 : (x5_1 : Int) < ((x0_1.length : Int) : Int) := of_decide_eq_true (by first | (with_reducible assumption) | assumption)
     obtain ⟨go5, co5, eo5, gb5, gl5, cl5, HG5⟩ := Kd.R_form HO_0.out (by omega)
     (first | cases eo5 | (injection eo5 with ea_ en_ ec_; (first | subst ea_ | (injection ea_ with ea_; subst ea_)); subst ec_; clear en_))
     have GB5 := Aside0.mk gb5
     have GG5 := Aside0.mk HG5
     clear gb5 gl5 HG5
     have HMgo5 := Aside0.mk (show (P0_ go5 ∨ w.heap.size ≤ go5) from (HO_0.out.1 _ rfl))
     obtain ⟨hx5_0, hf5_0⟩ := Kd.R_celln 0 HO_0.out (x5_1 : Int) p5 q5
     replace p5 := eq_true p5
     replace q5 := eq_true q5
     have HP7 := Kd.R_putg HO_0.out (x5_1 : Int) x1_1
     go_wp2_with (first | ((with_reducible refine gate_store (t := 3) (p := 15) rfl ?_); refine store_event (t := 3) (p := 15) (v := ?vo_w8) (w1 := (wr.setCell ⟨go5, (x5_1 : Int).toNat, none⟩ (.int .i64 x1_1))) ?hg ?ho ?hn ?hr ?_; (case ho => rfl); (case hg => rfl); (case hn => rfl); (case hr => first | (go_simp; done) | (go_simp; rfl)); intro w8 hw; have hg : wr.grownBy w8 (some go5) := (by rw [hw]; exact HP7.2); have hp_ : Kd.R (Kd.int .i64) 3 w8 w0.heap.size (fun k_ => (P0_ k_ ∨ w.heap.size ≤ k_)) (.slice (some ⟨go5, 0, none⟩) x0_1.length co6) y218 := (by rw [hw, Ny218.out]; exact HP7.1); clear HP7; replace HB := Aside0.mk ((by rw [hw]; exact below_set (HB.out) GB5.out : Below w0.heap.size w0 w8)); replace HK := Aside0.mk (Kept.of_grown (S := (fun k_ => P0_ k_)) hg (by repeat (first | (with_reducible first | exact HK.out | apply Kept.alloc | apply Kept.drewN | apply Kept.drew) | exact HK.out)) (fun k_ e_ => (HO_0.out.1 k_ e_))); replace HO_0 := Aside0.mk (hp_); clear hg hw hp_))
     go_roundg k1
     case measure => have := HK1.out; omega
     case rel => exact ⟨(y218), (wrap64 (x1_1 + 1)), (wrap64 (x5_1 + 1)), rS, rS, H', ⟨by have := HK1.out; omega⟩, ⟨rP HO_0⟩, ⟨by repeat (first | (with_reducible first | exact HK.out | apply Kept.alloc | apply Kept.drewN | apply Kept.drew) | exact HK.out)⟩, ⟨bZ HB⟩⟩
    ·rw [if_neg c4] at H
     exact absurd H (by simp)
   ·rw [if_neg c3] at H
    have c3b0 : decide (x5_1 < (x0_1.length : Int)) = false := decide_eq_false c3
    clear c3
    simp only [Option.some.injEq, Prod.mk.injEq] at H
    obtain ⟨rfl, rfl⟩ := H
    obtain ⟨Ao9, co9, eo9⟩ := Kd.R_slice HO_0.out
    subst eo9
    go_wp2
    go_ret
    exact ⟨by first | rfl | (simp [errW_none, errW_some] <;> rfl) | (simp [*, errW_none, errW_some] <;> rfl), by (with_reducible repeat (first | apply Kd.R_alloc | apply Kd.R_drewN | apply Kd.R_drew)); exact HO_0.out, bZ HB, by repeat (first | (with_reducible first | exact HK.out | apply Kept.alloc | apply Kept.drewN | apply Kept.drew) | exact HK.out)⟩
def laws_markRowS.rd (xs : List S75) (i : Int) : S75 := xs.getD i.toNat z75
def laws_markRowS.l0 : Nat → List S75 → Int → Int → Option (Int × List S75)
 | 0, _, _, _ => none
 | k + 1, x0, x1, x5 => if x5 < (x0.length : Int) then (if 0 ≤ x5 then ((laws_markIntS.f k (laws_markRowS.rd x0 x5).f0 x1).bind fun b1 => ((laws_markIntS.f k (laws_markRowS.rd x0 x5).f1 b1.1).bind fun b2 => ((laws_markIntS.f k (laws_markRowS.rd x0 x5).f2 b2.1).bind fun b3 => (laws_markRowS.l0 k (x0.set x5.toNat (⟨b1.2, b2.2, b3.2⟩ : S75)) b3.1 (wrap64 (x5 + 1)))))) else (none)) else (some (x1, x0))
def laws_markRowS.g (k : Nat) (l0 : List S75) (a1 : Int) : Option (Int × List S75) := laws_markRowS.l0 k l0 a1 0
set_option maxHeartbeats 8000000 in
set_option maxRecDepth 100000 in
theorem laws_markRowS.callsg (k : Nat) (P_ : Nat → Prop) (u_ : Value) (l0 : List S75) (a1 : Int) (r1 : Int) (r2 : List S75) (w0 w : World) (hB : Below w0.heap.size w0 w) (ho0 : Kd.S k75 75 w w0.heap.size P_ u_ l0) (h : laws_markRowS.g k l0 a1 = some (r1, r2)) :
  Calls Try.prog 69 #[u_, .int .i64 a1] w fun e w' => e = .returned (.int .i64 r1) ∧ Kd.S k75 75 w' w0.heap.size P_ u_ r2 ∧ Below w0.heap.size w0 w' ∧ Kept w w' P_ := by
 obtain ⟨A0, c0, rfl⟩ := Kd.S_slice ho0
 have HO0 := Aside0.mk ho0
 have HK := Aside0.mk (Kept.refl w P_)
 have HB := Aside0.mk hB
 clear hB ho0
 have H : (laws_markRowS.l0 k l0 a1 0) = some (r1, r2) := h
 clear h
 have H' := Aside0.mk H
 clear H
 go_enter Try.func69, Try.ntmps69
 go_wp2
 go_loopg [1, 5] k (fun kq v1 v5 w' => ∃ (x0_1 : List S75) (x1_1 : Int) (x5_1 : Int), v1 = .int .i64 x1_1 ∧ v5 = .int .i64 x5_1 ∧ Aside0 (x0_1.length = l0.length) ∧ Aside0 (laws_markRowS.l0 kq x0_1 x1_1 x5_1 = some (r1, r2)) ∧ Aside0 (kq ≤ k) ∧ Aside0 (Kd.S k75 75 w' w0.heap.size P_ (.slice A0 l0.length c0) x0_1) ∧ Aside0 (Kept w w' P_) ∧ Aside0 (Below w0.heap.size w0 w'))
 case atStart => exact ⟨l0, a1, 0, by first | rfl | (simp; done), by first | rfl | (simp; done), ⟨rfl⟩, H', ⟨Nat.le_refl _⟩, ⟨by (with_reducible repeat (first | apply Kd.S_alloc | apply Kd.S_drewN | apply Kd.S_drew)); exact HO0.out⟩, ⟨by repeat (first | (with_reducible first | exact HK.out | apply Kept.alloc | apply Kept.drewN | apply Kept.drew) | exact HK.out)⟩, ⟨bZ HB⟩⟩
 case round =>
  clear H' HO0 HK HB
  obtain ⟨x0_1, x1_1, x5_1, rfl, rfl, HE, HA, HK1, HO, HK, HB⟩ := hrel
  cases gk with
  | zero => exact absurd HA.out (by simp [laws_markRowS.l0])
  | succ k1 =>
   have H := HA.out
   clear HA
   simp only [laws_markRowS.l0] at H
   by_cases c3 : x5_1 < (x0_1.length : Int)
   ·rw [if_pos c3] at H
    have c3b0 : decide (x5_1 < (l0.length : Int)) = true := decide_eq_true (by rw [← HE.out]; exact c3)
    by_cases c4 : 0 ≤ x5_1
    ·rw [if_pos c4] at H
     have c4b0 := decide_eq_true c4
     replace H := Option.bind_eq_some_iff.mp H
     obtain ⟨⟨t1_, y1_⟩, A50, H⟩ := H
     have A5 := Aside0.mk A50
     clear A50
     replace H := Option.bind_eq_some_iff.mp H
     obtain ⟨⟨t2_, y2_⟩, A60, H⟩ := H
     have A6 := Aside0.mk A60
     clear A60
     replace H := Option.bind_eq_some_iff.mp H
     obtain ⟨⟨t3_, y3_⟩, A70, H⟩ := H
     have A7 := Aside0.mk A70
     clear A70
     have H' := Aside0.mk H
     clear H
     obtain ⟨g0_, cap_, hv_, _, _, _⟩ := Kd.S_form HO.out (by omega)
     injection hv_ with ha_ hn_ hc_
     clear hn_
     subst ha_ hc_
     have q0_ : x5_1 < ((l0.length : Nat) : Int) := by rw [← HE.out]; exact c3
     obtain ⟨oki, c_, hcl_, hM_, hcc_, hoki_, hH_⟩ := Kd.S_lend HO.out z75 x5_1 c4 q0_
     have HH := Aside0.mk hH_
     have HOK := Aside0.mk hoki_
     clear hH_ hoki_ HO
     have p1_ : (0 ≤ x5_1) = True := eq_true c4
     have q1_ : (x5_1 < ((l0.length : Nat) : Int)) = True := eq_true q0_
     obtain ⟨v0_, v1_, v2_, rfl, o0, o1, o2, i0, i1, i2, a01, a02, a12, hR0_, hR1_, hR2_⟩ := k75_openA hM_
     obtain ⟨B0, d0, rfl⟩ := Kd.R_slice hR0_
     obtain ⟨B1, d1, rfl⟩ := Kd.R_slice hR1_
     obtain ⟨B2, d2, rfl⟩ := Kd.R_slice hR2_
     have HR0 := Aside0.mk hR0_
     have HR1 := Aside0.mk hR1_
     have HR2 := Aside0.mk hR2_
     have AP := Aside0.mk (And.intro a01 (And.intro a02 a12))
     have IN := Aside0.mk (And.intro i0 (And.intro i1 i2))
     have hx0_ : wr.cell? ⟨g0_, x5_1.toNat * 3, none⟩ = some (.slice B0 (laws_markRowS.rd x0_1 x5_1).f0.length d0) := hcc_ 0 _ rfl
     clear hcc_ hcl_ hR0_ hR1_ hR2_ a01 a02 a12 i0 i1 i2 c3 c4
     go_wp2_with (first
      | ((with_reducible refine gate_callee (f := 24) rfl ?_); refine goesL_ (some 18) rfl rfl Try.func24 (by kernel_rfl) rfl #[.slice B0 (laws_markRowS.rd x0_1 x5_1).f0.length d0, .int .i64 x1_1] rfl (by (try simp only [List.map_toArray, List.map_cons, List.map_nil]); first | done | rfl) ?_; (refine (laws_markIntS.calls k1 (fun k_ => some k_ = (Value.slice B0 (laws_markRowS.rd x0_1 x5_1).f0.length d0).ownBlock) (.slice B0 (laws_markRowS.rd x0_1 x5_1).f0.length d0) (laws_markRowS.rd x0_1 x5_1).f0 x1_1 t1_ y1_ w0 _ ?side1 ?side2 A5.out).mono ?_); (case side1 => repeat (first | (with_reducible first | exact HB.out | apply below_alloc | apply pw_below_drewN | apply below_drew1) | exact HB.out)); (case side2 => (with_reducible repeat (first | apply Kd.R_alloc | apply Kd.R_drewN | apply Kd.R_drew)); exact Kd.R_tight rfl HR0.out); rintro e w2 ⟨rfl, hy0, hb, hkp⟩; refine ⟨_, rfl, ?_⟩; have n0_ := Aside0.mk (Kd.H_step (show Kd.H _ _ _ _ _ _ _ _ _ _ by (with_reducible repeat (first | apply Kd.H_alloc | apply Kd.H_drewN | apply Kd.H_drew)); exact HH.out) (fun k_ _ hn_ hl_ => hkp.2 k_ hl_ (fun hs_ => hn_ (IN.out.1 k_ (HR0.out.1 k_ hs_.symm))))); have n1_ := Aside0.mk (Kept.then_ (show Kept w _ P_ by repeat (first | (with_reducible first | exact HK.out | apply Kept.alloc | apply Kept.drewN | apply Kept.drew) | exact HK.out)) hkp (fun k_ hs_ => .inl (HOK.out k_ (IN.out.1 k_ (HR0.out.1 k_ hs_.symm))).1)); have n2_ := Aside0.mk (Kd.R_kept (show Kd.R _ _ _ _ _ _ _ by (with_reducible repeat (first | apply Kd.R_alloc | apply Kd.R_drewN | apply Kd.R_drew)); exact HR1.out) hkp (fun k_ hk_ hs_ => AP.out.1 k_ (HR0.out.1 k_ hs_.symm) hk_)); have n3_ := Aside0.mk (Kd.R_kept (show Kd.R _ _ _ _ _ _ _ by (with_reducible repeat (first | apply Kd.R_alloc | apply Kd.R_drewN | apply Kd.R_drew)); exact HR2.out) hkp (fun k_ hk_ hs_ => AP.out.2.1 k_ (HR0.out.1 k_ hs_.symm) hk_)); have n4_ := Aside0.mk (Kd.R_reok rfl hy0 (fun k_ e_ => HR0.out.1 k_ e_)); clear HB HK HH HR0 HR1 HR2; have HH := n0_; have HK := n1_; have HR1 := n2_; have HR2 := n3_; have HR0 := n4_; have HB := Aside0.mk hb; clear n0_ n1_ n2_ n3_ n4_ hb hkp hy0; obtain ⟨_, _, _, _, _, hce_, _⟩ := Kd.H_raw HH.out (of_eq_true p1_) (of_eq_true q1_); have hx1_ : w2.cell? ⟨g0_, x5_1.toNat * 3 + 1, none⟩ = some (.slice B1 (laws_markRowS.rd x0_1 x5_1).f1.length d1) := hce_ 1 _ rfl; clear hce_)
      | ((with_reducible refine gate_callee (f := 24) rfl ?_); refine goesL_ (some 25) rfl rfl Try.func24 (by kernel_rfl) rfl #[.slice B1 (laws_markRowS.rd x0_1 x5_1).f1.length d1, .int .i64 t1_] rfl (by (try simp only [List.map_toArray, List.map_cons, List.map_nil]); first | done | rfl) ?_; (refine (laws_markIntS.calls k1 (fun k_ => some k_ = (Value.slice B1 (laws_markRowS.rd x0_1 x5_1).f1.length d1).ownBlock) (.slice B1 (laws_markRowS.rd x0_1 x5_1).f1.length d1) (laws_markRowS.rd x0_1 x5_1).f1 t1_ t2_ y2_ w0 _ ?side1 ?side2 A6.out).mono ?_); (case side1 => repeat (first | (with_reducible first | exact HB.out | apply below_alloc | apply pw_below_drewN | apply below_drew1) | exact HB.out)); (case side2 => (with_reducible repeat (first | apply Kd.R_alloc | apply Kd.R_drewN | apply Kd.R_drew)); exact Kd.R_tight rfl HR1.out); rintro e w3 ⟨rfl, hy0, hb, hkp⟩; refine ⟨_, rfl, ?_⟩; have n0_ := Aside0.mk (Kd.H_step (show Kd.H _ _ _ _ _ _ _ _ _ _ by (with_reducible repeat (first | apply Kd.H_alloc | apply Kd.H_drewN | apply Kd.H_drew)); exact HH.out) (fun k_ _ hn_ hl_ => hkp.2 k_ hl_ (fun hs_ => hn_ (IN.out.2.1 k_ (HR1.out.1 k_ hs_.symm))))); have n1_ := Aside0.mk (Kept.then_ (show Kept w _ P_ by repeat (first | (with_reducible first | exact HK.out | apply Kept.alloc | apply Kept.drewN | apply Kept.drew) | exact HK.out)) hkp (fun k_ hs_ => .inl (HOK.out k_ (IN.out.2.1 k_ (HR1.out.1 k_ hs_.symm))).1)); have n2_ := Aside0.mk (Kd.R_kept (show Kd.R _ _ _ _ _ _ _ by (with_reducible repeat (first | apply Kd.R_alloc | apply Kd.R_drewN | apply Kd.R_drew)); exact HR0.out) hkp (fun k_ hk_ hs_ => AP.out.1 k_ hk_ (HR1.out.1 k_ hs_.symm))); have n3_ := Aside0.mk (Kd.R_kept (show Kd.R _ _ _ _ _ _ _ by (with_reducible repeat (first | apply Kd.R_alloc | apply Kd.R_drewN | apply Kd.R_drew)); exact HR2.out) hkp (fun k_ hk_ hs_ => AP.out.2.2 k_ (HR1.out.1 k_ hs_.symm) hk_)); have n4_ := Aside0.mk (Kd.R_reok rfl hy0 (fun k_ e_ => HR1.out.1 k_ e_)); clear HB HK HH HR0 HR1 HR2; have HH := n0_; have HK := n1_; have HR0 := n2_; have HR2 := n3_; have HR1 := n4_; have HB := Aside0.mk hb; clear n0_ n1_ n2_ n3_ n4_ hb hkp hy0; obtain ⟨_, _, _, _, _, hce_, _⟩ := Kd.H_raw HH.out (of_eq_true p1_) (of_eq_true q1_); have hx2_ : w3.cell? ⟨g0_, x5_1.toNat * 3 + 2, none⟩ = some (.slice B2 (laws_markRowS.rd x0_1 x5_1).f2.length d2) := hce_ 2 _ rfl; clear hce_)
      | ((with_reducible refine gate_callee (f := 24) rfl ?_); refine goesL_ (some 32) rfl rfl Try.func24 (by kernel_rfl) rfl #[.slice B2 (laws_markRowS.rd x0_1 x5_1).f2.length d2, .int .i64 t2_] rfl (by (try simp only [List.map_toArray, List.map_cons, List.map_nil]); first | done | rfl) ?_; (refine (laws_markIntS.calls k1 (fun k_ => some k_ = (Value.slice B2 (laws_markRowS.rd x0_1 x5_1).f2.length d2).ownBlock) (.slice B2 (laws_markRowS.rd x0_1 x5_1).f2.length d2) (laws_markRowS.rd x0_1 x5_1).f2 t2_ t3_ y3_ w0 _ ?side1 ?side2 A7.out).mono ?_); (case side1 => repeat (first | (with_reducible first | exact HB.out | apply below_alloc | apply pw_below_drewN | apply below_drew1) | exact HB.out)); (case side2 => (with_reducible repeat (first | apply Kd.R_alloc | apply Kd.R_drewN | apply Kd.R_drew)); exact Kd.R_tight rfl HR2.out); rintro e w4 ⟨rfl, hy0, hb, hkp⟩; refine ⟨_, rfl, ?_⟩; have n0_ := Aside0.mk (Kd.H_step (show Kd.H _ _ _ _ _ _ _ _ _ _ by (with_reducible repeat (first | apply Kd.H_alloc | apply Kd.H_drewN | apply Kd.H_drew)); exact HH.out) (fun k_ _ hn_ hl_ => hkp.2 k_ hl_ (fun hs_ => hn_ (IN.out.2.2 k_ (HR2.out.1 k_ hs_.symm))))); have n1_ := Aside0.mk (Kept.then_ (show Kept w _ P_ by repeat (first | (with_reducible first | exact HK.out | apply Kept.alloc | apply Kept.drewN | apply Kept.drew) | exact HK.out)) hkp (fun k_ hs_ => .inl (HOK.out k_ (IN.out.2.2 k_ (HR2.out.1 k_ hs_.symm))).1)); have n2_ := Aside0.mk (Kd.R_kept (show Kd.R _ _ _ _ _ _ _ by (with_reducible repeat (first | apply Kd.R_alloc | apply Kd.R_drewN | apply Kd.R_drew)); exact HR0.out) hkp (fun k_ hk_ hs_ => AP.out.2.1 k_ hk_ (HR2.out.1 k_ hs_.symm))); have n3_ := Aside0.mk (Kd.R_kept (show Kd.R _ _ _ _ _ _ _ by (with_reducible repeat (first | apply Kd.R_alloc | apply Kd.R_drewN | apply Kd.R_drew)); exact HR1.out) hkp (fun k_ hk_ hs_ => AP.out.2.2 k_ hk_ (HR2.out.1 k_ hs_.symm))); have n4_ := Aside0.mk (Kd.R_reok rfl hy0 (fun k_ e_ => HR2.out.1 k_ e_)); have n5_ := Aside0.mk (Kd.H_back n0_.out (k75_mkA _ _ oki _ _ _ (⟨y1_, y2_, y3_⟩ : S75) IN.out.1 IN.out.2.1 IN.out.2.2 AP.out.1 AP.out.2.1 AP.out.2.2 n2_.out n3_.out n4_.out) (fun _ hk_ => hk_)); clear HB HK HH HR0 HR1 HR2 HOK AP IN; have HO := n5_; have HK := n1_; have HB := Aside0.mk hb; clear n0_ n1_ n2_ n3_ n4_ n5_ hb hkp hy0))
     go_roundg k1
     case measure => have := HK1.out; omega
     case rel => exact ⟨(x0_1.set x5_1.toNat (⟨y1_, y2_, y3_⟩ : S75)), t3_, (wrap64 (x5_1 + 1)), by first | rfl | (simp; done), by first | rfl | (simp; done), ⟨by rw [List.length_set]; exact HE.out⟩, H', ⟨by have := HK1.out; omega⟩, ⟨by (with_reducible repeat (first | apply Kd.S_alloc | apply Kd.S_drewN | apply Kd.S_drew)); exact HO.out⟩, ⟨by repeat (first | (with_reducible first | exact HK.out | apply Kept.alloc | apply Kept.drewN | apply Kept.drew) | exact HK.out)⟩, ⟨bZ HB⟩⟩
    ·rw [if_neg c4] at H
     exact absurd H (by simp)
   ·rw [if_neg c3] at H
    have c3b0 : decide (x5_1 < (l0.length : Int)) = false := decide_eq_false (by rw [← HE.out]; exact c3)
    clear c3
    simp only [Option.some.injEq, Prod.mk.injEq] at H
    obtain ⟨rfl, rfl⟩ := H
    go_wp2
    go_ret
    exact ⟨by first | rfl | (simp; done), by (with_reducible repeat (first | apply Kd.S_alloc | apply Kd.S_drewN | apply Kd.S_drew)); exact HO.out, bZ HB, by repeat (first | (with_reducible first | exact HK.out | apply Kept.alloc | apply Kept.drewN | apply Kept.drew) | exact HK.out)⟩
def laws_markSystem.g (k : Nat) (a0_0 : Int) (a0_1 : Int) (l0_2 : List S75) (a1 : Int) : Option (Int × List S75) := laws_markRowS.g k l0_2 a1
set_option maxHeartbeats 8000000 in
set_option maxRecDepth 100000 in
theorem laws_markSystem.callsg (k : Nat) (P_ : Nat → Prop) (a0_0 : Int) (a0_1 : Int) (u_ : Value) (l0 : List S75) (a1 : Int) (r1 : Int) (r2 : List S75) (w0 w : World) (hB : Below w0.heap.size w0 w) (ho0 : Kd.S k75 75 w w0.heap.size P_ u_ l0) (h : laws_markSystem.g k a0_0 a0_1 l0 a1 = some (r1, r2)) :
  Calls Try.prog 40 #[.agg #[.int .i64 a0_0, .int .i64 a0_1, u_], .int .i64 a1] w fun e w' => e = .returned (.int .i64 r1) ∧ Kd.S k75 75 w' w0.heap.size P_ u_ r2 ∧ Below w0.heap.size w0 w' ∧ Kept w w' P_ := by
 obtain ⟨A0, c0, rfl⟩ := Kd.S_slice ho0
 have hu43 := Try.underlying43
 have HO := Aside0.mk ho0
 have HK := Aside0.mk (Kept.refl w P_)
 have HB := Aside0.mk hB
 have A3 := Aside0.mk (show laws_markRowS.g k l0 a1 = some (r1, r2) from h)
 clear hB ho0 h
 go_enter Try.func40, Try.ntmps40
 go_wp2_with (first
  | ((with_reducible refine gate_dst (N := 2) rfl ?_); refine bE 2 #[.int .i64 a0_0, .int .i64 a0_1, .slice A0 l0.length c0] 43 ?_; intro gb9 hg w4 hbox hb; have BK9 := Aside0.mk (hbox); have n0_ := Aside0.mk (Kd.S_below (show Kd.S _ _ _ _ _ _ _ by (with_reducible repeat (first | apply Kd.S_alloc | apply Kd.S_drewN | apply Kd.S_drew)); exact HO.out) hb); have n1_ := Aside0.mk (Kept.then_ (show Kept w _ P_ by repeat (first | (with_reducible first | exact HK.out | apply Kept.alloc | apply Kept.drewN | apply Kept.drew) | exact HK.out)) (Kept.of_below hb P_) (fun _ h_ => .inl h_)); have n2_ := bS HB hb; clear HO HK HB; have HO := n0_; have HK := n1_; have HB := n2_; clear n0_ n1_ n2_ hb hbox hg; have hcz5_0 : w4.cell? ⟨gb9, 0, none⟩ = some (.int .i64 a0_0) := bc BK9 0; have hcz5_1 : w4.cell? ⟨gb9, 1, none⟩ = some (.int .i64 a0_1) := bc BK9 1; have hcz5_2 : w4.cell? ⟨gb9, 2, none⟩ = some (.slice A0 l0.length c0) := bc BK9 2)
  | ((with_reducible refine gate_callee (f := 69) rfl ?_); refine goesL_ (some 8) rfl rfl Try.func69 (by kernel_rfl) rfl #[.slice A0 l0.length c0, .int .i64 a1] rfl (by (try simp only [List.map_toArray, List.map_cons, List.map_nil]); first | done | rfl) ?_; (refine (laws_markRowS.callsg k P_ (.slice A0 l0.length c0) l0 a1 r1 r2 w0 _ ?side1 ?side2 A3.out).mono ?_); (case side1 => repeat (first | (with_reducible first | exact HB.out | apply below_alloc | apply pw_below_drewN | apply below_drew1) | exact HB.out)); (case side2 => (with_reducible repeat (first | apply Kd.S_alloc | apply Kd.S_drewN | apply Kd.S_drew)); exact HO.out); rintro e w6 ⟨rfl, ho, hb, hkp⟩; refine ⟨_, rfl, ?_⟩; have n1_ := Aside0.mk (Kept.then_ (show Kept w _ P_ by repeat (first | (with_reducible first | exact HK.out | apply Kept.alloc | apply Kept.drewN | apply Kept.drew) | exact HK.out)) hkp (fun _ h_ => .inl h_)); clear HO HK HB; have HO := Aside0.mk ho; have HK := n1_; have HB := Aside0.mk hb; clear n1_ ho hb hkp))
 go_ret
 exact ⟨by first | rfl | (simp; done), by (with_reducible repeat (first | apply Kd.S_alloc | apply Kd.S_drewN | apply Kd.S_drew)); exact HO.out, bZ HB, by repeat (first | (with_reducible first | exact HK.out | apply Kept.alloc | apply Kept.drewN | apply Kept.drew) | exact HK.out)⟩
def laws_heldIntS.l0 : Nat → List Int → Int → Int → Option (Int)
 | 0, _, _, _ => none
 | k + 1, x0, x1, x5 => if x5 < (x0.length : Int) then (if 0 ≤ x5 then (if (rd x0 x5) = x1 then (laws_heldIntS.l0 k x0 (wrap64 (x1 + 1)) (wrap64 (x5 + 1))) else (some (-1))) else (none)) else (some x1)
def laws_heldIntS.f (k : Nat) (l0 : List Int) (a1 : Int) : Option (Int) := laws_heldIntS.l0 k l0 a1 0
set_option maxHeartbeats 8000000 in
set_option maxRecDepth 100000 in
theorem laws_heldIntS.calls (k : Nat) (A0 : Option Addr) (c0 : Nat) (l0 : List Int) (a1 : Int) (r : Int) (w : World) (hr0 : Kd.C (Kd.int .i64) w A0 l0.length l0) (hc0 : l0.length ≤ c0) (h : laws_heldIntS.f k l0 a1 = some r) :
  Calls Try.prog 25 #[.slice A0 l0.length c0, .int .i64 a1] w fun e w' => e = .returned (.int .i64 r) ∧ Drawn0 w w' := by
 have HR0 := Aside0.mk hr0
 have HC0 := Aside0.mk hc0
 clear hr0 hc0
 have H : (laws_heldIntS.l0 k l0 a1 0) = some r := h
 clear h
 have H' := Aside0.mk H
 clear H
 go_enter Try.func25, Try.ntmps25
 go_wp2
 go_loopg [1, 5] k (fun kq v1 v5 w' => ∃ (x1_1 : Int) (x5_1 : Int), v1 = .int .i64 x1_1 ∧ v5 = .int .i64 x5_1 ∧ Aside0 (laws_heldIntS.l0 kq l0 x1_1 x5_1 = some r) ∧ Aside0 (kq ≤ k) ∧ Drawn0 w w')
 case atStart => exact ⟨(a1), (0), rS, rS, H', ⟨Nat.le_refl _⟩, by repeat (first | exact Drawn0.refl _ | apply Drawn0.step)⟩
 case round =>
  clear H'
  try clear c2
  try clear p2
  obtain ⟨x1_1, x5_1, rfl, rfl, HA, HK1, ⟨m1, rfl⟩⟩ := hrel
  cases gk with
  | zero => exact absurd HA.out (by simp [laws_heldIntS.l0])
  | succ k1 =>
   have H := HA.out
   clear HA
   simp only [laws_heldIntS.l0] at H
   by_cases c3 : x5_1 < (l0.length : Int)
   ·rw [if_pos c3] at H
    have c3b0 : decide (x5_1 < (l0.length : Int)) = true := decide_eq_true c3
    clear c3
    by_cases c4 : 0 ≤ x5_1
    ·rw [if_pos c4] at H
     have c4b0 : decide (0 ≤ x5_1) = true := decide_eq_true c4
     clear c4
     by_cases c5 : (rd l0 x5_1) = x1_1
     ·rw [if_pos c5] at H
      have c5b0 : ((rd l0 x5_1) == x1_1) = true := beq_iff_eq.mpr c5
      have c5b1 : ((rd l0 x5_1) != x1_1) = false := bne_eq_false_iff_eq.mpr c5
      clear c5
      have H' := Aside0.mk H
      clear H
      have p219 : 0 ≤ (x5_1 : Int) := of_decide_eq_true (by first | (with_reducible assumption) | assumption)
      have q219 : x5_1 < (l0.length : Int) := of_decide_eq_true (by first | (with_reducible assumption) | assumption)
      obtain ⟨ad219, e219, hx219_0⟩ := Kd.at_int HR0.out x5_1 p219 q219
      cases e219
      replace p219 := eq_true p219
      replace q219 := eq_true q219
      go_wp2
      go_roundg k1
      case measure => have := HK1.out; omega
      case rel => exact ⟨(wrap64 (x1_1 + 1)), (wrap64 (x5_1 + 1)), rS, rS, H', ⟨by have := HK1.out; omega⟩, by repeat (first | exact Drawn0.refl _ | apply Drawn0.step)⟩
     ·rw [if_neg c5] at H
      have c5b0 : ((rd l0 x5_1) == x1_1) = false := beq_eq_false_iff_ne.mpr c5
      have c5b1 : ((rd l0 x5_1) != x1_1) = true := bne_iff_ne.mpr c5
      obtain rfl := Option.some.inj H
      have p219 : 0 ≤ (x5_1 : Int) := of_decide_eq_true (by first | (with_reducible assumption) | assumption)
      have q219 : x5_1 < (l0.length : Int) := of_decide_eq_true (by first | (with_reducible assumption) | assumption)
      obtain ⟨ad219, e219, hx219_0⟩ := Kd.at_int HR0.out x5_1 p219 q219
      cases e219
      replace p219 := eq_true p219
      replace q219 := eq_true q219
      go_wp2
      go_ret
      exact ⟨rS, rD⟩
    ·rw [if_neg c4] at H
     exact absurd H (by simp)
   ·rw [if_neg c3] at H
    have c3b0 : decide (x5_1 < (l0.length : Int)) = false := decide_eq_false c3
    clear c3
    obtain rfl := Option.some.inj H
    go_wp2
    go_ret
    exact ⟨rS, rD⟩
def laws_heldRowS.l0 : Nat → List (S75) → Int → Int → Option (Int)
 | 0, _, _, _ => none
 | k + 1, x0, x1, x5 => if x5 < (x0.length : Int) then (if 0 ≤ x5 then ((laws_heldIntS.f k ((rd_T75 x0 x5).f0) x1).bind fun t221 => (if t221 < 0 then (some (-1)) else ((laws_heldIntS.f k ((rd_T75 x0 x5).f1) t221).bind fun t223 => (if t223 < 0 then (some (-1)) else ((laws_heldIntS.f k ((rd_T75 x0 x5).f2) t223).bind fun t225 => (if t225 < 0 then (some (-1)) else (laws_heldRowS.l0 k x0 t225 (wrap64 (x5 + 1))))))))) else (none)) else (some x1)
def laws_heldRowS.f (k : Nat) (l0 : List (S75)) (a1 : Int) : Option (Int) := laws_heldRowS.l0 k l0 a1 0
set_option maxHeartbeats 8000000 in
set_option maxRecDepth 100000 in
theorem laws_heldRowS.calls (k : Nat) (A0 : Option Addr) (c0 : Nat) (l0 : List (S75)) (a1 : Int) (r : Int) (w : World) (hr0 : Kd.C k75 w A0 l0.length l0) (hc0 : l0.length ≤ c0) (h : laws_heldRowS.f k l0 a1 = some r) :
  Calls Try.prog 70 #[.slice A0 l0.length c0, .int .i64 a1] w fun e w' => e = .returned (.int .i64 r) ∧ Drawn0 w w' := by
 have HR0 := Aside0.mk hr0
 have HC0 := Aside0.mk hc0
 clear hr0 hc0
 have H : (laws_heldRowS.l0 k l0 a1 0) = some r := h
 clear h
 have H' := Aside0.mk H
 clear H
 go_enter Try.func70, Try.ntmps70
 go_wp2
 go_loopg [1, 5] k (fun kq v1 v5 w' => ∃ (x1_1 : Int) (x5_1 : Int), v1 = .int .i64 x1_1 ∧ v5 = .int .i64 x5_1 ∧ Aside0 (laws_heldRowS.l0 kq l0 x1_1 x5_1 = some r) ∧ Aside0 (kq ≤ k) ∧ Drawn0 w w')
 case atStart => exact ⟨(a1), (0), rS, rS, H', ⟨Nat.le_refl _⟩, by repeat (first | exact Drawn0.refl _ | apply Drawn0.step)⟩
 case round =>
  clear H'
  try clear p2
  obtain ⟨x1_1, x5_1, rfl, rfl, HA, HK1, ⟨m1, rfl⟩⟩ := hrel
  cases gk with
  | zero => exact absurd HA.out (by simp [laws_heldRowS.l0])
  | succ k1 =>
   have H := HA.out
   clear HA
   simp only [laws_heldRowS.l0] at H
   by_cases c3 : x5_1 < (l0.length : Int)
   ·rw [if_pos c3] at H
    have c3b0 : decide (x5_1 < (l0.length : Int)) = true := decide_eq_true c3
    clear c3
    by_cases c4 : 0 ≤ x5_1
    ·rw [if_pos c4] at H
     have c4b0 : decide (0 ≤ x5_1) = true := decide_eq_true c4
     clear c4
     replace H := Option.bind_eq_some_iff.mp H
     obtain ⟨t221, A50, H⟩ := H
     have A5 := Aside0.mk A50
     clear A50
     by_cases c6 : t221 < 0
     ·rw [if_pos c6] at H
      have c6b0 : decide (t221 < 0) = true := decide_eq_true c6
      clear c6
      obtain rfl := Option.some.inj H
      have p220 : 0 ≤ (x5_1 : Int) := of_decide_eq_true (by first | (with_reducible assumption) | assumption)
      have q220 : x5_1 < (l0.length : Int) := of_decide_eq_true (by first | (with_reducible assumption) | assumption)
      obtain ⟨ad220, A220_0, c220_0, A220_1, c220_1, A220_2, c220_2, e220, hx220_0, hx220_1, hx220_2, hl220_0, hi220_0, hl220_1, hi220_1, hl220_2, hi220_2⟩ := at_T75 HR0.out x5_1 p220 q220
      cases e220
      have HR220_0 := Aside0.mk hi220_0
      have HC220_0 := Aside0.mk hl220_0
      clear hi220_0 hl220_0
      have HR220_1 := Aside0.mk hi220_1
      have HC220_1 := Aside0.mk hl220_1
      clear hi220_1 hl220_1
      have HR220_2 := Aside0.mk hi220_2
      have HC220_2 := Aside0.mk hl220_2
      clear hi220_2 hl220_2
      replace p220 := eq_true p220
      replace q220 := eq_true q220
      go_wp2_with (first | ((with_reducible refine gate_callee (f := 25) rfl ?_); refine gL (some 18) Try.func25 #[.slice A220_0 ((rd_T75 l0 x5_1).f0).length c220_0, .int .i64 x1_1] ?_; (with_reducible refine (laws_heldIntS.calls k1 _ _ ((rd_T75 l0 x5_1).f0) x1_1 t221 _ ?side1 ?side2 A5.out).mono ?_); (case side1 => exact cP HR220_0.out); (case side2 => exact HC220_0.out); rintro e w' ⟨rfl, ⟨nd, rfl⟩⟩; refine ⟨_, rfl, ?_⟩))
      go_ret
      exact ⟨rS, rD⟩
     ·rw [if_neg c6] at H
      have c6b0 : decide (t221 < 0) = false := decide_eq_false c6
      clear c6
      replace H := Option.bind_eq_some_iff.mp H
      obtain ⟨t223, A70, H⟩ := H
      have A7 := Aside0.mk A70
      clear A70
      by_cases c8 : t223 < 0
      ·rw [if_pos c8] at H
       have c8b0 : decide (t223 < 0) = true := decide_eq_true c8
       clear c8
       obtain rfl := Option.some.inj H
       have p220 : 0 ≤ (x5_1 : Int) := of_decide_eq_true (by first | (with_reducible assumption) | assumption)
       have q220 : x5_1 < (l0.length : Int) := of_decide_eq_true (by first | (with_reducible assumption) | assumption)
       obtain ⟨ad220, A220_0, c220_0, A220_1, c220_1, A220_2, c220_2, e220, hx220_0, hx220_1, hx220_2, hl220_0, hi220_0, hl220_1, hi220_1, hl220_2, hi220_2⟩ := at_T75 HR0.out x5_1 p220 q220
       cases e220
       have HR220_0 := Aside0.mk hi220_0
       have HC220_0 := Aside0.mk hl220_0
       clear hi220_0 hl220_0
       have HR220_1 := Aside0.mk hi220_1
       have HC220_1 := Aside0.mk hl220_1
       clear hi220_1 hl220_1
       have HR220_2 := Aside0.mk hi220_2
       have HC220_2 := Aside0.mk hl220_2
       clear hi220_2 hl220_2
       replace p220 := eq_true p220
       replace q220 := eq_true q220
       go_wp2_with (first | ((with_reducible refine gate_callee (f := 25) rfl ?_); refine gL (some 18) Try.func25 #[.slice A220_0 ((rd_T75 l0 x5_1).f0).length c220_0, .int .i64 x1_1] ?_; (with_reducible refine (laws_heldIntS.calls k1 _ _ ((rd_T75 l0 x5_1).f0) x1_1 t221 _ ?side1 ?side2 A5.out).mono ?_); (case side1 => exact cP HR220_0.out); (case side2 => exact HC220_0.out); rintro e w' ⟨rfl, ⟨nd, rfl⟩⟩; refine ⟨_, rfl, ?_⟩; have p222 : 0 ≤ (x5_1 : Int) := of_decide_eq_true (by first | (with_reducible assumption) | assumption); have q222 : x5_1 < (l0.length : Int) := of_decide_eq_true (by first | (with_reducible assumption) | assumption); obtain ⟨ad222, A222_0, c222_0, A222_1, c222_1, A222_2, c222_2, e222, hx222_0, hx222_1, hx222_2, hl222_0, hi222_0, hl222_1, hi222_1, hl222_2, hi222_2⟩ := at_T75 HR0.out x5_1 p222 q222; obtain rfl : ad220 = ad222 := (by injection e222); have HR222_0 := Aside0.mk hi222_0; have HC222_0 := Aside0.mk hl222_0; clear hi222_0 hl222_0; have HR222_1 := Aside0.mk hi222_1; have HC222_1 := Aside0.mk hl222_1; clear hi222_1 hl222_1; have HR222_2 := Aside0.mk hi222_2; have HC222_2 := Aside0.mk hl222_2; clear hi222_2 hl222_2; replace p222 := eq_true p222; replace q222 := eq_true q222; have ea_ := Option.some.inj (hx220_0.symm.trans hx222_0); injection ea_ with ea_ en_ ec_; subst ea_; subst ec_; clear en_; have ea_ := Option.some.inj (hx220_1.symm.trans hx222_1); injection ea_ with ea_ en_ ec_; subst ea_; subst ec_; clear en_; have ea_ := Option.some.inj (hx220_2.symm.trans hx222_2); injection ea_ with ea_ en_ ec_; subst ea_; subst ec_; clear en_) | ((with_reducible refine gate_callee (f := 25) rfl ?_); refine gL (some 27) Try.func25 #[.slice A220_1 ((rd_T75 l0 x5_1).f1).length c220_1, .int .i64 t221] ?_; (with_reducible refine (laws_heldIntS.calls k1 _ _ ((rd_T75 l0 x5_1).f1) t221 t223 _ ?side1 ?side2 A7.out).mono ?_); (case side1 => exact cP HR222_1.out); (case side2 => exact HC222_1.out); rintro e w' ⟨rfl, ⟨nd, rfl⟩⟩; refine ⟨_, rfl, ?_⟩))
       go_ret
       exact ⟨rS, rD⟩
      ·rw [if_neg c8] at H
       have c8b0 : decide (t223 < 0) = false := decide_eq_false c8
       clear c8
       replace H := Option.bind_eq_some_iff.mp H
       obtain ⟨t225, A90, H⟩ := H
       have A9 := Aside0.mk A90
       clear A90
       by_cases c10 : t225 < 0
       ·rw [if_pos c10] at H
        have c10b0 : decide (t225 < 0) = true := decide_eq_true c10
        clear c10
        obtain rfl := Option.some.inj H
        have p220 : 0 ≤ (x5_1 : Int) := of_decide_eq_true (by first | (with_reducible assumption) | assumption)
        have q220 : x5_1 < (l0.length : Int) := of_decide_eq_true (by first | (with_reducible assumption) | assumption)
        obtain ⟨ad220, A220_0, c220_0, A220_1, c220_1, A220_2, c220_2, e220, hx220_0, hx220_1, hx220_2, hl220_0, hi220_0, hl220_1, hi220_1, hl220_2, hi220_2⟩ := at_T75 HR0.out x5_1 p220 q220
        cases e220
        have HR220_0 := Aside0.mk hi220_0
        have HC220_0 := Aside0.mk hl220_0
        clear hi220_0 hl220_0
        have HR220_1 := Aside0.mk hi220_1
        have HC220_1 := Aside0.mk hl220_1
        clear hi220_1 hl220_1
        have HR220_2 := Aside0.mk hi220_2
        have HC220_2 := Aside0.mk hl220_2
        clear hi220_2 hl220_2
        replace p220 := eq_true p220
        replace q220 := eq_true q220
        go_wp2_with (first | ((with_reducible refine gate_callee (f := 25) rfl ?_); refine gL (some 18) Try.func25 #[.slice A220_0 ((rd_T75 l0 x5_1).f0).length c220_0, .int .i64 x1_1] ?_; (with_reducible refine (laws_heldIntS.calls k1 _ _ ((rd_T75 l0 x5_1).f0) x1_1 t221 _ ?side1 ?side2 A5.out).mono ?_); (case side1 => exact cP HR220_0.out); (case side2 => exact HC220_0.out); rintro e w' ⟨rfl, ⟨nd, rfl⟩⟩; refine ⟨_, rfl, ?_⟩; have p222 : 0 ≤ (x5_1 : Int) := of_decide_eq_true (by first | (with_reducible assumption) | assumption); have q222 : x5_1 < (l0.length : Int) := of_decide_eq_true (by first | (with_reducible assumption) | assumption); obtain ⟨ad222, A222_0, c222_0, A222_1, c222_1, A222_2, c222_2, e222, hx222_0, hx222_1, hx222_2, hl222_0, hi222_0, hl222_1, hi222_1, hl222_2, hi222_2⟩ := at_T75 HR0.out x5_1 p222 q222; obtain rfl : ad220 = ad222 := (by injection e222); have HR222_0 := Aside0.mk hi222_0; have HC222_0 := Aside0.mk hl222_0; clear hi222_0 hl222_0; have HR222_1 := Aside0.mk hi222_1; have HC222_1 := Aside0.mk hl222_1; clear hi222_1 hl222_1; have HR222_2 := Aside0.mk hi222_2; have HC222_2 := Aside0.mk hl222_2; clear hi222_2 hl222_2; replace p222 := eq_true p222; replace q222 := eq_true q222; have ea_ := Option.some.inj (hx220_0.symm.trans hx222_0); injection ea_ with ea_ en_ ec_; subst ea_; subst ec_; clear en_; have ea_ := Option.some.inj (hx220_1.symm.trans hx222_1); injection ea_ with ea_ en_ ec_; subst ea_; subst ec_; clear en_; have ea_ := Option.some.inj (hx220_2.symm.trans hx222_2); injection ea_ with ea_ en_ ec_; subst ea_; subst ec_; clear en_) | ((with_reducible refine gate_callee (f := 25) rfl ?_); refine gL (some 27) Try.func25 #[.slice A220_1 ((rd_T75 l0 x5_1).f1).length c220_1, .int .i64 t221] ?_; (with_reducible refine (laws_heldIntS.calls k1 _ _ ((rd_T75 l0 x5_1).f1) t221 t223 _ ?side1 ?side2 A7.out).mono ?_); (case side1 => exact cP HR222_1.out); (case side2 => exact HC222_1.out); rintro e w' ⟨rfl, ⟨nd, rfl⟩⟩; refine ⟨_, rfl, ?_⟩; have p224 : 0 ≤ (x5_1 : Int) := of_decide_eq_true (by first | (with_reducible assumption) | assumption); have q224 : x5_1 < (l0.length : Int) := of_decide_eq_true (by first | (with_reducible assumption) | assumption); obtain ⟨ad224, A224_0, c224_0, A224_1, c224_1, A224_2, c224_2, e224, hx224_0, hx224_1, hx224_2, hl224_0, hi224_0, hl224_1, hi224_1, hl224_2, hi224_2⟩ := at_T75 HR0.out x5_1 p224 q224; obtain rfl : ad220 = ad224 := (by injection e224); have HR224_0 := Aside0.mk hi224_0; have HC224_0 := Aside0.mk hl224_0; clear hi224_0 hl224_0; have HR224_1 := Aside0.mk hi224_1; have HC224_1 := Aside0.mk hl224_1; clear hi224_1 hl224_1; have HR224_2 := Aside0.mk hi224_2; have HC224_2 := Aside0.mk hl224_2; clear hi224_2 hl224_2; replace p224 := eq_true p224; replace q224 := eq_true q224; have ea_ := Option.some.inj (hx220_0.symm.trans hx224_0); injection ea_ with ea_ en_ ec_; subst ea_; subst ec_; clear en_; have ea_ := Option.some.inj (hx220_1.symm.trans hx224_1); injection ea_ with ea_ en_ ec_; subst ea_; subst ec_; clear en_; have ea_ := Option.some.inj (hx220_2.symm.trans hx224_2); injection ea_ with ea_ en_ ec_; subst ea_; subst ec_; clear en_) | ((with_reducible refine gate_callee (f := 25) rfl ?_); refine gL (some 36) Try.func25 #[.slice A220_2 ((rd_T75 l0 x5_1).f2).length c220_2, .int .i64 t223] ?_; (with_reducible refine (laws_heldIntS.calls k1 _ _ ((rd_T75 l0 x5_1).f2) t223 t225 _ ?side1 ?side2 A9.out).mono ?_); (case side1 => exact cP HR224_2.out); (case side2 => exact HC224_2.out); rintro e w' ⟨rfl, ⟨nd, rfl⟩⟩; refine ⟨_, rfl, ?_⟩))
        go_ret
        exact ⟨rS, rD⟩
       ·rw [if_neg c10] at H
        have c10b0 : decide (t225 < 0) = false := decide_eq_false c10
        clear c10
        have H' := Aside0.mk H
        clear H
        have p220 : 0 ≤ (x5_1 : Int) := of_decide_eq_true (by first | (with_reducible assumption) | assumption)
        have q220 : x5_1 < (l0.length : Int) := of_decide_eq_true (by first | (with_reducible assumption) | assumption)
        obtain ⟨ad220, A220_0, c220_0, A220_1, c220_1, A220_2, c220_2, e220, hx220_0, hx220_1, hx220_2, hl220_0, hi220_0, hl220_1, hi220_1, hl220_2, hi220_2⟩ := at_T75 HR0.out x5_1 p220 q220
        cases e220
        have HR220_0 := Aside0.mk hi220_0
        have HC220_0 := Aside0.mk hl220_0
        clear hi220_0 hl220_0
        have HR220_1 := Aside0.mk hi220_1
        have HC220_1 := Aside0.mk hl220_1
        clear hi220_1 hl220_1
        have HR220_2 := Aside0.mk hi220_2
        have HC220_2 := Aside0.mk hl220_2
        clear hi220_2 hl220_2
        replace p220 := eq_true p220
        replace q220 := eq_true q220
        go_wp2_with (first | ((with_reducible refine gate_callee (f := 25) rfl ?_); refine gL (some 18) Try.func25 #[.slice A220_0 ((rd_T75 l0 x5_1).f0).length c220_0, .int .i64 x1_1] ?_; (with_reducible refine (laws_heldIntS.calls k1 _ _ ((rd_T75 l0 x5_1).f0) x1_1 t221 _ ?side1 ?side2 A5.out).mono ?_); (case side1 => exact cP HR220_0.out); (case side2 => exact HC220_0.out); rintro e w' ⟨rfl, ⟨nd, rfl⟩⟩; refine ⟨_, rfl, ?_⟩; have p222 : 0 ≤ (x5_1 : Int) := of_decide_eq_true (by first | (with_reducible assumption) | assumption); have q222 : x5_1 < (l0.length : Int) := of_decide_eq_true (by first | (with_reducible assumption) | assumption); obtain ⟨ad222, A222_0, c222_0, A222_1, c222_1, A222_2, c222_2, e222, hx222_0, hx222_1, hx222_2, hl222_0, hi222_0, hl222_1, hi222_1, hl222_2, hi222_2⟩ := at_T75 HR0.out x5_1 p222 q222; obtain rfl : ad220 = ad222 := (by injection e222); have HR222_0 := Aside0.mk hi222_0; have HC222_0 := Aside0.mk hl222_0; clear hi222_0 hl222_0; have HR222_1 := Aside0.mk hi222_1; have HC222_1 := Aside0.mk hl222_1; clear hi222_1 hl222_1; have HR222_2 := Aside0.mk hi222_2; have HC222_2 := Aside0.mk hl222_2; clear hi222_2 hl222_2; replace p222 := eq_true p222; replace q222 := eq_true q222; have ea_ := Option.some.inj (hx220_0.symm.trans hx222_0); injection ea_ with ea_ en_ ec_; subst ea_; subst ec_; clear en_; have ea_ := Option.some.inj (hx220_1.symm.trans hx222_1); injection ea_ with ea_ en_ ec_; subst ea_; subst ec_; clear en_; have ea_ := Option.some.inj (hx220_2.symm.trans hx222_2); injection ea_ with ea_ en_ ec_; subst ea_; subst ec_; clear en_) | ((with_reducible refine gate_callee (f := 25) rfl ?_); refine gL (some 27) Try.func25 #[.slice A220_1 ((rd_T75 l0 x5_1).f1).length c220_1, .int .i64 t221] ?_; (with_reducible refine (laws_heldIntS.calls k1 _ _ ((rd_T75 l0 x5_1).f1) t221 t223 _ ?side1 ?side2 A7.out).mono ?_); (case side1 => exact cP HR222_1.out); (case side2 => exact HC222_1.out); rintro e w' ⟨rfl, ⟨nd, rfl⟩⟩; refine ⟨_, rfl, ?_⟩; have p224 : 0 ≤ (x5_1 : Int) := of_decide_eq_true (by first | (with_reducible assumption) | assumption); have q224 : x5_1 < (l0.length : Int) := of_decide_eq_true (by first | (with_reducible assumption) | assumption); obtain ⟨ad224, A224_0, c224_0, A224_1, c224_1, A224_2, c224_2, e224, hx224_0, hx224_1, hx224_2, hl224_0, hi224_0, hl224_1, hi224_1, hl224_2, hi224_2⟩ := at_T75 HR0.out x5_1 p224 q224; obtain rfl : ad220 = ad224 := (by injection e224); have HR224_0 := Aside0.mk hi224_0; have HC224_0 := Aside0.mk hl224_0; clear hi224_0 hl224_0; have HR224_1 := Aside0.mk hi224_1; have HC224_1 := Aside0.mk hl224_1; clear hi224_1 hl224_1; have HR224_2 := Aside0.mk hi224_2; have HC224_2 := Aside0.mk hl224_2; clear hi224_2 hl224_2; replace p224 := eq_true p224; replace q224 := eq_true q224; have ea_ := Option.some.inj (hx220_0.symm.trans hx224_0); injection ea_ with ea_ en_ ec_; subst ea_; subst ec_; clear en_; have ea_ := Option.some.inj (hx220_1.symm.trans hx224_1); injection ea_ with ea_ en_ ec_; subst ea_; subst ec_; clear en_; have ea_ := Option.some.inj (hx220_2.symm.trans hx224_2); injection ea_ with ea_ en_ ec_; subst ea_; subst ec_; clear en_) | ((with_reducible refine gate_callee (f := 25) rfl ?_); refine gL (some 36) Try.func25 #[.slice A220_2 ((rd_T75 l0 x5_1).f2).length c220_2, .int .i64 t223] ?_; (with_reducible refine (laws_heldIntS.calls k1 _ _ ((rd_T75 l0 x5_1).f2) t223 t225 _ ?side1 ?side2 A9.out).mono ?_); (case side1 => exact cP HR224_2.out); (case side2 => exact HC224_2.out); rintro e w' ⟨rfl, ⟨nd, rfl⟩⟩; refine ⟨_, rfl, ?_⟩))
        go_roundg k1
        case measure => have := HK1.out; omega
        case rel => exact ⟨(t225), (wrap64 (x5_1 + 1)), rS, rS, H', ⟨by have := HK1.out; omega⟩, by repeat (first | exact Drawn0.refl _ | apply Drawn0.step)⟩
    ·rw [if_neg c4] at H
     exact absurd H (by simp)
   ·rw [if_neg c3] at H
    have c3b0 : decide (x5_1 < (l0.length : Int)) = false := decide_eq_false c3
    clear c3
    obtain rfl := Option.some.inj H
    go_wp2
    go_ret
    exact ⟨rS, rD⟩
def laws_heldSystem.f (k : Nat) (a0_0 : Int) (a0_1 : Int) (l0_2 : List (S75)) (a1 : Int) : Option (Int) := (laws_heldRowS.f k l0_2 a1).bind fun t227 => (if t227 < 0 then (some (-1)) else (some t227))
set_option maxHeartbeats 8000000 in
set_option maxRecDepth 100000 in
theorem laws_heldSystem.calls (k : Nat) (a0_0 : Int) (a0_1 : Int) (A0_2 : Option Addr) (c0_2 : Nat) (l0_2 : List (S75)) (a1 : Int) (r : Int) (w : World) (hr0_2 : Kd.C k75 w A0_2 l0_2.length l0_2) (hc0_2 : l0_2.length ≤ c0_2) (h : laws_heldSystem.f k a0_0 a0_1 l0_2 a1 = some r) :
  Calls Try.prog 41 #[.agg #[.int .i64 a0_0, .int .i64 a0_1, .slice A0_2 l0_2.length c0_2], .int .i64 a1] w fun e w' => e = .returned (.int .i64 r) ∧ Below w.heap.size w w' := by
 have hu43 := Try.underlying43
 have HR0_2 := Aside0.mk hr0_2
 have HC0_2 := Aside0.mk hc0_2
 clear hr0_2 hc0_2
 have HB := Aside0.mk (Below.refl w.heap.size w)
 have H : ((laws_heldRowS.f k l0_2 a1).bind fun t227 => (if t227 < 0 then (some (-1)) else (some t227))) = some r := h
 clear h
 replace H := Option.bind_eq_some_iff.mp H
 obtain ⟨t227, A30, H⟩ := H
 have A3 := Aside0.mk A30
 clear A30
 by_cases c4 : t227 < 0
 ·rw [if_pos c4] at H
  have c4b0 : decide (t227 < 0) = true := decide_eq_true c4
  clear c4
  obtain rfl := Option.some.inj H
  go_enter Try.func41, Try.ntmps41
  go_wp2_with (first | ((with_reducible refine gate_dst (N := 2) rfl ?_); refine bE 2 #[.int .i64 a0_0, .int .i64 a0_1, .slice A0_2 l0_2.length c0_2] 43 ?_; intro gb226 hg w5 hbox hb; have BK226 := Aside0.mk (hbox); have GW226 := bG HB hg; have GE226 := bG HB hg; replace HB := bS HB hb; clear hb hbox hg; obtain ⟨hcz6_0, hcz6_1, hcz6_2, hfz6_0, hfz6_1, hfz6_2⟩ := bK3 (w := w5) BK226) | ((with_reducible refine gate_callee (f := 70) rfl ?_); refine gL (some 8) Try.func70 #[.slice A0_2 l0_2.length c0_2, .int .i64 a1] ?_; (with_reducible refine (laws_heldRowS.calls k _ _ l0_2 a1 t227 _ ?side1 ?side2 A3.out).mono ?_); (case side1 => exact cP (Kd.C_below HR0_2.out HB.out)); (case side2 => exact HC0_2.out); rintro e w' ⟨rfl, ⟨nd, rfl⟩⟩; refine ⟨_, rfl, ?_⟩))
  go_ret
  exact ⟨rR, bZ HB⟩
 ·rw [if_neg c4] at H
  have c4b0 : decide (t227 < 0) = false := decide_eq_false c4
  clear c4
  obtain rfl := Option.some.inj H
  go_enter Try.func41, Try.ntmps41
  go_wp2_with (first | ((with_reducible refine gate_dst (N := 2) rfl ?_); refine bE 2 #[.int .i64 a0_0, .int .i64 a0_1, .slice A0_2 l0_2.length c0_2] 43 ?_; intro gb226 hg w7 hbox hb; have BK226 := Aside0.mk (hbox); have GW226 := bG HB hg; have GE226 := bG HB hg; replace HB := bS HB hb; clear hb hbox hg; obtain ⟨hcz8_0, hcz8_1, hcz8_2, hfz8_0, hfz8_1, hfz8_2⟩ := bK3 (w := w7) BK226) | ((with_reducible refine gate_callee (f := 70) rfl ?_); refine gL (some 8) Try.func70 #[.slice A0_2 l0_2.length c0_2, .int .i64 a1] ?_; (with_reducible refine (laws_heldRowS.calls k _ _ l0_2 a1 t227 _ ?side1 ?side2 A3.out).mono ?_); (case side1 => exact cP (Kd.C_below HR0_2.out HB.out)); (case side2 => exact HC0_2.out); rintro e w' ⟨rfl, ⟨nd, rfl⟩⟩; refine ⟨_, rfl, ?_⟩))
  go_ret
  exact ⟨rR, bZ HB⟩
theorem mkGen {α : Type} {d : Kd α} {e N : Nat} {w : World} {ok : Nat → Prop} {v : Value} {xs : List α} (h : Kd.S d e w N ok v xs) : Kd.S d e w N (fun k => N ≤ k ∧ k < w.heap.size) v xs := Kd.S_mono (Kd.S_bound h) (fun _ h_ => ⟨h_.2.1, h_.2.2.1⟩)
theorem heldN (k : Nat) (a0_0 a0_1 : Int) (A : Option Addr) (c : Nat) (l : List S75) (a1 r : Int) (w : World) (n : Nat) (hn : l.length = n) (hr : Kd.C k75 w A l.length l) (hc : l.length ≤ c) (h : laws_heldSystem.f k a0_0 a0_1 l a1 = some r) :
    Calls Try.prog 41 #[.agg #[.int .i64 a0_0, .int .i64 a0_1, .slice A n c], .int .i64 a1] w fun e w' => e = .returned (.int .i64 r) ∧ Below w.heap.size w w' := by subst hn; exact laws_heldSystem.calls k a0_0 a0_1 A c l a1 r w hr hc h
def laws_FnExactCountSystem.f (k : Nat)  : Option (Bool) := (spec_CountSystem.f k).bind fun bt228 => ((impl_CountSystem.f k).bind fun bt234 => ((laws_eqSystem.f k bt234.1 bt234.2.1 bt234.2.2 bt228.1 bt228.2.1 bt228.2.2).bind fun t240 => (if t240 = true then ((laws_markSystem.g k bt234.1 bt234.2.1 bt234.2.2 1).bind fun bt241 => ((laws_heldSystem.f k bt234.1 bt234.2.1 bt241.2 1).bind fun t242 => (if t242 < 0 then (some false) else (if t242 = bt241.1 then ((impl_CountSystem.f k).bind fun bt243 => ((laws_eqSystem.f k bt243.1 bt243.2.1 bt243.2.2 bt228.1 bt228.2.1 bt228.2.2).bind fun t249 => (if t249 = true then ((laws_heldSystem.f k bt234.1 bt234.2.1 bt241.2 1).bind fun t250 => (if t250 < 0 then (some false) else (if t250 = bt241.1 then (some true) else (some false)))) else (some false)))) else (some false))))) else (some false))))
set_option maxHeartbeats 8000000 in
set_option maxRecDepth 100000 in
theorem laws_FnExactCountSystem.calls (k : Nat)  (r : Bool) (w : World) (htrue : Aside0 (r = true)) (h : laws_FnExactCountSystem.f k  = some r) :
  Calls Try.prog 11 #[] w fun e w' => e = .returned (.bool r) ∧ Below w.heap.size w w' := by
 have hu43 := Try.underlying43
 have HB := Aside0.mk (Below.refl w.heap.size w)
 have H : ((spec_CountSystem.f k).bind fun bt228 => ((impl_CountSystem.f k).bind fun bt234 => ((laws_eqSystem.f k bt234.1 bt234.2.1 bt234.2.2 bt228.1 bt228.2.1 bt228.2.2).bind fun t240 => (if t240 = true then ((laws_markSystem.g k bt234.1 bt234.2.1 bt234.2.2 1).bind fun bt241 => ((laws_heldSystem.f k bt234.1 bt234.2.1 bt241.2 1).bind fun t242 => (if t242 < 0 then (some false) else (if t242 = bt241.1 then ((impl_CountSystem.f k).bind fun bt243 => ((laws_eqSystem.f k bt243.1 bt243.2.1 bt243.2.2 bt228.1 bt228.2.1 bt228.2.2).bind fun t249 => (if t249 = true then ((laws_heldSystem.f k bt234.1 bt234.2.1 bt241.2 1).bind fun t250 => (if t250 < 0 then (some false) else (if t250 = bt241.1 then (some true) else (some false)))) else (some false)))) else (some false))))) else (some false))))) = some r := h
 clear h
 replace H := Option.bind_eq_some_iff.mp H
 obtain ⟨⟨t228, t229, t230⟩, A10, H⟩ := H
 have A1 := Aside0.mk A10
 clear A10
 replace H := Option.bind_eq_some_iff.mp H
 obtain ⟨⟨t234, t235, t236⟩, A20, H⟩ := H
 have A2 := Aside0.mk A20
 clear A20
 replace H := Option.bind_eq_some_iff.mp H
 obtain ⟨t240, A30, H⟩ := H
 have A3 := Aside0.mk A30
 clear A30
 by_cases c4 : t240 = true
 ·subst c4
  rw [if_pos rfl] at H
  replace H := Option.bind_eq_some_iff.mp H
  obtain ⟨⟨t241, y241⟩, A50, H⟩ := H
  try dsimp only at H
  have A5 := Aside0.mk A50
  clear A50
  replace H := Option.bind_eq_some_iff.mp H
  obtain ⟨t242, A60, H⟩ := H
  have A6 := Aside0.mk A60
  clear A60
  by_cases c7 : t242 < 0
  ·rw [if_pos c7] at H
   have c7b0 : decide (t242 < 0) = true := decide_eq_true c7
   clear c7
   exact absurd (Option.some.inj H) (by rw [htrue.out]; exact Bool.false_ne_true)
  ·rw [if_neg c7] at H
   have c7b0 : decide (t242 < 0) = false := decide_eq_false c7
   clear c7
   by_cases c8 : t242 = t241
   ·rw [if_pos c8] at H
    have c8b0 : (t242 == t241) = true := beq_iff_eq.mpr c8
    have c8b1 : (t242 != t241) = false := bne_eq_false_iff_eq.mpr c8
    clear c8
    replace H := Option.bind_eq_some_iff.mp H
    obtain ⟨⟨t243, t244, t245⟩, A90, H⟩ := H
    have A9 := Aside0.mk A90
    clear A90
    replace H := Option.bind_eq_some_iff.mp H
    obtain ⟨t249, A100, H⟩ := H
    have A10 := Aside0.mk A100
    clear A100
    by_cases c11 : t249 = true
    ·subst c11
     rw [if_pos rfl] at H
     replace H := Option.bind_eq_some_iff.mp H
     obtain ⟨t250, A120, H⟩ := H
     have A12 := Aside0.mk A120
     clear A120
     have et250_ : t242 = t250 := Option.some.inj (A6.out.symm.trans A12.out)
     subst et250_
     by_cases c13 : t242 < 0
     ·rw [if_pos c13] at H
      have c13b0 : decide (t242 < 0) = true := decide_eq_true c13
      clear c13
      exact absurd (Option.some.inj H) (by rw [htrue.out]; exact Bool.false_ne_true)
     ·rw [if_neg c13] at H
      have c13b0 : decide (t242 < 0) = false := decide_eq_false c13
      clear c13
      by_cases c14 : t242 = t241
      ·rw [if_pos c14] at H
       have c14b0 : (t242 == t241) = true := beq_iff_eq.mpr c14
       have c14b1 : (t242 != t241) = false := bne_eq_false_iff_eq.mpr c14
       clear c14
       obtain rfl := Option.some.inj H
       go_enter Try.func11, Try.ntmps11
       go_wp2_with (first | ((with_reducible refine gate_callee (f := 37) rfl ?_); refine gL (some 6) Try.func37 #[] ?_; (with_reducible refine (spec_CountSystem.calls k  t228 t229 t230 _ A1.out).mono ?_); rintro e w15 ⟨v231, rfl, ho0, hb⟩; refine ⟨_, rfl, ?_⟩; have HO232 := Aside0.mk (Kd.N_lower (Kd.N_mono (ok' := fun k_ => True) ho0 (fun k_ hk_ => trivial)) (below_size (bZ HB))); replace HB := bS HB hb; (try clear hb); (try clear ho0)) | ((with_reducible refine gate_dst (N := 1) rfl ?_); refine bE 1 #[.int .i64 0, .int .i64 0, .slice none 0 0] 43 ?_; intro gb233 hg w16 hbox hb; replace HO232 := Aside0.mk (Kd.N_below (Kd.N_elderB (by (with_reducible repeat (first | apply Kd.N_alloc | apply Kd.N_drewN | apply Kd.N_drew)); exact HO232.out) gb233 (Nat.le_of_eq hg.symm)) hb); have BK233 := Aside0.mk (hbox); have GW233 := bG HB hg; have GE233 := bG HB hg; replace HB := bS HB hb; clear hb hbox hg; obtain ⟨hcz17_0, hcz17_1, hcz17_2, hfz17_0, hfz17_1, hfz17_2⟩ := bK3 (w := w16) BK233; obtain ⟨Ao18, co18, eo18⟩ := Kd.N_slice HO232.out; subst eo18) | ((with_reducible refine gate_callee (f := 38) rfl ?_); refine gL (some 7) Try.func38 #[] ?_; (with_reducible refine (impl_CountSystem.calls k  t234 t235 t236 _ A2.out).mono ?_); rintro e w19 ⟨v237, rfl, ho0, hb⟩; refine ⟨_, rfl, ?_⟩; have HO238 := Aside0.mk (Kd.N_lower (Kd.N_mono (ok' := fun k_ => some k_ ≠ (.slice Ao18 t230.length co18 : Value).ownBlock ∧ k_ ≠ gb233) (Kd.S_N (Kd.S_bound ho0)) (fun k_ hk_ => ⟨(Kd.fresh' (Kd.N_lt (by (with_reducible repeat (first | apply Kd.N_alloc | apply Kd.N_drewN | apply Kd.N_drew)); exact (Kd.N_mono (Kd.N_far (p := ⟨gb233, 2, none⟩) (Kd.N_far (p := ⟨gb233, 1, none⟩) (Kd.N_far (p := ⟨gb233, 0, none⟩) (Kd.N_mono HO232.out (fun k_ hk => (⟨hk, hk.2⟩ : _ ∧ k_ ≠ gb233))) (fun _ hk => hk.2) (.int .i64 t228)) (fun _ hk => hk.2) (.int .i64 t229)) (fun _ hk => hk.2) (.slice Ao18 t230.length co18)) (fun _ h_ => h_.1)))) k_ hk_.2.1), (Kd.freshB (g := gb233) (o := .cells #[.int .i64 t228, .int .i64 t229, .slice Ao18 t230.length co18] 43 (0, 0)) (bU BK233) k_ hk_.2.1)⟩)) (below_size (bZ HB))); have HS238 := Aside0.mk (Kd.S_lower (mkGen ho0) (below_size (bZ HB))); have HW232 := Aside0.mk (Kd.N_mono (Kd.N_old (by (with_reducible repeat (first | apply Kd.N_alloc | apply Kd.N_drewN | apply Kd.N_drew)); exact (Kd.N_mono (Kd.N_far (p := ⟨gb233, 2, none⟩) (Kd.N_far (p := ⟨gb233, 1, none⟩) (Kd.N_far (p := ⟨gb233, 0, none⟩) (Kd.N_mono HO232.out (fun k_ hk => (⟨hk, hk.2⟩ : _ ∧ k_ ≠ gb233))) (fun _ hk => hk.2) (.int .i64 t228)) (fun _ hk => hk.2) (.int .i64 t229)) (fun _ hk => hk.2) (.slice Ao18 t230.length co18)) (fun _ h_ => h_.1))) hb) (fun k_ h_ => (⟨⟨h_.1, fun e_ => Nat.lt_irrefl _ (Nat.lt_of_lt_of_le h_.2 (Kd.S_base ho0 k_ e_.symm))⟩, h_.2⟩ : (_ ∧ some k_ ≠ (v237 : Value).ownBlock) ∧ _))); replace HO232 := Aside0.mk (Kd.N_elder' (by (with_reducible repeat (first | apply Kd.N_alloc | apply Kd.N_drewN | apply Kd.N_drew)); exact (Kd.N_mono (Kd.N_far (p := ⟨gb233, 2, none⟩) (Kd.N_far (p := ⟨gb233, 1, none⟩) (Kd.N_far (p := ⟨gb233, 0, none⟩) (Kd.N_mono HO232.out (fun k_ hk => (⟨hk, hk.2⟩ : _ ∧ k_ ≠ gb233))) (fun _ hk => hk.2) (.int .i64 t228)) (fun _ hk => hk.2) (.int .i64 t229)) (fun _ hk => hk.2) (.slice Ao18 t230.length co18)) (fun _ h_ => h_.1))) (Kd.S_base ho0) hb); replace BK233 := bV 43 #[.int .i64 t228, .int .i64 t229, .slice Ao18 t230.length co18] BK233 hb; replace HB := bS HB hb; (try clear hb); (try clear ho0)) | ((with_reducible refine gate_dst (N := 2) rfl ?_); refine bE 2 #[.int .i64 0, .int .i64 0, .slice none 0 0] 43 ?_; intro gb239 hg w20 hbox hb; replace HO232 := Aside0.mk (Kd.N_below (Kd.N_elderB (by (with_reducible repeat (first | apply Kd.N_alloc | apply Kd.N_drewN | apply Kd.N_drew)); exact HO232.out) gb239 (Nat.le_of_eq hg.symm)) hb); have z_ := Aside0.mk (Kd.N_below (Kd.N_elderB (by (with_reducible repeat (first | apply Kd.N_alloc | apply Kd.N_drewN | apply Kd.N_drew)); exact HW232.out) gb239 (Nat.le_of_eq hg.symm)) hb); clear HW232; have HW232 := Aside0.mk (Kd.N_mono z_.out (fun _ h_ => (⟨⟨h_.1.1, h_.2⟩, h_.1.2⟩ : (_ ∧ _) ∧ _))); clear z_; replace HO238 := Aside0.mk (Kd.N_below (Kd.N_elderB (by (with_reducible repeat (first | apply Kd.N_alloc | apply Kd.N_drewN | apply Kd.N_drew)); exact HO238.out) gb239 (Nat.le_of_eq hg.symm)) hb); replace HS238 := Aside0.mk (Kd.S_below (Kd.S_elderB (by (with_reducible repeat (first | apply Kd.S_alloc | apply Kd.S_drewN | apply Kd.S_drew)); exact HS238.out) gb239 (Nat.le_of_eq hg.symm)) hb); have BK239 := Aside0.mk (hbox); have GW239 := bG HB hg; have GE239 := bG HB hg; replace HB := bS HB hb; have NB233_239 := bL BK233 hg; have NB239_233 := bR BK233 hg; replace BK233 := bB BK233 hb; clear hb hbox hg; obtain ⟨hnb21, hnc21⟩ := nB NB239_233; obtain ⟨hcz22_0, hcz22_1, hcz22_2, hfz22_0, hfz22_1, hfz22_2⟩ := bK3 (w := w20) BK239; obtain ⟨Ao23, co23, eo23⟩ := Kd.N_slice HO238.out; subst eo23; obtain ⟨hcz24_0, hcz24_1, hcz24_2, hfz24_0, hfz24_1, hfz24_2⟩ := bK3 (w := w20) BK233) | ((with_reducible refine gate_callee (f := 39) rfl ?_); refine gL (some 10) Try.func39 #[.agg #[.int .i64 t234, .int .i64 t235, .slice Ao23 t236.length co23], .agg #[.int .i64 t228, .int .i64 t229, .slice Ao18 t230.length co18]] ?_; (with_reducible refine (laws_eqSystem.calls k t234 t235 _ _ t236 t228 t229 _ _ t230 true _ ?side1 ?side2 ?side3 ?side4 A3.out).mono ?_); (case side1 => refine (Kd.N_reads' (e := 75) (base := w.heap.size) (ok := fun k_ => ((some k_ ≠ (.slice Ao18 t230.length co18 : Value).ownBlock ∧ k_ ≠ gb233) ∧ k_ ≠ gb239)) (n := t236.length) (c := co23) ?_).2.2; exact (by (with_reducible repeat (first | apply Kd.N_alloc | apply Kd.N_drewN | apply Kd.N_drew)); exact (Kd.N_mono (Kd.N_far (p := ⟨gb239, 2, none⟩) (Kd.N_far (p := ⟨gb239, 1, none⟩) (Kd.N_far (p := ⟨gb239, 0, none⟩) (Kd.N_mono HO238.out (fun k_ hk => (⟨hk, hk.2⟩ : _ ∧ k_ ≠ gb239))) (fun _ hk => hk.2) (.int .i64 t234)) (fun _ hk => hk.2) (.int .i64 t235)) (fun _ hk => hk.2) (.slice Ao23 t236.length co23)) (fun _ h_ => h_.1)))); (case side2 => exact (Kd.N_reads' HO238.out).2.1); (case side3 => refine (Kd.N_reads' (e := 75) (base := w.heap.size) (ok := fun k_ => (((True ∧ k_ ≠ gb233) ∧ some k_ ≠ (.slice Ao23 t236.length co23 : Value).ownBlock) ∧ k_ ≠ gb239)) (n := t230.length) (c := co18) ?_).2.2; exact (by (with_reducible repeat (first | apply Kd.N_alloc | apply Kd.N_drewN | apply Kd.N_drew)); exact (Kd.N_mono (Kd.N_far (p := ⟨gb239, 2, none⟩) (Kd.N_far (p := ⟨gb239, 1, none⟩) (Kd.N_far (p := ⟨gb239, 0, none⟩) (Kd.N_mono HO232.out (fun k_ hk => (⟨hk, hk.2⟩ : _ ∧ k_ ≠ gb239))) (fun _ hk => hk.2) (.int .i64 t234)) (fun _ hk => hk.2) (.int .i64 t235)) (fun _ hk => hk.2) (.slice Ao23 t236.length co23)) (fun _ h_ => h_.1)))); (case side4 => exact (Kd.N_reads' HO232.out).2.1); rintro e w25 ⟨rfl, hb⟩; refine ⟨_, rfl, ?_⟩; replace HO232 := Aside0.mk (Kd.N_below (by (with_reducible repeat (first | apply Kd.N_alloc | apply Kd.N_drewN | apply Kd.N_drew)); exact (Kd.N_mono (Kd.N_far (p := ⟨gb239, 2, none⟩) (Kd.N_far (p := ⟨gb239, 1, none⟩) (Kd.N_far (p := ⟨gb239, 0, none⟩) (Kd.N_mono HO232.out (fun k_ hk => (⟨hk, hk.2⟩ : _ ∧ k_ ≠ gb239))) (fun _ hk => hk.2) (.int .i64 t234)) (fun _ hk => hk.2) (.int .i64 t235)) (fun _ hk => hk.2) (.slice Ao23 t236.length co23)) (fun _ h_ => h_.1))) hb); replace HW232 := Aside0.mk (Kd.N_below (by (with_reducible repeat (first | apply Kd.N_alloc | apply Kd.N_drewN | apply Kd.N_drew)); exact (Kd.N_mono (Kd.N_far (p := ⟨gb239, 2, none⟩) (Kd.N_far (p := ⟨gb239, 1, none⟩) (Kd.N_far (p := ⟨gb239, 0, none⟩) (Kd.N_mono HW232.out (fun k_ hk => (⟨hk, hk.1.2⟩ : _ ∧ k_ ≠ gb239))) (fun _ hk => hk.2) (.int .i64 t234)) (fun _ hk => hk.2) (.int .i64 t235)) (fun _ hk => hk.2) (.slice Ao23 t236.length co23)) (fun _ h_ => h_.1))) hb); replace HO238 := Aside0.mk (Kd.N_below (by (with_reducible repeat (first | apply Kd.N_alloc | apply Kd.N_drewN | apply Kd.N_drew)); exact (Kd.N_mono (Kd.N_far (p := ⟨gb239, 2, none⟩) (Kd.N_far (p := ⟨gb239, 1, none⟩) (Kd.N_far (p := ⟨gb239, 0, none⟩) (Kd.N_mono HO238.out (fun k_ hk => (⟨hk, hk.2⟩ : _ ∧ k_ ≠ gb239))) (fun _ hk => hk.2) (.int .i64 t234)) (fun _ hk => hk.2) (.int .i64 t235)) (fun _ hk => hk.2) (.slice Ao23 t236.length co23)) (fun _ h_ => h_.1))) hb); replace HS238 := Aside0.mk (Kd.S_below (by (with_reducible repeat (first | apply Kd.S_alloc | apply Kd.S_drewN | apply Kd.S_drew)); exact (Kd.S_mono (Kd.S_far (p := ⟨gb239, 2, none⟩) (Kd.S_far (p := ⟨gb239, 1, none⟩) (Kd.S_far (p := ⟨gb239, 0, none⟩) (Kd.S_mono HS238.out (fun k_ hk => (⟨hk, hk.2⟩ : _ ∧ k_ ≠ gb239))) (fun _ hk => hk.2) (.int .i64 t234)) (fun _ hk => hk.2) (.int .i64 t235)) (fun _ hk => hk.2) (.slice Ao23 t236.length co23)) (fun _ h_ => h_.1))) hb); replace BK233 := bB BK233 hb; replace BK239 := bV 43 #[.int .i64 t234, .int .i64 t235, .slice Ao23 t236.length co23] BK239 hb; replace HB := bS HB hb; (try clear hb); obtain ⟨hcz26_0, hcz26_1, hcz26_2, hfz26_0, hfz26_1, hfz26_2⟩ := bK3 (w := w25) BK239) | ((with_reducible refine gate_callee (f := 40) rfl ?_); refine gL (some 14) Try.func40 #[.agg #[.int .i64 t234, .int .i64 t235, .slice Ao23 t236.length co23], .int .i64 1] ?_; (refine (laws_markSystem.callsg k ?P0 t234 t235 _ t236 1 t241 y241 w _ ?side1 ?side2 A5.out).mono ?_); (case side2 => (with_reducible repeat (first | apply Kd.S_alloc | apply Kd.S_drewN | apply Kd.S_drew)); exact Kd.S_types HS238.out BK233.out (by decide)); (case side1 => exact (bZ HB)); rintro e w27 ⟨rfl, ho, hb, hkp⟩; refine ⟨_, rfl, ?_⟩; have HO232z := Aside0.mk (Kd.N_mono (Kd.N_kept HW232.out hkp (fun k_ h_ hs_ => Nat.lt_irrefl _ (Nat.lt_of_lt_of_le h_.2 hs_.1.1.1))) (fun _ h_ => h_.1)); clear HO232 HW232; have HO232 := HO232z; clear HO232z; clear HO238 HS238; have HO238 := Aside0.mk (Kd.S_N ho); replace BK233 := Aside0.mk (blk_kept (bP BK233) hkp (fun h_ => h_.2 rfl)); replace BK239 := Aside0.mk (blk_kept (bP BK239) hkp (fun h_ => h_.1.2 rfl)); replace HB := Aside0.mk hb; clear hkp ho; (try clear hb); obtain ⟨hcz28_0, hcz28_1, hcz28_2, hfz28_0, hfz28_1, hfz28_2⟩ := bK3 (w := w27) BK239) | ((with_reducible refine gate_callee (f := 41) rfl ?_); refine gL (some 17) Try.func41 #[.agg #[.int .i64 t234, .int .i64 t235, .slice Ao23 t236.length co23], .int .i64 1] ?_; (refine (heldN k t234 t235 _ _ y241 1 t242 _ t236.length (Kd.N_reads' HO238.out).1.symm ?side1 ?side2 A6.out).mono ?_); (case side1 => exact cP ((Kd.N_reads' HO238.out).2.2)); (case side2 => rw [← (Kd.N_reads' HO238.out).1]; exact (Kd.N_reads' HO238.out).2.1); rintro e w29 ⟨rfl, hb⟩; refine ⟨_, rfl, ?_⟩; replace HO232 := Aside0.mk (Kd.N_below (by (with_reducible repeat (first | apply Kd.N_alloc | apply Kd.N_drewN | apply Kd.N_drew)); exact HO232.out) hb); replace HO238 := Aside0.mk (Kd.N_below (by (with_reducible repeat (first | apply Kd.N_alloc | apply Kd.N_drewN | apply Kd.N_drew)); exact HO238.out) hb); replace BK233 := bB BK233 hb; replace BK239 := bB BK239 hb; replace HB := bS HB hb; (try clear hb)) | ((with_reducible refine gate_callee (f := 38) rfl ?_); refine gL (some 23) Try.func38 #[] ?_; (with_reducible refine (impl_CountSystem.calls k  t243 t244 t245 _ A9.out).mono ?_); rintro e w30 ⟨v246, rfl, ho0, hb⟩; refine ⟨_, rfl, ?_⟩; have HO247 := Aside0.mk (Kd.N_lower (Kd.N_mono (ok' := fun k_ => some k_ ≠ (.slice Ao18 t230.length co18 : Value).ownBlock ∧ some k_ ≠ (.slice Ao23 t236.length co23 : Value).ownBlock ∧ k_ ≠ gb233 ∧ k_ ≠ gb239) (Kd.S_N (Kd.S_bound ho0)) (fun k_ hk_ => ⟨(Kd.fresh' (Kd.N_lt (by (with_reducible repeat (first | apply Kd.N_alloc | apply Kd.N_drewN | apply Kd.N_drew)); exact HO232.out)) k_ hk_.2.1), (Kd.fresh' (Kd.N_lt (by (with_reducible repeat (first | apply Kd.N_alloc | apply Kd.N_drewN | apply Kd.N_drew)); exact HO238.out)) k_ hk_.2.1), (Kd.freshB (bP BK233) k_ hk_.2.1), (Kd.freshB (bP BK239) k_ hk_.2.1)⟩)) (below_size (bZ HB))); replace HO232 := Aside0.mk (Kd.N_elder' (by (with_reducible repeat (first | apply Kd.N_alloc | apply Kd.N_drewN | apply Kd.N_drew)); exact HO232.out) (Kd.S_base ho0) hb); replace HO238 := Aside0.mk (Kd.N_elder' (by (with_reducible repeat (first | apply Kd.N_alloc | apply Kd.N_drewN | apply Kd.N_drew)); exact HO238.out) (Kd.S_base ho0) hb); replace BK233 := bB BK233 hb; replace BK239 := bB BK239 hb; replace HB := bS HB hb; (try clear hb); (try clear ho0)) | ((with_reducible refine gate_dst (N := 5) rfl ?_); refine bE 5 #[.int .i64 0, .int .i64 0, .slice none 0 0] 43 ?_; intro gb248 hg w31 hbox hb; replace HO232 := Aside0.mk (Kd.N_below (Kd.N_elderB (by (with_reducible repeat (first | apply Kd.N_alloc | apply Kd.N_drewN | apply Kd.N_drew)); exact HO232.out) gb248 (Nat.le_of_eq hg.symm)) hb); replace HO238 := Aside0.mk (Kd.N_below (Kd.N_elderB (by (with_reducible repeat (first | apply Kd.N_alloc | apply Kd.N_drewN | apply Kd.N_drew)); exact HO238.out) gb248 (Nat.le_of_eq hg.symm)) hb); replace HO247 := Aside0.mk (Kd.N_below (Kd.N_elderB (by (with_reducible repeat (first | apply Kd.N_alloc | apply Kd.N_drewN | apply Kd.N_drew)); exact HO247.out) gb248 (Nat.le_of_eq hg.symm)) hb); have BK248 := Aside0.mk (hbox); have GW248 := bG HB hg; have GE248 := bG HB hg; replace HB := bS HB hb; have NB233_248 := bL BK233 hg; have NB248_233 := bR BK233 hg; replace BK233 := bB BK233 hb; have NB239_248 := bL BK239 hg; have NB248_239 := bR BK239 hg; replace BK239 := bB BK239 hb; clear hb hbox hg; obtain ⟨hnb32, hnc32⟩ := nB NB248_233; obtain ⟨hnb33, hnc33⟩ := nB NB248_239; obtain ⟨hcz34_0, hcz34_1, hcz34_2, hfz34_0, hfz34_1, hfz34_2⟩ := bK3 (w := w31) BK248; obtain ⟨Ao35, co35, eo35⟩ := Kd.N_slice HO247.out; subst eo35; obtain ⟨hcz36_0, hcz36_1, hcz36_2, hfz36_0, hfz36_1, hfz36_2⟩ := bK3 (w := w31) BK233) | ((with_reducible refine gate_callee (f := 39) rfl ?_); refine gL (some 26) Try.func39 #[.agg #[.int .i64 t243, .int .i64 t244, .slice Ao35 t245.length co35], .agg #[.int .i64 t228, .int .i64 t229, .slice Ao18 t230.length co18]] ?_; (with_reducible refine (laws_eqSystem.calls k t243 t244 _ _ t245 t228 t229 _ _ t230 true _ ?side1 ?side2 ?side3 ?side4 A10.out).mono ?_); (case side1 => refine (Kd.N_reads' (e := 75) (base := w.heap.size) (ok := fun k_ => ((some k_ ≠ (.slice Ao18 t230.length co18 : Value).ownBlock ∧ (some k_ ≠ (.slice Ao23 t236.length co23 : Value).ownBlock ∧ (k_ ≠ gb233 ∧ k_ ≠ gb239))) ∧ k_ ≠ gb248)) (n := t245.length) (c := co35) ?_).2.2; exact (by (with_reducible repeat (first | apply Kd.N_alloc | apply Kd.N_drewN | apply Kd.N_drew)); exact (Kd.N_mono (Kd.N_far (p := ⟨gb248, 2, none⟩) (Kd.N_far (p := ⟨gb248, 1, none⟩) (Kd.N_far (p := ⟨gb248, 0, none⟩) (Kd.N_mono HO247.out (fun k_ hk => (⟨hk, hk.2⟩ : _ ∧ k_ ≠ gb248))) (fun _ hk => hk.2) (.int .i64 t243)) (fun _ hk => hk.2) (.int .i64 t244)) (fun _ hk => hk.2) (.slice Ao35 t245.length co35)) (fun _ h_ => h_.1)))); (case side2 => exact (Kd.N_reads' HO247.out).2.1); (case side3 => refine (Kd.N_reads' (e := 75) (base := w.heap.size) (ok := fun k_ => (((((True ∧ k_ ≠ gb233) ∧ some k_ ≠ (.slice Ao23 t236.length co23 : Value).ownBlock) ∧ k_ ≠ gb239) ∧ some k_ ≠ (.slice Ao35 t245.length co35 : Value).ownBlock) ∧ k_ ≠ gb248)) (n := t230.length) (c := co18) ?_).2.2; exact (by (with_reducible repeat (first | apply Kd.N_alloc | apply Kd.N_drewN | apply Kd.N_drew)); exact (Kd.N_mono (Kd.N_far (p := ⟨gb248, 2, none⟩) (Kd.N_far (p := ⟨gb248, 1, none⟩) (Kd.N_far (p := ⟨gb248, 0, none⟩) (Kd.N_mono HO232.out (fun k_ hk => (⟨hk, hk.2⟩ : _ ∧ k_ ≠ gb248))) (fun _ hk => hk.2) (.int .i64 t243)) (fun _ hk => hk.2) (.int .i64 t244)) (fun _ hk => hk.2) (.slice Ao35 t245.length co35)) (fun _ h_ => h_.1)))); (case side4 => exact (Kd.N_reads' HO232.out).2.1); rintro e w37 ⟨rfl, hb⟩; refine ⟨_, rfl, ?_⟩; replace HO232 := Aside0.mk (Kd.N_below (by (with_reducible repeat (first | apply Kd.N_alloc | apply Kd.N_drewN | apply Kd.N_drew)); exact (Kd.N_mono (Kd.N_far (p := ⟨gb248, 2, none⟩) (Kd.N_far (p := ⟨gb248, 1, none⟩) (Kd.N_far (p := ⟨gb248, 0, none⟩) (Kd.N_mono HO232.out (fun k_ hk => (⟨hk, hk.2⟩ : _ ∧ k_ ≠ gb248))) (fun _ hk => hk.2) (.int .i64 t243)) (fun _ hk => hk.2) (.int .i64 t244)) (fun _ hk => hk.2) (.slice Ao35 t245.length co35)) (fun _ h_ => h_.1))) hb); replace HO238 := Aside0.mk (Kd.N_below (by (with_reducible repeat (first | apply Kd.N_alloc | apply Kd.N_drewN | apply Kd.N_drew)); exact (Kd.N_mono (Kd.N_far (p := ⟨gb248, 2, none⟩) (Kd.N_far (p := ⟨gb248, 1, none⟩) (Kd.N_far (p := ⟨gb248, 0, none⟩) (Kd.N_mono HO238.out (fun k_ hk => (⟨hk, hk.2⟩ : _ ∧ k_ ≠ gb248))) (fun _ hk => hk.2) (.int .i64 t243)) (fun _ hk => hk.2) (.int .i64 t244)) (fun _ hk => hk.2) (.slice Ao35 t245.length co35)) (fun _ h_ => h_.1))) hb); replace HO247 := Aside0.mk (Kd.N_below (by (with_reducible repeat (first | apply Kd.N_alloc | apply Kd.N_drewN | apply Kd.N_drew)); exact (Kd.N_mono (Kd.N_far (p := ⟨gb248, 2, none⟩) (Kd.N_far (p := ⟨gb248, 1, none⟩) (Kd.N_far (p := ⟨gb248, 0, none⟩) (Kd.N_mono HO247.out (fun k_ hk => (⟨hk, hk.2⟩ : _ ∧ k_ ≠ gb248))) (fun _ hk => hk.2) (.int .i64 t243)) (fun _ hk => hk.2) (.int .i64 t244)) (fun _ hk => hk.2) (.slice Ao35 t245.length co35)) (fun _ h_ => h_.1))) hb); replace BK233 := bB BK233 hb; replace BK239 := bB BK239 hb; replace BK248 := bV 43 #[.int .i64 t243, .int .i64 t244, .slice Ao35 t245.length co35] BK248 hb; replace HB := bS HB hb; (try clear hb); obtain ⟨hcz38_0, hcz38_1, hcz38_2, hfz38_0, hfz38_1, hfz38_2⟩ := bK3 (w := w37) BK239) | ((with_reducible refine gate_callee (f := 41) rfl ?_); refine gL (some 30) Try.func41 #[.agg #[.int .i64 t234, .int .i64 t235, .slice Ao23 t236.length co23], .int .i64 1] ?_; (refine (heldN k t234 t235 _ _ y241 1 t242 _ t236.length (Kd.N_reads' HO238.out).1.symm ?side1 ?side2 A12.out).mono ?_); (case side1 => exact cP ((Kd.N_reads' HO238.out).2.2)); (case side2 => rw [← (Kd.N_reads' HO238.out).1]; exact (Kd.N_reads' HO238.out).2.1); rintro e w39 ⟨rfl, hb⟩; refine ⟨_, rfl, ?_⟩; replace HO232 := Aside0.mk (Kd.N_below (by (with_reducible repeat (first | apply Kd.N_alloc | apply Kd.N_drewN | apply Kd.N_drew)); exact HO232.out) hb); replace HO238 := Aside0.mk (Kd.N_below (by (with_reducible repeat (first | apply Kd.N_alloc | apply Kd.N_drewN | apply Kd.N_drew)); exact HO238.out) hb); replace HO247 := Aside0.mk (Kd.N_below (by (with_reducible repeat (first | apply Kd.N_alloc | apply Kd.N_drewN | apply Kd.N_drew)); exact HO247.out) hb); replace BK233 := bB BK233 hb; replace BK239 := bB BK239 hb; replace BK248 := bB BK248 hb; replace HB := bS HB hb; (try clear hb)))
       go_ret
       exact ⟨rR, bZ HB⟩
      ·rw [if_neg c14] at H
       have c14b0 : (t242 == t241) = false := beq_eq_false_iff_ne.mpr c14
       have c14b1 : (t242 != t241) = true := bne_iff_ne.mpr c14
       exact absurd (Option.some.inj H) (by rw [htrue.out]; exact Bool.false_ne_true)
    ·replace c11 := Bool.eq_false_iff.mpr c11
     subst c11
     rw [if_neg (show ¬ (false = true) by decide)] at H
     exact absurd (Option.some.inj H) (by rw [htrue.out]; exact Bool.false_ne_true)
   ·rw [if_neg c8] at H
    have c8b0 : (t242 == t241) = false := beq_eq_false_iff_ne.mpr c8
    have c8b1 : (t242 != t241) = true := bne_iff_ne.mpr c8
    exact absurd (Option.some.inj H) (by rw [htrue.out]; exact Bool.false_ne_true)
 ·replace c4 := Bool.eq_false_iff.mpr c4
  subst c4
  rw [if_neg (show ¬ (false = true) by decide)] at H
  exact absurd (Option.some.inj H) (by rw [htrue.out]; exact Bool.false_ne_true)
def laws_FnExactCountSystem.Pure : Prop := ∃ k, laws_FnExactCountSystem.f k  = some true
theorem laws_FnExactCountSystem.walk (P : laws_FnExactCountSystem.Pure)  (w : World)  :
  Calls Try.prog 11 #[] w fun e w' => e = .returned (.bool true) ∧ Below w.heap.size w w' := by
 obtain ⟨k, h⟩ := P  
 refine (laws_FnExactCountSystem.calls k  true w ⟨rfl⟩ h).mono ?_
 rintro e w' ⟨rfl, hd⟩
 exact ⟨rfl, hd⟩
end Go.Proofs.Ythdpfjkdpeamnaa.Pf
end
section
set_option linter.unusedVariables false
set_option linter.unusedSimpArgs false
namespace Go.Proofs.Ythdpfjkdpeamnaa.Pure
open Go.RowKit Go.Proofs.Ythdpfjkdpeamnaa.Pf Go.Proofs.YthdpfjkdpeamnaaW.PrintWords
set_option maxRecDepth 100000
theorem FnExactCountSystem : laws_FnExactCountSystem.Pure := ⟨60, by decide +kernel⟩
end Go.Proofs.Ythdpfjkdpeamnaa.Pure
end
section
namespace Go.Proofs.Ythdpfjkdpeamnaa.fnExactCountSystem
open Go.ChangeShapes Go.WideShapes Go.ChangeAt Go.RowKit
open Go.ChangeMaps (open_string shut_string)
set_option linter.unusedVariables false
theorem own : ownKnob Try.prog.godebug = none := by kernel_rfl
set_option maxRecDepth 100000 in
theorem lifted (os : Os) (started : os.Started) (H : Type) (enc : TypeId × Value → H) :
    ReturnsInHanded {} Try.checked os 11 .any (Rows.fnExactCountSystemSpec.pre6 enc Try.prog Try.f11 Rows.fnExactCountSystemRow.domain false) (Rows.fnExactCountSystemSpec.post enc Try.prog Try.f11 false true false false) := by
  refine returnsInHanded_of_change_sized (C := Try.checked) own started (by kernel_rfl) Try.func11
    (ChangeSpec.witness6 (enc := enc) (C := Try.checked) false ⟨#[], #[], []⟩ 8 (by kernel_rfl) (by kernel_rfl) (by kernel_rfl) (by kernel_rfl)) ?_
  intro W base args ds gs before hval0 hW hcnd hsz0 _
  have hsz : (DataW.weightsEach Try.prog (Try.f11.params.toList ++ Rows.fnExactCountSystemSpec.plain.varTypes Try.prog) (ds ++ gs)).all (· ≤ reachBytes) = true := hsz0
  have hval : ∀ (j : Nat) t v, Try.f11.params[j]? = some t → args[j]? = some v → Value.okWide Try.prog W .any base t v := hval0
  have hW' := hW
  obtain ⟨p, q, hA0, hV, rfl, hfz, hnd⟩ := hW
  have hA : DataW.TrodAll enc Try.prog W 0 (fun _ => true) true Try.f11.params.toList args.toList ds p := hA0
  rw [Try.params11] at hA hval hsz
  obtain ⟨rfl, rfl, rfl⟩ := trodAll_none hA
  obtain ⟨rfl, rfl⟩ := trodVars_none hV
  clear hA0 hval0 hsz0 hsz
  refine (Pf.laws_FnExactCountSystem.walk Pure.FnExactCountSystem  W ).mono fun e W' ⟨he, bel⟩ => ?_
  subst he
  exact ⟨_, rfl, _, _, _, [], _, [], hW', trodAll_mk1 (shut_bool Try.underlying4 _), trodAll_mk0, rfl, bel.frame _, fun h => by cases h⟩
theorem over : Rows.fnExactCountSystemRow.holds Try.pinned (OpenSpec.ofChange Rows.fnExactCountSystemSpec) :=
  OpenClaim.holds_of_wide 11 Try.f11 rfl rfl rfl rfl rfl rfl rfl ⟨rfl, rfl, rfl, rfl, rfl⟩ rfl rfl rfl rfl rfl (by kernel_rfl) Try.func11 (by kernel_rfl)
    (of_decide_eq_true (by kernel_rfl)) (by unfold Func.isWrapper; first | (rw [if_pos (by decide +kernel)]; kernel_rfl) | (rw [if_neg (by decide +kernel)]; exact ⟨rfl, rfl⟩))
    (fun os started H enc _ => lifted os started H enc)
theorem proved : Rows.FnExactCountSystemSaid := over
#print axioms proved
end Go.Proofs.Ythdpfjkdpeamnaa.fnExactCountSystem
namespace Go.Proofs.Ythdpfjkdpeamnaa
theorem fnExactCountSystem_holds : Rows.FnExactCountSystemSaid := fnExactCountSystem.proved
end Go.Proofs.Ythdpfjkdpeamnaa
end
