/- What is proved here: part 2 of 5 of the proof of the given statement FnCommitteesTold: the contracts of the Go functions that it reaches, the plain facts on lists and numbers, and (in the last part) the statement itself. No conditions beyond the given ones. -/
import Derived.Test.YtkdmplfldfagnaaGreatDoorMFnCommitteesToldwSlim
import Derived.Test.YtkdmplfldfagnaaGreatDoorMFnCommitteesTolda

section
namespace Go.Proofs.YtkdmplfldfagnaaGreatDoor.Pf
open Go.RowKit Go.Proofs.YtkdmplfldfagnaaGreatDoorW.PrintWords Go.Proofs.YtkdmplfldfagnaaGreatDoorW.PrintLast Go.Proofs.YtkdmplfldfagnaaGreatDoorW.PrintMore
attribute [local go_sem] max2_int min2_int max_two min_two max_three min_three max_four min_four   -- for this text's walks alone
set_option linter.unusedVariables false
set_option linter.unusedSimpArgs false
set_option maxHeartbeats 8000000
set_option maxRecDepth 100000
def impl_add.f (k : Nat) (a0_0 : Int) (a0_1 : Int) (a0_2 : Bool) (a1_0 : Int) (a1_1 : Int) (a1_2 : Bool) : Option (Int × Int × Bool) := if a0_2 = true then (some (a1_0, a1_1, a1_2)) else (if a1_2 = true then (some (a0_0, a0_1, a0_2)) else ((impl_slopeOf.f k a0_0 a0_1 a0_2 a1_0 a1_1 a1_2).bind fun bt137 => (if bt137.2 = true then ((impl_FpMul.f bt137.1 bt137.1).bind fun t139 => ((impl_FpSub.f t139 a0_0).bind fun t140 => ((impl_FpSub.f t140 a1_0).bind fun t141 => ((impl_FpSub.f a0_0 t141).bind fun t142 => ((impl_FpMul.f bt137.1 t142).bind fun t143 => ((impl_FpSub.f t143 a0_1).bind fun t144 => (some (t141, t144, false)))))))) else (some (0, 0, true)))))
def impl_add.T8 : Bool × List (List Nat × List Nat) := (true, [([], []), ([], []), ([0, 1], [0, 1]), ([], []), ([3], [3]), ([2, 4, 2], [2, 4]), ([], []), ([6], [6]), ([5, 7, 5], [5, 7]), ([8, 8, 0, 1, 2, 3, 4, 5, 6, 7, 8], [8])])
def impl_add.B8 : List Nat := [0, 0, 3, 0, 8, 31, 0, 64, 255, 511]
theorem impl_add.tab8 : rtab .any (opsOf Tryz.f48 8) = impl_add.T8 := by kernel_rfl
theorem impl_add.bits8 : waitsOk impl_add.T8.2 impl_add.B8 = true := by kernel_rfl
def impl_add.T9 : Bool × List (List Nat × List Nat) := (true, [([], []), ([], []), ([], []), ([2], [2]), ([], []), ([3, 4], [3, 4]), ([1, 5, 5], [1, 5]), ([], []), ([7], [7]), ([6, 8, 6], [6, 8]), ([0, 9], [0, 9]), ([10, 9, 0, 1, 2, 3, 4, 5, 6, 7, 8, 9, 10], [10])])
def impl_add.B9 : List Nat := [0, 0, 0, 4, 0, 28, 62, 0, 128, 510, 1023, 2047]
theorem impl_add.tab9 : rtab .any (opsOf Tryz.f48 9) = impl_add.T9 := by kernel_rfl
theorem impl_add.bits9 : waitsOk impl_add.T9.2 impl_add.B9 = true := by kernel_rfl
theorem impl_add.calls (k : Nat) (a0_0 : Int) (a0_1 : Int) (a0_2 : Bool) (a1_0 : Int) (a1_1 : Int) (a1_2 : Bool) (r1 : Int) (r2 : Int) (r3 : Bool) (w : World) (h : impl_add.f k a0_0 a0_1 a0_2 a1_0 a1_1 a1_2 = some (r1, r2, r3)) :
  Calls Tryz.prog 48 #[.agg #[.int .i64 a0_0, .int .i64 a0_1, .bool a0_2], .agg #[.int .i64 a1_0, .int .i64 a1_1, .bool a1_2]] w fun e w' => e = .returned (.agg #[.int .i64 r1, .int .i64 r2, .bool r3]) ∧ Below w.heap.size w w' := by
 have hu28 := Tryz.underlying28
 have HB := Aside0.mk (Below.refl w.heap.size w)
 unfold impl_add.f at h
 have H := h
 clear h
 by_cases c3 : a0_2 = true
 ·subst c3
  rw [if_pos rfl] at H
  simp only [Option.some.injEq, Prod.mk.injEq] at H
  obtain ⟨rfl, rfl, rfl⟩ := H
  go_enter Tryz.func48, Tryz.ntmps48
  go_wp2_with (first | (refine gB 2 #[.int .i64 a0_0, .int .i64 a0_1, .bool true] 28 ?_; intro gb134 hg w4 BK134 hb; have GW134 := bG HB hg; replace HB := bS HB hb; clear hb hg) | (refine gB 3 #[.int .i64 a1_0, .int .i64 a1_1, .bool a1_2] 28 ?_; intro gb135 hg w5 BK135 hb; have GW135 := bG HB hg; replace HB := bS HB hb; obtain ⟨NB134_135, NB135_134⟩ := bN BK134 hg; replace BK134 := bB BK134 hb; clear hb hg) | (refine gB 4 #[.int .i64 0, .int .i64 0, .bool false] 28 ?_; intro gb136 hg w6 BK136 hb; have GW136 := bG HB hg; replace HB := bS HB hb; obtain ⟨NB134_136, NB136_134⟩ := bN BK134 hg; replace BK134 := bB BK134 hb; obtain ⟨NB135_136, NB136_135⟩ := bN BK135 hg; replace BK135 := bB BK135 hb; clear hb hg; obtain ⟨hnb7, hnc7⟩ := nB NB134_135; obtain ⟨hnb8, hnc8⟩ := nB NB134_136; obtain ⟨hcz9_0, hcz9_1, hcz9_2, hfz9_0, hfz9_1, hfz9_2⟩ := bK3 (w := w6) BK134; obtain ⟨hnb10, hnc10⟩ := nB NB135_136; obtain ⟨hcz11_0, hcz11_1, hcz11_2, hfz11_0, hfz11_1, hfz11_2⟩ := bK3 (w := w6) BK135; obtain ⟨hcz12_0, hcz12_1, hcz12_2, hfz12_0, hfz12_1, hfz12_2⟩ := bK3 (w := w6) BK136))
  refine rC gb136 28 #[.int .i64 a1_0, .int .i64 a1_1, .bool a1_2] (bU BK136) Tryz.underlying28 ?_
  exact ⟨rR, bZ HB⟩
 ·replace c3 := Bool.eq_false_iff.mpr c3
  subst c3
  rw [if_neg (show ¬ (false = true) by decide)] at H
  by_cases c13 : a1_2 = true
  ·subst c13
   rw [if_pos rfl] at H
   simp only [Option.some.injEq, Prod.mk.injEq] at H
   obtain ⟨rfl, rfl, rfl⟩ := H
   go_enter Tryz.func48, Tryz.ntmps48
   go_wp2_with (first | (refine gB 2 #[.int .i64 a0_0, .int .i64 a0_1, .bool false] 28 ?_; intro gb134 hg w14 BK134 hb; have GW134 := bG HB hg; replace HB := bS HB hb; clear hb hg) | (refine gB 3 #[.int .i64 a1_0, .int .i64 a1_1, .bool true] 28 ?_; intro gb135 hg w15 BK135 hb; have GW135 := bG HB hg; replace HB := bS HB hb; obtain ⟨NB134_135, NB135_134⟩ := bN BK134 hg; replace BK134 := bB BK134 hb; clear hb hg) | (refine gB 4 #[.int .i64 0, .int .i64 0, .bool false] 28 ?_; intro gb136 hg w16 BK136 hb; have GW136 := bG HB hg; replace HB := bS HB hb; obtain ⟨NB134_136, NB136_134⟩ := bN BK134 hg; replace BK134 := bB BK134 hb; obtain ⟨NB135_136, NB136_135⟩ := bN BK135 hg; replace BK135 := bB BK135 hb; clear hb hg; obtain ⟨hnb17, hnc17⟩ := nB NB134_135; obtain ⟨hnb18, hnc18⟩ := nB NB134_136; obtain ⟨hcz19_0, hcz19_1, hcz19_2, hfz19_0, hfz19_1, hfz19_2⟩ := bK3 (w := w16) BK134; obtain ⟨hnb20, hnc20⟩ := nB NB135_136; obtain ⟨hcz21_0, hcz21_1, hcz21_2, hfz21_0, hfz21_1, hfz21_2⟩ := bK3 (w := w16) BK135; obtain ⟨hcz22_0, hcz22_1, hcz22_2, hfz22_0, hfz22_1, hfz22_2⟩ := bK3 (w := w16) BK136))
   refine rC gb136 28 #[.int .i64 a0_0, .int .i64 a0_1, .bool false] (bU BK136) Tryz.underlying28 ?_
   exact ⟨rR, bZ HB⟩
  ·replace c13 := Bool.eq_false_iff.mpr c13
   subst c13
   rw [if_neg (show ¬ (false = true) by decide)] at H
   obtain ⟨⟨t137, t138⟩, A23, H⟩ := oB H
   by_cases c24 : t138 = true
   ·subst c24
    rw [if_pos rfl] at H
    obtain ⟨t139, A25, H⟩ := oB H
    obtain ⟨t140, A26, H⟩ := oB H
    obtain ⟨t141, A27, H⟩ := oB H
    obtain ⟨t142, A28, H⟩ := oB H
    obtain ⟨t143, A29, H⟩ := oB H
    obtain ⟨t144, A30, H⟩ := oB H
    simp only [Option.some.injEq, Prod.mk.injEq] at H
    obtain ⟨rfl, rfl, rfl⟩ := H
    go_enter Tryz.func48, Tryz.ntmps48
    try go_wp2_with (first | (refine gB 2 #[.int .i64 a0_0, .int .i64 a0_1, .bool false] 28 ?_; intro gb134 hg w31 BK134 hb; have GW134 := bG HB hg; replace HB := bS HB hb; clear hb hg) | (refine gB 3 #[.int .i64 a1_0, .int .i64 a1_1, .bool false] 28 ?_; intro gb135 hg w32 BK135 hb; have GW135 := bG HB hg; replace HB := bS HB hb; obtain ⟨NB134_135, NB135_134⟩ := bN BK134 hg; replace BK134 := bB BK134 hb; clear hb hg) | (refine gB 4 #[.int .i64 0, .int .i64 0, .bool false] 28 ?_; intro gb136 hg w33 BK136 hb; have GW136 := bG HB hg; replace HB := bS HB hb; obtain ⟨NB134_136, NB136_134⟩ := bN BK134 hg; replace BK134 := bB BK134 hb; obtain ⟨NB135_136, NB136_135⟩ := bN BK135 hg; replace BK135 := bB BK135 hb; clear hb hg; obtain ⟨hnb34, hnc34⟩ := nB NB134_135; obtain ⟨hnb35, hnc35⟩ := nB NB134_136; obtain ⟨hcz36_0, hcz36_1, hcz36_2, hfz36_0, hfz36_1, hfz36_2⟩ := bK3 (w := w33) BK134; obtain ⟨hnb37, hnc37⟩ := nB NB135_136; obtain ⟨hcz38_0, hcz38_1, hcz38_2, hfz38_0, hfz38_1, hfz38_2⟩ := bK3 (w := w33) BK135) | (refine gC (some 17) Tryz.func89 #[.agg #[.int .i64 a0_0, .int .i64 a0_1, .bool false], .agg #[.int .i64 a1_0, .int .i64 a1_1, .bool false]] ?_; (with_reducible refine (impl_slopeOf.calls k a0_0 a0_1 false a1_0 a1_1 false t137 true _ A23.out).mono ?_); rintro e w39 ⟨rfl, hb⟩; refine ⟨_, rfl, ?_⟩; replace BK134 := bB BK134 hb; replace BK135 := bB BK135 hb; replace BK136 := bB BK136 hb; replace HB := bS HB hb; (try clear hb)))
    replace BK134 := Aside0.mk (blk_drew BK134.out)
    replace BK135 := Aside0.mk (blk_drew BK135.out)
    replace BK136 := Aside0.mk (blk_drew BK136.out)
    replace HB := Aside0.mk (below_drew1 HB.out)
    refine start_ (n := 10) (S := fun w' => SP3 w' gb134 (.int .i64 a0_0) (.int .i64 a0_1) (.bool false) (SQ3 w' gb135 (.int .i64 a1_0) (.int .i64 a1_1) (.bool false))) (ds := []) #[false, false, false, false, false, false, false, false, false, false] (by kernel_rfl) rfl rfl (bS3 BK134 (bT3 BK135)) (fun hHeld => ?_); refine with_tabW impl_add.tab8 impl_add.bits8 (fun HT_ HW_ => ?_)
    generalize w39.drew = w40 at BK134 BK135 BK136 HB hHeld ⊢
    refine pI 0 (some 23) HT_.out ?_
    refine pI 1 (some 24) HT_.out ?_
    refine pI 3 (some 26) HT_.out ?_
    refine pI 6 (some 29) HT_.out ?_
    refine tI6 4 (some 27) HT_.out HW_.out hHeld ?_
    refine tI6 7 (some 30) HT_.out HW_.out hHeld ?_
    refine oI 2 (some 25) HT_.out (fun K hK => ?_)
    refine gO Tryz.func88 #[.int .i64 t137, .int .i64 t137] ?_
    with_reducible refine (impl_FpMul.calls t137 t137 t139 _ A25.out).mono ?_
    rintro e w' ⟨rfl, ⟨nd, rfl⟩⟩
    refine ⟨_, rfl, ?_⟩
    refine hK.out _ _ (bS3 BK134 (bT3 BK135)) (fun hHeld => ?_)
    clear hK K
    refine nO (some 25) ?_
    refine oI 5 (some 28) HT_.out (fun K hK => ?_)
    refine gO Tryz.func90 #[.int .i64 t139, .int .i64 a0_0] ?_
    with_reducible refine (impl_FpSub.calls t139 a0_0 t140 _ A26.out).mono ?_
    rintro e w' ⟨rfl, ⟨nd, rfl⟩⟩
    refine ⟨_, rfl, ?_⟩
    refine hK.out _ _ (bS3 BK134 (bT3 BK135)) (fun hHeld => ?_)
    clear hK K
    refine nO (some 28) ?_
    refine oI 8 (some 31) HT_.out (fun K hK => ?_)
    refine gO Tryz.func90 #[.int .i64 t140, .int .i64 a1_0] ?_
    with_reducible refine (impl_FpSub.calls t140 a1_0 t141 _ A27.out).mono ?_
    rintro e w' ⟨rfl, ⟨nd, rfl⟩⟩
    refine ⟨_, rfl, ?_⟩
    refine hK.out _ _ (bS3 BK134 (bT3 BK135)) (fun hHeld => ?_)
    clear hK K
    refine nO (some 31) ?_
    refine pI 9 (some 7) HT_.out ?_
    refine done_ (done_of HT_.out (by kernel_rfl)) ?_
    try go_wp2
    (try simp only [World.drewN_drewN]); (try (rw [drewN_self w40]; generalize hq_ : World.drewN w40 _ = w40; replace BK134 : Aside0 (w40.heap[gb134]? = some (.cells #[.int .i64 a0_0, .int .i64 a0_1, .bool false] 28 (0, 0))) := ⟨by rw [← hq_]; exact (bP BK134)⟩; replace BK135 : Aside0 (w40.heap[gb135]? = some (.cells #[.int .i64 a1_0, .int .i64 a1_1, .bool false] 28 (0, 0))) := ⟨by rw [← hq_]; exact (bP BK135)⟩; replace BK136 : Aside0 (w40.heap[gb136]? = some (.cells #[.int .i64 0, .int .i64 0, .bool false] 28 (0, 0))) := ⟨by rw [← hq_]; exact (bP BK136)⟩; replace HB : Aside0 (Below w.heap.size w w40) := ⟨by rw [← hq_]; exact (bZ HB)⟩; clear hq_))
    replace BK134 := Aside0.mk (blk_drew BK134.out)
    replace BK135 := Aside0.mk (blk_drew BK135.out)
    replace BK136 := Aside0.mk (blk_drew BK136.out)
    replace HB := Aside0.mk (below_drew1 HB.out)
    refine start_ (n := 12) (S := fun w' => SQ3 w' gb134 (.int .i64 a0_0) (.int .i64 a0_1) (.bool false)) (ds := []) #[false, false, false, false, false, false, false, false, false, false, false, false] (by kernel_rfl) rfl rfl (bT3 BK134) (fun hHeld => ?_); refine with_tabW impl_add.tab9 impl_add.bits9 (fun HT_ HW_ => ?_)
    generalize w40.drew = w41 at BK134 BK135 BK136 HB hHeld ⊢
    refine pI 0 (some 32) HT_.out ?_
    refine pI 1 (some 33) HT_.out ?_
    refine pI 2 (some 34) HT_.out ?_
    refine pI 4 (some 36) HT_.out ?_
    refine pI 7 (some 39) HT_.out ?_
    refine tI3 3 (some 35) HT_.out HW_.out hHeld ?_
    refine tI3 8 (some 40) HT_.out HW_.out hHeld ?_
    refine oI 5 (some 37) HT_.out (fun K hK => ?_)
    refine gO Tryz.func90 #[.int .i64 a0_0, .int .i64 t141] ?_
    with_reducible refine (impl_FpSub.calls a0_0 t141 t142 _ A28.out).mono ?_
    rintro e w' ⟨rfl, ⟨nd, rfl⟩⟩
    refine ⟨_, rfl, ?_⟩
    refine hK.out _ _ (bT3 BK134) (fun hHeld => ?_)
    clear hK K
    refine nO (some 37) ?_
    refine oI 6 (some 38) HT_.out (fun K hK => ?_)
    refine gO Tryz.func88 #[.int .i64 t137, .int .i64 t142] ?_
    with_reducible refine (impl_FpMul.calls t137 t142 t143 _ A29.out).mono ?_
    rintro e w' ⟨rfl, ⟨nd, rfl⟩⟩
    refine ⟨_, rfl, ?_⟩
    refine hK.out _ _ (bT3 BK134) (fun hHeld => ?_)
    clear hK K
    refine nO (some 38) ?_
    refine oI 9 (some 41) HT_.out (fun K hK => ?_)
    refine gO Tryz.func90 #[.int .i64 t143, .int .i64 a0_1] ?_
    with_reducible refine (impl_FpSub.calls t143 a0_1 t144 _ A30.out).mono ?_
    rintro e w' ⟨rfl, ⟨nd, rfl⟩⟩
    refine ⟨_, rfl, ?_⟩
    refine hK.out _ _ (bT3 BK134) (fun hHeld => ?_)
    clear hK K
    refine nO (some 41) ?_
    refine pI 10 (some 42) HT_.out ?_
    refine oI 11 (none) HT_.out (fun K hK => ?_)
    have hs42 : w41.cell? ⟨gb136, 0, none⟩ = some (.int .i64 0) := bc BK136 0
    have hfs42 := blk_frozen BK136.out 0
    have hns42_0 := NB134_136.out
    have hns42_1 := NB135_136.out
    have hms42_0 := NB136_134.out
    have hms42_1 := NB136_135.out
    have hs43 : w41.cell? ⟨gb136, 1, none⟩ = some (.int .i64 0) := bc BK136 1
    have hfs43 := blk_frozen BK136.out 1
    have hns43_0 := NB134_136.out
    have hns43_1 := NB135_136.out
    have hms43_0 := NB136_134.out
    have hms43_1 := NB136_135.out
    have hs44 : w41.cell? ⟨gb136, 2, none⟩ = some (.bool false) := bc BK136 2
    have hfs44 := blk_frozen BK136.out 2
    have hns44_0 := NB134_136.out
    have hns44_1 := NB135_136.out
    have hms44_0 := NB136_134.out
    have hms44_1 := NB136_135.out
    refine skip_ (w1 := ?_) (by rfl) rfl ?_ ?_
    rotate_left
    ·go_simp
     rfl
    refine hK.out _ _ ⟨((cell_far (p := ⟨gb136, _, none⟩) NB134_136.out _).trans (((cell_far (p := ⟨gb136, _, none⟩) NB134_136.out _).trans (((cell_far (p := ⟨gb136, _, none⟩) NB134_136.out _).trans (hHeld.1)))))), ((cell_far (p := ⟨gb136, _, none⟩) NB134_136.out _).trans (((cell_far (p := ⟨gb136, _, none⟩) NB134_136.out _).trans (((cell_far (p := ⟨gb136, _, none⟩) NB134_136.out _).trans (hHeld.2.1)))))), ((cell_far (p := ⟨gb136, _, none⟩) NB134_136.out _).trans (((cell_far (p := ⟨gb136, _, none⟩) NB134_136.out _).trans (((cell_far (p := ⟨gb136, _, none⟩) NB134_136.out _).trans (hHeld.2.2))))))⟩ (fun hHeld => ?_)
    clear hK K
    refine done_ (done_of HT_.out (by kernel_rfl)) ?_
    try go_wp2
    refine rC gb136 28 #[.int .i64 t141, .int .i64 t144, .bool false] (bU BK136) Tryz.underlying28 ?_
    exact ⟨rR, bZ HB⟩
   ·replace c24 := Bool.eq_false_iff.mpr c24
    subst c24
    rw [if_neg (show ¬ (false = true) by decide)] at H
    simp only [Option.some.injEq, Prod.mk.injEq] at H
    obtain ⟨rfl, rfl, rfl⟩ := H
    go_enter Tryz.func48, Tryz.ntmps48
    go_wp2_with (first | (refine gB 2 #[.int .i64 a0_0, .int .i64 a0_1, .bool false] 28 ?_; intro gb134 hg w45 BK134 hb; have GW134 := bG HB hg; replace HB := bS HB hb; clear hb hg) | (refine gB 3 #[.int .i64 a1_0, .int .i64 a1_1, .bool false] 28 ?_; intro gb135 hg w46 BK135 hb; have GW135 := bG HB hg; replace HB := bS HB hb; obtain ⟨NB134_135, NB135_134⟩ := bN BK134 hg; replace BK134 := bB BK134 hb; clear hb hg) | (refine gB 4 #[.int .i64 0, .int .i64 0, .bool false] 28 ?_; intro gb136 hg w47 BK136 hb; have GW136 := bG HB hg; replace HB := bS HB hb; obtain ⟨NB134_136, NB136_134⟩ := bN BK134 hg; replace BK134 := bB BK134 hb; obtain ⟨NB135_136, NB136_135⟩ := bN BK135 hg; replace BK135 := bB BK135 hb; clear hb hg; obtain ⟨hnb48, hnc48⟩ := nB NB134_135; obtain ⟨hnb49, hnc49⟩ := nB NB134_136; obtain ⟨hcz50_0, hcz50_1, hcz50_2, hfz50_0, hfz50_1, hfz50_2⟩ := bK3 (w := w47) BK134; obtain ⟨hnb51, hnc51⟩ := nB NB135_136; obtain ⟨hcz52_0, hcz52_1, hcz52_2, hfz52_0, hfz52_1, hfz52_2⟩ := bK3 (w := w47) BK135) | (refine gC (some 17) Tryz.func89 #[.agg #[.int .i64 a0_0, .int .i64 a0_1, .bool false], .agg #[.int .i64 a1_0, .int .i64 a1_1, .bool false]] ?_; (with_reducible refine (impl_slopeOf.calls k a0_0 a0_1 false a1_0 a1_1 false t137 false _ A23.out).mono ?_); rintro e w53 ⟨rfl, hb⟩; refine ⟨_, rfl, ?_⟩; replace BK134 := bB BK134 hb; replace BK135 := bB BK135 hb; replace BK136 := bB BK136 hb; replace HB := bS HB hb; (try clear hb); obtain ⟨hcz54_0, hcz54_1, hcz54_2, hfz54_0, hfz54_1, hfz54_2⟩ := bK3 (w := w53) BK136))
    refine rC gb136 28 #[.int .i64 0, .int .i64 0, .bool true] (bU BK136) Tryz.underlying28 ?_
    exact ⟨rR, bZ HB⟩
def impl_PointTimes.l0 : Nat → Int → Int → Int → Bool → Int → Int → Bool → Option (Int × Int × Bool)
 | 0, _, _, _, _, _, _, _ => none
 | k + 1, x0, x146000, x146001, x146002, x148000, x148001, x148002 => if x0 > 0 then (if (Int.tmod x0 2) = 1 then ((impl_add.f k x148000 x148001 x148002 x146000 x146001 x146002).bind fun bt150 => ((impl_add.f k x146000 x146001 x146002 x146000 x146001 x146002).bind fun bt153 => (impl_PointTimes.l0 k (wrap64 (Int.tdiv x0 2)) bt153.1 bt153.2.1 bt153.2.2 bt150.1 bt150.2.1 bt150.2.2))) else ((impl_add.f k x146000 x146001 x146002 x146000 x146001 x146002).bind fun bt156 => (impl_PointTimes.l0 k (wrap64 (Int.tdiv x0 2)) bt156.1 bt156.2.1 bt156.2.2 x148000 x148001 x148002))) else (some (x148000, x148001, x148002))
def impl_PointTimes.f (k : Nat) (a0 : Int) (a1_0 : Int) (a1_1 : Int) (a1_2 : Bool) : Option (Int × Int × Bool) := (impl_PointOk.f a1_0 a1_1 a1_2).bind fun t148 => (if t148 = true then ((impl_remainder.f a0 12108).bind fun t149 => (impl_PointTimes.l0 k t149 a1_0 a1_1 a1_2 0 0 true)) else (some (0, 0, true)))
theorem impl_PointTimes.calls (k : Nat) (a0 : Int) (a1_0 : Int) (a1_1 : Int) (a1_2 : Bool) (r1 : Int) (r2 : Int) (r3 : Bool) (w : World) (h : impl_PointTimes.f k a0 a1_0 a1_1 a1_2 = some (r1, r2, r3)) :
  Calls Tryz.prog 45 #[.int .i64 a0, .agg #[.int .i64 a1_0, .int .i64 a1_1, .bool a1_2]] w fun e w' => e = .returned (.agg #[.int .i64 r1, .int .i64 r2, .bool r3]) ∧ Below w.heap.size w w' := by
 have hu28 := Tryz.underlying28
 have HB := Aside0.mk (Below.refl w.heap.size w)
 unfold impl_PointTimes.f at h
 have H := h
 clear h
 obtain ⟨t148, A3, H⟩ := oB H
 by_cases c4 : t148 = true
 ·subst c4
  rw [if_pos rfl] at H
  obtain ⟨t149, A5, H⟩ := oB H
  have H' := Aside0.mk H
  clear H
  go_enter Tryz.func45, Tryz.ntmps45
  go_wp2_with (first | (refine gB 3 #[.int .i64 a1_0, .int .i64 a1_1, .bool a1_2] 28 ?_; intro gb145 hg w6 BK145 hb; have GW145 := bG HB hg; replace HB := bS HB hb; clear hb hg) | (refine gB 4 #[.int .i64 0, .int .i64 0, .bool false] 28 ?_; intro gb146 hg w7 BK146 hb; have GW146 := bG HB hg; replace HB := bS HB hb; obtain ⟨NB145_146, NB146_145⟩ := bN BK145 hg; replace BK145 := bB BK145 hb; clear hb hg) | (refine gB 5 #[.int .i64 0, .int .i64 0, .bool false] 28 ?_; intro gb147 hg w8 BK147 hb; have GW147 := bG HB hg; replace HB := bS HB hb; obtain ⟨NB145_147, NB147_145⟩ := bN BK145 hg; replace BK145 := bB BK145 hb; obtain ⟨NB146_147, NB147_146⟩ := bN BK146 hg; replace BK146 := bB BK146 hb; clear hb hg; obtain ⟨hnb9, hnc9⟩ := nB NB147_145; obtain ⟨hnb10, hnc10⟩ := nB NB147_146; obtain ⟨hcz11_0, hcz11_1, hcz11_2, hfz11_0, hfz11_1, hfz11_2⟩ := bK3 (w := w8) BK147; obtain ⟨hnb12, hnc12⟩ := nB NB145_146; obtain ⟨hcz13_0, hcz13_1, hcz13_2, hfz13_0, hfz13_1, hfz13_2⟩ := bK3 (w := w8) BK145) | (refine gC (some 8) Tryz.func47 #[.agg #[.int .i64 a1_0, .int .i64 a1_1, .bool a1_2]] ?_; (with_reducible refine (impl_PointOk.calls a1_0 a1_1 a1_2 true _ A3.out).mono ?_); rintro e w14 ⟨rfl, hb⟩; refine ⟨_, rfl, ?_⟩; replace BK145 := bB BK145 hb; replace BK146 := bB BK146 hb; replace BK147 := bV 28 #[.int .i64 0, .int .i64 0, .bool true] BK147 hb; replace HB := bS HB hb; (try clear hb)) | (refine gC (some 12) Tryz.func86 #[.int .i64 a0, .int .i64 12108] ?_; (with_reducible refine (impl_remainder.calls a0 12108 t149 _ A5.out).mono ?_); rintro e w' ⟨rfl, ⟨nd, rfl⟩⟩; refine ⟨_, rfl, ?_⟩))
  go_loopg [0] k (fun kq v0 w' => ∃ (x0_1 : Int) (x146000_1 : Int) (x146001_1 : Int) (x146002_1 : Bool) (x148000_1 : Int) (x148001_1 : Int) (x148002_1 : Bool), v0 = .int .i64 x0_1 ∧ Aside0 (impl_PointTimes.l0 kq x0_1 x146000_1 x146001_1 x146002_1 x148000_1 x148001_1 x148002_1 = some (r1, r2, r3)) ∧ Aside0 (kq ≤ k) ∧ Aside0 (w'.heap[gb145]? = some (.cells #[.int .i64 x146000_1, .int .i64 x146001_1, .bool x146002_1] 28 (0, 0))) ∧ Aside0 (w'.heap[gb146]? = some (.cells #[.int .i64 0, .int .i64 0, .bool false] 28 (0, 0))) ∧ Aside0 (w'.heap[gb147]? = some (.cells #[.int .i64 x148000_1, .int .i64 x148001_1, .bool x148002_1] 28 (0, 0))) ∧ Aside0 (Below w.heap.size w w'))
  case atStart => exact ⟨(t149), (a1_0), (a1_1), (a1_2), (0), (0), (true), rS, H', ⟨Nat.le_refl _⟩, ⟨bP BK145⟩, ⟨bP BK146⟩, ⟨bP BK147⟩, ⟨bZ HB⟩⟩
  case round =>
   clear H'
   try clear c1
   try clear p2
   try clear c4
   try clear c8
   try clear c9
   try clear c10
   try clear c12
   try clear hcz11_0
   try clear hcz11_1
   try clear hcz11_2
   try clear hcz13_0
   try clear hcz13_1
   try clear hcz13_2
   try clear hfz11_0
   try clear hfz11_1
   try clear hfz11_2
   try clear hfz13_0
   try clear hfz13_1
   try clear hfz13_2
   obtain ⟨x0_1, x146000_1, x146001_1, x146002_1, x148000_1, x148001_1, x148002_1, rfl, HA, HK1, BK145, BK146, BK147, HB⟩ := hrel
   cases gk with
   | zero => exact absurd HA.out (by simp [impl_PointTimes.l0])
   | succ k1 =>
    have H := HA.out
    clear HA
    simp only [impl_PointTimes.l0] at H
    by_cases c15 : x0_1 > 0
    ·rw [if_pos c15] at H
     have c15b0 := decide_eq_true c15
     clear c15
     by_cases c16 : (Int.tmod x0_1 2) = 1
     ·rw [if_pos c16] at H
      have c16b0 : ((Int.tmod x0_1 2) == 1) = true := beq_iff_eq.mpr c16
      have c16b1 : ((Int.tmod x0_1 2) != 1) = false := bne_eq_false_iff_eq.mpr c16
      clear c16
      obtain ⟨⟨t150, t151, t152⟩, A17, H⟩ := oB H
      obtain ⟨⟨t153, t154, t155⟩, A18, H⟩ := oB H
      have H' := Aside0.mk H
      clear H
      obtain ⟨hnb19, hnc19⟩ := nB NB147_145
      obtain ⟨hnb20, hnc20⟩ := nB NB147_146
      obtain ⟨hcz21_0, hcz21_1, hcz21_2, hfz21_0, hfz21_1, hfz21_2⟩ := bK3 (w := wr) BK147
      obtain ⟨hnb22, hnc22⟩ := nB NB145_146
      obtain ⟨hcz23_0, hcz23_1, hcz23_2, hfz23_0, hfz23_1, hfz23_2⟩ := bK3 (w := wr) BK145
      go_wp2_with (first | (refine gC (some 22) Tryz.func48 #[.agg #[.int .i64 x148000_1, .int .i64 x148001_1, .bool x148002_1], .agg #[.int .i64 x146000_1, .int .i64 x146001_1, .bool x146002_1]] ?_; (with_reducible refine (impl_add.calls k1 x148000_1 x148001_1 x148002_1 x146000_1 x146001_1 x146002_1 t150 t151 t152 _ A17.out).mono ?_); rintro e w24 ⟨rfl, hb⟩; refine ⟨_, rfl, ?_⟩; replace BK145 := bB BK145 hb; replace BK146 := bB BK146 hb; replace BK147 := bB BK147 hb; replace HB := bS HB hb; (try clear hb); obtain ⟨hcz25_0, hcz25_1, hcz25_2, hfz25_0, hfz25_1, hfz25_2⟩ := bK3 (w := w24) BK147; obtain ⟨hcz26_0, hcz26_1, hcz26_2, hfz26_0, hfz26_1, hfz26_2⟩ := bK3 (w := w24) BK145) | (refine gC (some 25) Tryz.func48 #[.agg #[.int .i64 x146000_1, .int .i64 x146001_1, .bool x146002_1], .agg #[.int .i64 x146000_1, .int .i64 x146001_1, .bool x146002_1]] ?_; (with_reducible refine (impl_add.calls k1 x146000_1 x146001_1 x146002_1 x146000_1 x146001_1 x146002_1 t153 t154 t155 _ A18.out).mono ?_); rintro e w27 ⟨rfl, hb⟩; refine ⟨_, rfl, ?_⟩; replace BK145 := bB BK145 hb; replace BK146 := bB BK146 hb; replace BK147 := bV 28 #[.int .i64 t150, .int .i64 t151, .bool t152] BK147 hb; replace HB := bS HB hb; (try clear hb); obtain ⟨hcz28_0, hcz28_1, hcz28_2, hfz28_0, hfz28_1, hfz28_2⟩ := bK3 (w := w27) BK145))
      go_roundg k1
      case measure => have := HK1.out; omega
      case rel => exact ⟨(wrap64 (Int.tdiv x0_1 2)), (t153), (t154), (t155), (t150), (t151), (t152), rS, H', ⟨by have := HK1.out; omega⟩, ⟨bU BK145⟩, ⟨bP BK146⟩, ⟨bP BK147⟩, ⟨bZ HB⟩⟩
     ·rw [if_neg c16] at H
      have c16b0 : ((Int.tmod x0_1 2) == 1) = false := beq_eq_false_iff_ne.mpr c16
      have c16b1 : ((Int.tmod x0_1 2) != 1) = true := bne_iff_ne.mpr c16
      obtain ⟨⟨t156, t157, t158⟩, A29, H⟩ := oB H
      have H' := Aside0.mk H
      clear H
      obtain ⟨hnb30, hnc30⟩ := nB NB145_146
      obtain ⟨hnb31, hnc31⟩ := nB NB145_147
      obtain ⟨hcz32_0, hcz32_1, hcz32_2, hfz32_0, hfz32_1, hfz32_2⟩ := bK3 (w := wr) BK145
      go_wp2_with (first | (refine gC (some 25) Tryz.func48 #[.agg #[.int .i64 x146000_1, .int .i64 x146001_1, .bool x146002_1], .agg #[.int .i64 x146000_1, .int .i64 x146001_1, .bool x146002_1]] ?_; (with_reducible refine (impl_add.calls k1 x146000_1 x146001_1 x146002_1 x146000_1 x146001_1 x146002_1 t156 t157 t158 _ A29.out).mono ?_); rintro e w33 ⟨rfl, hb⟩; refine ⟨_, rfl, ?_⟩; replace BK145 := bB BK145 hb; replace BK146 := bB BK146 hb; replace BK147 := bB BK147 hb; replace HB := bS HB hb; (try clear hb); obtain ⟨hcz34_0, hcz34_1, hcz34_2, hfz34_0, hfz34_1, hfz34_2⟩ := bK3 (w := w33) BK145))
      go_roundg k1
      case measure => have := HK1.out; omega
      case rel => exact ⟨(wrap64 (Int.tdiv x0_1 2)), (t156), (t157), (t158), (x148000_1), (x148001_1), (x148002_1), rS, H', ⟨by have := HK1.out; omega⟩, ⟨bU BK145⟩, ⟨bP BK146⟩, ⟨bP BK147⟩, ⟨bZ HB⟩⟩
    ·rw [if_neg c15] at H
     have c15b0 := decide_eq_false c15
     clear c15
     simp only [Option.some.injEq, Prod.mk.injEq] at H
     obtain ⟨rfl, rfl, rfl⟩ := H
     obtain ⟨hnb35, hnc35⟩ := nB NB147_145
     obtain ⟨hnb36, hnc36⟩ := nB NB147_146
     obtain ⟨hcz37_0, hcz37_1, hcz37_2, hfz37_0, hfz37_1, hfz37_2⟩ := bK3 (w := wr) BK147
     obtain ⟨hnb38, hnc38⟩ := nB NB146_145
     obtain ⟨hcz39_0, hcz39_1, hcz39_2, hfz39_0, hfz39_1, hfz39_2⟩ := bK3 (w := wr) BK146
     go_wp2
     refine rC gb146 28 #[.int .i64 x148000_1, .int .i64 x148001_1, .bool x148002_1] (bU BK146) Tryz.underlying28 ?_
     exact ⟨rR, bZ HB⟩
 ·replace c4 := Bool.eq_false_iff.mpr c4
  subst c4
  rw [if_neg (show ¬ (false = true) by decide)] at H
  simp only [Option.some.injEq, Prod.mk.injEq] at H
  obtain ⟨rfl, rfl, rfl⟩ := H
  go_enter Tryz.func45, Tryz.ntmps45
  go_wp2_with (first | (refine gB 3 #[.int .i64 a1_0, .int .i64 a1_1, .bool a1_2] 28 ?_; intro gb145 hg w40 BK145 hb; have GW145 := bG HB hg; replace HB := bS HB hb; clear hb hg) | (refine gB 4 #[.int .i64 0, .int .i64 0, .bool false] 28 ?_; intro gb146 hg w41 BK146 hb; have GW146 := bG HB hg; replace HB := bS HB hb; obtain ⟨NB145_146, NB146_145⟩ := bN BK145 hg; replace BK145 := bB BK145 hb; clear hb hg) | (refine gB 5 #[.int .i64 0, .int .i64 0, .bool false] 28 ?_; intro gb147 hg w42 BK147 hb; have GW147 := bG HB hg; replace HB := bS HB hb; obtain ⟨NB145_147, NB147_145⟩ := bN BK145 hg; replace BK145 := bB BK145 hb; obtain ⟨NB146_147, NB147_146⟩ := bN BK146 hg; replace BK146 := bB BK146 hb; clear hb hg; obtain ⟨hnb43, hnc43⟩ := nB NB147_145; obtain ⟨hnb44, hnc44⟩ := nB NB147_146; obtain ⟨hcz45_0, hcz45_1, hcz45_2, hfz45_0, hfz45_1, hfz45_2⟩ := bK3 (w := w42) BK147; obtain ⟨hnb46, hnc46⟩ := nB NB145_146; obtain ⟨hcz47_0, hcz47_1, hcz47_2, hfz47_0, hfz47_1, hfz47_2⟩ := bK3 (w := w42) BK145) | (refine gC (some 8) Tryz.func47 #[.agg #[.int .i64 a1_0, .int .i64 a1_1, .bool a1_2]] ?_; (with_reducible refine (impl_PointOk.calls a1_0 a1_1 a1_2 false _ A3.out).mono ?_); rintro e w48 ⟨rfl, hb⟩; refine ⟨_, rfl, ?_⟩; replace BK145 := bB BK145 hb; replace BK146 := bB BK146 hb; replace BK147 := bV 28 #[.int .i64 0, .int .i64 0, .bool true] BK147 hb; replace HB := bS HB hb; (try clear hb); obtain ⟨hcz49_0, hcz49_1, hcz49_2, hfz49_0, hfz49_1, hfz49_2⟩ := bK3 (w := w48) BK147; obtain ⟨hcz50_0, hcz50_1, hcz50_2, hfz50_0, hfz50_1, hfz50_2⟩ := bK3 (w := w48) BK146))
  refine rC gb146 28 #[.int .i64 0, .int .i64 0, .bool true] (bU BK146) Tryz.underlying28 ?_
  exact ⟨rR, bZ HB⟩
def impl_InGroup.f (k : Nat) (a0_0 : Int) (a0_1 : Int) (a0_2 : Bool) : Option (Bool) := (impl_PointOk.f a0_0 a0_1 a0_2).bind fun t471 => (if t471 = true then ((impl_PointTimes.f k 1009 a0_0 a0_1 a0_2).bind fun bt472 => (some bt472.2.2)) else (some false))
theorem impl_InGroup.calls (k : Nat) (a0_0 : Int) (a0_1 : Int) (a0_2 : Bool) (r : Bool) (w : World) (h : impl_InGroup.f k a0_0 a0_1 a0_2 = some r) :
  Calls Tryz.prog 21 #[.agg #[.int .i64 a0_0, .int .i64 a0_1, .bool a0_2]] w fun e w' => e = .returned (.bool r) ∧ Below w.heap.size w w' := by
 have hu28 := Tryz.underlying28
 have hfd28_0 : ∀ (x0 : Int) (x1 : Int) (x2 : Bool) (w_ : World), (Instr.field 28 (.agg #[.int .i64 x0, .int .i64 x1, .bool x2]) 0).run Tryz.prog w_ = .ok (.int .i64 x0) w_ := fun _ _ _ _ => by kernel_rfl
 have hfd28_1 : ∀ (x0 : Int) (x1 : Int) (x2 : Bool) (w_ : World), (Instr.field 28 (.agg #[.int .i64 x0, .int .i64 x1, .bool x2]) 1).run Tryz.prog w_ = .ok (.int .i64 x1) w_ := fun _ _ _ _ => by kernel_rfl
 have hfd28_2 : ∀ (x0 : Int) (x1 : Int) (x2 : Bool) (w_ : World), (Instr.field 28 (.agg #[.int .i64 x0, .int .i64 x1, .bool x2]) 2).run Tryz.prog w_ = .ok (.bool x2) w_ := fun _ _ _ _ => by kernel_rfl
 have HB := Aside0.mk (Below.refl w.heap.size w)
 unfold impl_InGroup.f at h
 have H := h
 clear h
 obtain ⟨t471, A2, H⟩ := oB H
 by_cases c3 : t471 = true
 ·subst c3
  rw [if_pos rfl] at H
  obtain ⟨⟨t472, t473, t474⟩, A4, H⟩ := oB H
  obtain rfl := Option.some.inj H
  go_enter Tryz.func21, Tryz.ntmps21
  go_wp2_with (first | (refine gB 1 #[.int .i64 a0_0, .int .i64 a0_1, .bool a0_2] 28 ?_; intro gb470 hg w5 BK470 hb; have GW470 := bG HB hg; replace HB := bS HB hb; clear hb hg; obtain ⟨hcz6_0, hcz6_1, hcz6_2, hfz6_0, hfz6_1, hfz6_2⟩ := bK3 (w := w5) BK470) | (refine gC (some 4) Tryz.func47 #[.agg #[.int .i64 a0_0, .int .i64 a0_1, .bool a0_2]] ?_; (with_reducible refine (impl_PointOk.calls a0_0 a0_1 a0_2 true _ A2.out).mono ?_); rintro e w7 ⟨rfl, hb⟩; refine ⟨_, rfl, ?_⟩; replace BK470 := bB BK470 hb; replace HB := bS HB hb; (try clear hb); obtain ⟨hcz8_0, hcz8_1, hcz8_2, hfz8_0, hfz8_1, hfz8_2⟩ := bK3 (w := w7) BK470) | (go_at_call 45; (with_reducible refine (impl_PointTimes.calls k 1009 a0_0 a0_1 a0_2 t472 t473 t474 _ A4.out).mono ?_); rintro e w9 ⟨rfl, hb⟩; replace BK470 := bB BK470 hb; replace HB := bS HB hb; (try clear hb)))
  go_ret
  exact ⟨rR, bZ HB⟩
 ·replace c3 := Bool.eq_false_iff.mpr c3
  subst c3
  rw [if_neg (show ¬ (false = true) by decide)] at H
  obtain rfl := Option.some.inj H
  go_enter Tryz.func21, Tryz.ntmps21
  go_wp2_with (first | (refine gB 1 #[.int .i64 a0_0, .int .i64 a0_1, .bool a0_2] 28 ?_; intro gb470 hg w10 BK470 hb; have GW470 := bG HB hg; replace HB := bS HB hb; clear hb hg; obtain ⟨hcz11_0, hcz11_1, hcz11_2, hfz11_0, hfz11_1, hfz11_2⟩ := bK3 (w := w10) BK470) | (refine gC (some 4) Tryz.func47 #[.agg #[.int .i64 a0_0, .int .i64 a0_1, .bool a0_2]] ?_; (with_reducible refine (impl_PointOk.calls a0_0 a0_1 a0_2 false _ A2.out).mono ?_); rintro e w12 ⟨rfl, hb⟩; refine ⟨_, rfl, ?_⟩; replace BK470 := bB BK470 hb; replace HB := bS HB hb; (try clear hb)))
  go_ret
  exact ⟨rR, bZ HB⟩
def impl_CommitteeOk.l0 : Nat → List (S28) → Int → Int → Option (Bool)
 | 0, _, _, _ => none
 | k + 1, x10, x11, x12 => if x12 < x11 then (if 0 ≤ x12 then (if x12 < (x10.length : Int) then (if (rd_T28 x10 x12).f2 = true then (some false) else ((impl_InGroup.f k ((rd_T28 x10 x12).f0) ((rd_T28 x10 x12).f1) ((rd_T28 x10 x12).f2)).bind fun t925 => (if t925 = true then (impl_CommitteeOk.l0 k x10 x11 (wrap64 (x12 + 1))) else (some false)))) else (none)) else (none)) else (some true)
def impl_CommitteeOk.f (k : Nat) (l0_0 : List (S28)) : Option (Bool) := if (l0_0.length : Int) = 8 then (impl_CommitteeOk.l0 k l0_0 (l0_0.length : Int) 0) else (some false)
theorem impl_CommitteeOk.calls (k : Nat) (A0_0 : Option Addr) (c0_0 : Nat) (l0_0 : List (S28)) (r : Bool) (w : World) (hr0_0 : Kd.C k28 w A0_0 l0_0.length l0_0) (hc0_0 : l0_0.length ≤ c0_0) (h : impl_CommitteeOk.f k l0_0 = some r) :
  Calls Tryz.prog 39 #[.agg #[.slice A0_0 l0_0.length c0_0]] w fun e w' => e = .returned (.bool r) ∧ Below w.heap.size w w' := by
 have hu46 := Tryz.underlying46
 have hu28 := Tryz.underlying28
 have HR0_0 := Aside0.mk hr0_0
 have HC0_0 := Aside0.mk hc0_0
 clear hr0_0 hc0_0
 have HB := Aside0.mk (Below.refl w.heap.size w)
 unfold impl_CommitteeOk.f at h
 have H := h
 clear h
 by_cases c2 : (l0_0.length : Int) = 8
 ·rw [if_pos c2] at H
  have c2b0 : ((l0_0.length : Int) == 8) = true := beq_iff_eq.mpr c2
  have c2b1 : ((l0_0.length : Int) != 8) = false := bne_eq_false_iff_eq.mpr c2
  clear c2
  have H' := Aside0.mk H
  clear H
  go_enter Tryz.func39, Tryz.ntmps39
  go_wp2_with (first | (refine gB 1 #[.slice A0_0 l0_0.length c0_0] 46 ?_; intro gb922 hg w3 BK922 hb; have GW922 := bG HB hg; replace HB := bS HB hb; clear hb hg; obtain ⟨hcz4_0, hfz4_0⟩ := bK1 (w := w3) BK922))
  go_loopg [12] k (fun kq v12 w' => ∃ (x12_1 : Int), v12 = .int .i64 x12_1 ∧ Aside0 (impl_CommitteeOk.l0 kq l0_0 (l0_0.length : Int) x12_1 = some r) ∧ Aside0 (kq ≤ k) ∧ Aside0 (w'.heap[gb922]? = some (.cells #[(.slice A0_0 l0_0.length c0_0)] 46 (0, 0))) ∧ Aside0 (Below w.heap.size w w'))
  case atStart => exact ⟨(0), rS, H', ⟨Nat.le_refl _⟩, ⟨bP BK922⟩, ⟨bZ HB⟩⟩
  case round =>
   clear H'
   try clear c2
   try clear c2b0
   try clear c2b1
   try clear p2
   try clear c3
   try clear hcz4_0
   try clear hfz4_0
   obtain ⟨x12_1, rfl, HA, HK1, BK922, HB⟩ := hrel
   cases gk with
   | zero => exact absurd HA.out (by simp [impl_CommitteeOk.l0])
   | succ k1 =>
    have H := HA.out
    clear HA
    simp only [impl_CommitteeOk.l0] at H
    by_cases c5 : x12_1 < (l0_0.length : Int)
    ·rw [if_pos c5] at H
     have c5b0 := decide_eq_true c5
     clear c5
     by_cases c6 : 0 ≤ x12_1
     ·rw [if_pos c6] at H
      have c6b0 := decide_eq_true c6
      clear c6
      by_cases c7 : x12_1 < (l0_0.length : Int)
      ·rw [if_pos c7] at H
       have c7b0 := decide_eq_true c7
       clear c7
       obtain ⟨bq8, hbq8⟩ : ∃ b_ : Bool, b_ = ((rd_T28 l0_0 x12_1).f2) := ⟨_, rfl⟩
       replace H : (if bq8 = true then (some false) else ((impl_InGroup.f k1 ((rd_T28 l0_0 x12_1).f0) ((rd_T28 l0_0 x12_1).f1) (bq8)).bind fun t925 => (if t925 = true then (impl_CommitteeOk.l0 k1 l0_0 (l0_0.length : Int) (wrap64 (x12_1 + 1))) else (some false)))) = some r := by rw [← hbq8] at H; exact H
       have Nbq8 := Aside0.mk hbq8
       clear hbq8
       by_cases c9 : bq8 = true
       ·subst c9
        rw [if_pos rfl] at H
        obtain rfl := Option.some.inj H
        have p923 : 0 ≤ (x12_1 : Int) := aQ
        have q923 : x12_1 < (l0_0.length : Int) := aQ
        obtain ⟨ad923, e923, hx923_0, hx923_1, hx923_2⟩ := at_T28 HR0_0.out x12_1 p923 q923
        (try rw [← Nbq8.out] at hx923_2)
        cases e923
        replace hx923_0 := (hC HB hx923_0 :)
        replace hx923_1 := (hC HB hx923_1 :)
        replace hx923_2 := (hC HB hx923_2 :)
        replace p923 := eq_true p923
        replace q923 := eq_true q923
        go_wp2_with (first | (refine gB 4 #[.int .i64 0, .int .i64 0, .bool false] 28 ?_; intro gb924 hg w10 BK924 hb; have GW924 := bG HB hg; replace HB := bS HB hb; obtain ⟨NB922_924, NB924_922⟩ := bN BK922 hg; replace BK922 := bB BK922 hb; clear hb hg; obtain ⟨hnb11, hnc11⟩ := nB NB924_922; obtain ⟨hcz12_0, hcz12_1, hcz12_2, hfz12_0, hfz12_1, hfz12_2⟩ := bK3 (w := w10) BK924))
        go_ret
        exact ⟨rR, bZ HB⟩
       ·replace c9 := Bool.eq_false_iff.mpr c9
        subst c9
        rw [if_neg (show ¬ (false = true) by decide)] at H
        obtain ⟨t925, A13, H⟩ := oB H
        by_cases c14 : t925 = true
        ·subst c14
         rw [if_pos rfl] at H
         have H' := Aside0.mk H
         clear H
         have p923 : 0 ≤ (x12_1 : Int) := aQ
         have q923 : x12_1 < (l0_0.length : Int) := aQ
         obtain ⟨ad923, e923, hx923_0, hx923_1, hx923_2⟩ := at_T28 HR0_0.out x12_1 p923 q923
         (try rw [← Nbq8.out] at hx923_2)
         cases e923
         replace hx923_0 := (hC HB hx923_0 :)
         replace hx923_1 := (hC HB hx923_1 :)
         replace hx923_2 := (hC HB hx923_2 :)
         replace p923 := eq_true p923
         replace q923 := eq_true q923
         go_wp2_with (first | (refine gB 4 #[.int .i64 0, .int .i64 0, .bool false] 28 ?_; intro gb924 hg w15 BK924 hb; have GW924 := bG HB hg; replace HB := bS HB hb; obtain ⟨NB922_924, NB924_922⟩ := bN BK922 hg; replace BK922 := bB BK922 hb; clear hb hg; obtain ⟨hnb16, hnc16⟩ := nB NB924_922; obtain ⟨hcz17_0, hcz17_1, hcz17_2, hfz17_0, hfz17_1, hfz17_2⟩ := bK3 (w := w15) BK924) | (go_at_call 21; (with_reducible refine (impl_InGroup.calls k1 ((rd_T28 l0_0 x12_1).f0) ((rd_T28 l0_0 x12_1).f1) false true _ A13.out).mono ?_); rintro e w18 ⟨rfl, hb⟩; replace BK922 := bB BK922 hb; replace BK924 := bV 28 #[.int .i64 ((rd_T28 l0_0 x12_1).f0), .int .i64 ((rd_T28 l0_0 x12_1).f1), .bool false] BK924 hb; replace HB := bS HB hb; (try clear hb)))
         go_roundg k1
         case measure => have := HK1.out; omega
         case rel => exact ⟨(wrap64 (x12_1 + 1)), rS, H', ⟨by have := HK1.out; omega⟩, ⟨bP BK922⟩, ⟨bZ HB⟩⟩
        ·replace c14 := Bool.eq_false_iff.mpr c14
         subst c14
         rw [if_neg (show ¬ (false = true) by decide)] at H
         obtain rfl := Option.some.inj H
         have p923 : 0 ≤ (x12_1 : Int) := aQ
         have q923 : x12_1 < (l0_0.length : Int) := aQ
         obtain ⟨ad923, e923, hx923_0, hx923_1, hx923_2⟩ := at_T28 HR0_0.out x12_1 p923 q923
         (try rw [← Nbq8.out] at hx923_2)
         cases e923
         replace hx923_0 := (hC HB hx923_0 :)
         replace hx923_1 := (hC HB hx923_1 :)
         replace hx923_2 := (hC HB hx923_2 :)
         replace p923 := eq_true p923
         replace q923 := eq_true q923
         go_wp2_with (first | (refine gB 4 #[.int .i64 0, .int .i64 0, .bool false] 28 ?_; intro gb924 hg w19 BK924 hb; have GW924 := bG HB hg; replace HB := bS HB hb; obtain ⟨NB922_924, NB924_922⟩ := bN BK922 hg; replace BK922 := bB BK922 hb; clear hb hg; obtain ⟨hnb20, hnc20⟩ := nB NB924_922; obtain ⟨hcz21_0, hcz21_1, hcz21_2, hfz21_0, hfz21_1, hfz21_2⟩ := bK3 (w := w19) BK924) | (go_at_call 21; (with_reducible refine (impl_InGroup.calls k1 ((rd_T28 l0_0 x12_1).f0) ((rd_T28 l0_0 x12_1).f1) false false _ A13.out).mono ?_); rintro e w22 ⟨rfl, hb⟩; replace BK922 := bB BK922 hb; replace BK924 := bV 28 #[.int .i64 ((rd_T28 l0_0 x12_1).f0), .int .i64 ((rd_T28 l0_0 x12_1).f1), .bool false] BK924 hb; replace HB := bS HB hb; (try clear hb)))
         go_ret
         exact ⟨rR, bZ HB⟩
      ·rw [if_neg c7] at H
       exact absurd H (by simp)
     ·rw [if_neg c6] at H
      exact absurd H (by simp)
    ·rw [if_neg c5] at H
     have c5b0 := decide_eq_false c5
     clear c5
     obtain rfl := Option.some.inj H
     go_wp2
     go_ret
     exact ⟨rR, bZ HB⟩
 ·rw [if_neg c2] at H
  have c2b0 : ((l0_0.length : Int) == 8) = false := beq_eq_false_iff_ne.mpr c2
  have c2b1 : ((l0_0.length : Int) != 8) = true := bne_iff_ne.mpr c2
  obtain rfl := Option.some.inj H
  go_enter Tryz.func39, Tryz.ntmps39
  go_wp2_with (first | (refine gB 1 #[.slice A0_0 l0_0.length c0_0] 46 ?_; intro gb922 hg w23 BK922 hb; have GW922 := bG HB hg; replace HB := bS HB hb; clear hb hg; obtain ⟨hcz24_0, hfz24_0⟩ := bK1 (w := w23) BK922))
  go_ret
  exact ⟨rR, bZ HB⟩
def impl_PointAdd.f (k : Nat) (a0_0 : Int) (a0_1 : Int) (a0_2 : Bool) (a1_0 : Int) (a1_1 : Int) (a1_2 : Bool) : Option (Int × Int × Bool) := (impl_PointOk.f a0_0 a0_1 a0_2).bind fun t171 => (if t171 = true then ((impl_PointOk.f a1_0 a1_1 a1_2).bind fun t172 => (if t172 = true then ((impl_add.f k a0_0 a0_1 a0_2 a1_0 a1_1 a1_2).bind fun bt173 => (some (bt173.1, bt173.2.1, bt173.2.2))) else (some (0, 0, true)))) else (some (0, 0, true)))
theorem impl_PointAdd.calls (k : Nat) (a0_0 : Int) (a0_1 : Int) (a0_2 : Bool) (a1_0 : Int) (a1_1 : Int) (a1_2 : Bool) (r1 : Int) (r2 : Int) (r3 : Bool) (w : World) (h : impl_PointAdd.f k a0_0 a0_1 a0_2 a1_0 a1_1 a1_2 = some (r1, r2, r3)) :
  Calls Tryz.prog 9 #[.agg #[.int .i64 a0_0, .int .i64 a0_1, .bool a0_2], .agg #[.int .i64 a1_0, .int .i64 a1_1, .bool a1_2]] w fun e w' => e = .returned (.agg #[.int .i64 r1, .int .i64 r2, .bool r3]) ∧ Below w.heap.size w w' := by
 have hu28 := Tryz.underlying28
 have HB := Aside0.mk (Below.refl w.heap.size w)
 unfold impl_PointAdd.f at h
 have H := h
 clear h
 obtain ⟨t171, A3, H⟩ := oB H
 by_cases c4 : t171 = true
 ·subst c4
  rw [if_pos rfl] at H
  obtain ⟨t172, A5, H⟩ := oB H
  by_cases c6 : t172 = true
  ·subst c6
   rw [if_pos rfl] at H
   obtain ⟨⟨t173, t174, t175⟩, A7, H⟩ := oB H
   simp only [Option.some.injEq, Prod.mk.injEq] at H
   obtain ⟨rfl, rfl, rfl⟩ := H
   go_enter Tryz.func9, Tryz.ntmps9
   go_wp2_with (first | (refine gB 2 #[.int .i64 a0_0, .int .i64 a0_1, .bool a0_2] 28 ?_; intro gb168 hg w8 BK168 hb; have GW168 := bG HB hg; replace HB := bS HB hb; clear hb hg) | (refine gB 3 #[.int .i64 a1_0, .int .i64 a1_1, .bool a1_2] 28 ?_; intro gb169 hg w9 BK169 hb; have GW169 := bG HB hg; replace HB := bS HB hb; obtain ⟨NB168_169, NB169_168⟩ := bN BK168 hg; replace BK168 := bB BK168 hb; clear hb hg) | (refine gB 4 #[.int .i64 0, .int .i64 0, .bool false] 28 ?_; intro gb170 hg w10 BK170 hb; have GW170 := bG HB hg; replace HB := bS HB hb; obtain ⟨NB168_170, NB170_168⟩ := bN BK168 hg; replace BK168 := bB BK168 hb; obtain ⟨NB169_170, NB170_169⟩ := bN BK169 hg; replace BK169 := bB BK169 hb; clear hb hg; obtain ⟨hnb11, hnc11⟩ := nB NB168_169; obtain ⟨hnb12, hnc12⟩ := nB NB168_170; obtain ⟨hcz13_0, hcz13_1, hcz13_2, hfz13_0, hfz13_1, hfz13_2⟩ := bK3 (w := w10) BK168) | (refine gC (some 6) Tryz.func47 #[.agg #[.int .i64 a0_0, .int .i64 a0_1, .bool a0_2]] ?_; (with_reducible refine (impl_PointOk.calls a0_0 a0_1 a0_2 true _ A3.out).mono ?_); rintro e w14 ⟨rfl, hb⟩; refine ⟨_, rfl, ?_⟩; replace BK168 := bB BK168 hb; replace BK169 := bB BK169 hb; replace BK170 := bB BK170 hb; replace HB := bS HB hb; (try clear hb); obtain ⟨hnb15, hnc15⟩ := nB NB169_170; obtain ⟨hcz16_0, hcz16_1, hcz16_2, hfz16_0, hfz16_1, hfz16_2⟩ := bK3 (w := w14) BK169) | (go_at_call 47; (with_reducible refine (impl_PointOk.calls a1_0 a1_1 a1_2 true _ A5.out).mono ?_); rintro e w17 ⟨rfl, hb⟩; replace BK168 := bB BK168 hb; replace BK169 := bB BK169 hb; replace BK170 := bB BK170 hb; replace HB := bS HB hb; (try clear hb); obtain ⟨hcz18_0, hcz18_1, hcz18_2, hfz18_0, hfz18_1, hfz18_2⟩ := bK3 (w := w17) BK168; obtain ⟨hcz19_0, hcz19_1, hcz19_2, hfz19_0, hfz19_1, hfz19_2⟩ := bK3 (w := w17) BK169) | (refine gC (some 16) Tryz.func48 #[.agg #[.int .i64 a0_0, .int .i64 a0_1, .bool a0_2], .agg #[.int .i64 a1_0, .int .i64 a1_1, .bool a1_2]] ?_; (with_reducible refine (impl_add.calls k a0_0 a0_1 a0_2 a1_0 a1_1 a1_2 t173 t174 t175 _ A7.out).mono ?_); rintro e w20 ⟨rfl, hb⟩; refine ⟨_, rfl, ?_⟩; replace BK168 := bB BK168 hb; replace BK169 := bB BK169 hb; replace BK170 := bB BK170 hb; replace HB := bS HB hb; (try clear hb); obtain ⟨hcz21_0, hcz21_1, hcz21_2, hfz21_0, hfz21_1, hfz21_2⟩ := bK3 (w := w20) BK170))
   refine rC gb170 28 #[.int .i64 t173, .int .i64 t174, .bool t175] (bU BK170) Tryz.underlying28 ?_
   exact ⟨rR, bZ HB⟩
  ·replace c6 := Bool.eq_false_iff.mpr c6
   subst c6
   rw [if_neg (show ¬ (false = true) by decide)] at H
   simp only [Option.some.injEq, Prod.mk.injEq] at H
   obtain ⟨rfl, rfl, rfl⟩ := H
   go_enter Tryz.func9, Tryz.ntmps9
   go_wp2_with (first | (refine gB 2 #[.int .i64 a0_0, .int .i64 a0_1, .bool a0_2] 28 ?_; intro gb168 hg w22 BK168 hb; have GW168 := bG HB hg; replace HB := bS HB hb; clear hb hg) | (refine gB 3 #[.int .i64 a1_0, .int .i64 a1_1, .bool a1_2] 28 ?_; intro gb169 hg w23 BK169 hb; have GW169 := bG HB hg; replace HB := bS HB hb; obtain ⟨NB168_169, NB169_168⟩ := bN BK168 hg; replace BK168 := bB BK168 hb; clear hb hg) | (refine gB 4 #[.int .i64 0, .int .i64 0, .bool false] 28 ?_; intro gb170 hg w24 BK170 hb; have GW170 := bG HB hg; replace HB := bS HB hb; obtain ⟨NB168_170, NB170_168⟩ := bN BK168 hg; replace BK168 := bB BK168 hb; obtain ⟨NB169_170, NB170_169⟩ := bN BK169 hg; replace BK169 := bB BK169 hb; clear hb hg; obtain ⟨hnb25, hnc25⟩ := nB NB168_169; obtain ⟨hnb26, hnc26⟩ := nB NB168_170; obtain ⟨hcz27_0, hcz27_1, hcz27_2, hfz27_0, hfz27_1, hfz27_2⟩ := bK3 (w := w24) BK168) | (refine gC (some 6) Tryz.func47 #[.agg #[.int .i64 a0_0, .int .i64 a0_1, .bool a0_2]] ?_; (with_reducible refine (impl_PointOk.calls a0_0 a0_1 a0_2 true _ A3.out).mono ?_); rintro e w28 ⟨rfl, hb⟩; refine ⟨_, rfl, ?_⟩; replace BK168 := bB BK168 hb; replace BK169 := bB BK169 hb; replace BK170 := bB BK170 hb; replace HB := bS HB hb; (try clear hb); obtain ⟨hnb29, hnc29⟩ := nB NB169_170; obtain ⟨hcz30_0, hcz30_1, hcz30_2, hfz30_0, hfz30_1, hfz30_2⟩ := bK3 (w := w28) BK169) | (go_at_call 47; (with_reducible refine (impl_PointOk.calls a1_0 a1_1 a1_2 false _ A5.out).mono ?_); rintro e w31 ⟨rfl, hb⟩; replace BK168 := bB BK168 hb; replace BK169 := bB BK169 hb; replace BK170 := bB BK170 hb; replace HB := bS HB hb; (try clear hb); obtain ⟨hcz32_0, hcz32_1, hcz32_2, hfz32_0, hfz32_1, hfz32_2⟩ := bK3 (w := w31) BK170))
   refine rC gb170 28 #[.int .i64 0, .int .i64 0, .bool true] (bU BK170) Tryz.underlying28 ?_
   exact ⟨rR, bZ HB⟩
 ·replace c4 := Bool.eq_false_iff.mpr c4
  subst c4
  rw [if_neg (show ¬ (false = true) by decide)] at H
  simp only [Option.some.injEq, Prod.mk.injEq] at H
  obtain ⟨rfl, rfl, rfl⟩ := H
  go_enter Tryz.func9, Tryz.ntmps9
  go_wp2_with (first | (refine gB 2 #[.int .i64 a0_0, .int .i64 a0_1, .bool a0_2] 28 ?_; intro gb168 hg w33 BK168 hb; have GW168 := bG HB hg; replace HB := bS HB hb; clear hb hg) | (refine gB 3 #[.int .i64 a1_0, .int .i64 a1_1, .bool a1_2] 28 ?_; intro gb169 hg w34 BK169 hb; have GW169 := bG HB hg; replace HB := bS HB hb; obtain ⟨NB168_169, NB169_168⟩ := bN BK168 hg; replace BK168 := bB BK168 hb; clear hb hg) | (refine gB 4 #[.int .i64 0, .int .i64 0, .bool false] 28 ?_; intro gb170 hg w35 BK170 hb; have GW170 := bG HB hg; replace HB := bS HB hb; obtain ⟨NB168_170, NB170_168⟩ := bN BK168 hg; replace BK168 := bB BK168 hb; obtain ⟨NB169_170, NB170_169⟩ := bN BK169 hg; replace BK169 := bB BK169 hb; clear hb hg; obtain ⟨hnb36, hnc36⟩ := nB NB168_169; obtain ⟨hnb37, hnc37⟩ := nB NB168_170; obtain ⟨hcz38_0, hcz38_1, hcz38_2, hfz38_0, hfz38_1, hfz38_2⟩ := bK3 (w := w35) BK168) | (refine gC (some 6) Tryz.func47 #[.agg #[.int .i64 a0_0, .int .i64 a0_1, .bool a0_2]] ?_; (with_reducible refine (impl_PointOk.calls a0_0 a0_1 a0_2 false _ A3.out).mono ?_); rintro e w39 ⟨rfl, hb⟩; refine ⟨_, rfl, ?_⟩; replace BK168 := bB BK168 hb; replace BK169 := bB BK169 hb; replace BK170 := bB BK170 hb; replace HB := bS HB hb; (try clear hb); obtain ⟨hnb40, hnc40⟩ := nB NB170_169; obtain ⟨hcz41_0, hcz41_1, hcz41_2, hfz41_0, hfz41_1, hfz41_2⟩ := bK3 (w := w39) BK170))
  refine rC gb170 28 #[.int .i64 0, .int .i64 0, .bool true] (bU BK170) Tryz.underlying28 ?_
  exact ⟨rR, bZ HB⟩
def impl_SumPoints.l0 : Nat → List (S28) → Int → Int → Int → Int → Bool → Option (Int × Int × Bool)
 | 0, _, _, _, _, _, _ => none
 | k + 1, x7, x8, x9, x797000, x797001, x797002 => if x9 < x8 then (if 0 ≤ x9 then (if x9 < (x7.length : Int) then ((impl_PointAdd.f k x797000 x797001 x797002 ((rd_T28 x7 x9).f0) ((rd_T28 x7 x9).f1) ((rd_T28 x7 x9).f2)).bind fun bt799 => (impl_SumPoints.l0 k x7 x8 (wrap64 (x9 + 1)) bt799.1 bt799.2.1 bt799.2.2)) else (none)) else (none)) else (some (x797000, x797001, x797002))
def impl_SumPoints.f (k : Nat) (l0 : List (S28)) : Option (Int × Int × Bool) := impl_SumPoints.l0 k l0 (l0.length : Int) 0 0 0 true
theorem impl_SumPoints.calls (k : Nat) (A0 : Option Addr) (c0 : Nat) (l0 : List (S28)) (r1 : Int) (r2 : Int) (r3 : Bool) (w : World) (hr0 : Kd.C k28 w A0 l0.length l0) (hc0 : l0.length ≤ c0) (h : impl_SumPoints.f k l0 = some (r1, r2, r3)) :
  Calls Tryz.prog 53 #[.slice A0 l0.length c0] w fun e w' => e = .returned (.agg #[.int .i64 r1, .int .i64 r2, .bool r3]) ∧ Below w.heap.size w w' := by
 have hu28 := Tryz.underlying28
 have HR0 := Aside0.mk hr0
 have HC0 := Aside0.mk hc0
 clear hr0 hc0
 have HB := Aside0.mk (Below.refl w.heap.size w)
 have H : (impl_SumPoints.l0 k l0 (l0.length : Int) 0 0 0 true) = some (r1, r2, r3) := h
 clear h
 have H' := Aside0.mk H
 clear H
 go_enter Tryz.func53, Tryz.ntmps53
 go_wp2_with (first | (refine gB 2 #[.int .i64 0, .int .i64 0, .bool false] 28 ?_; intro gb795 hg w2 BK795 hb; have GW795 := bG HB hg; replace HB := bS HB hb; clear hb hg) | (refine gB 3 #[.int .i64 0, .int .i64 0, .bool false] 28 ?_; intro gb796 hg w3 BK796 hb; have GW796 := bG HB hg; replace HB := bS HB hb; obtain ⟨NB795_796, NB796_795⟩ := bN BK795 hg; replace BK795 := bB BK795 hb; clear hb hg; obtain ⟨hnb4, hnc4⟩ := nB NB796_795; obtain ⟨hcz5_0, hcz5_1, hcz5_2, hfz5_0, hfz5_1, hfz5_2⟩ := bK3 (w := w3) BK796))
 go_loopg [9] k (fun kq v9 w' => ∃ (x9_1 : Int) (x797000_1 : Int) (x797001_1 : Int) (x797002_1 : Bool), v9 = .int .i64 x9_1 ∧ Aside0 (impl_SumPoints.l0 kq l0 (l0.length : Int) x9_1 x797000_1 x797001_1 x797002_1 = some (r1, r2, r3)) ∧ Aside0 (kq ≤ k) ∧ Aside0 (w'.heap[gb795]? = some (.cells #[.int .i64 0, .int .i64 0, .bool false] 28 (0, 0))) ∧ Aside0 (w'.heap[gb796]? = some (.cells #[.int .i64 x797000_1, .int .i64 x797001_1, .bool x797002_1] 28 (0, 0))) ∧ Aside0 (Below w.heap.size w w'))
 case atStart => exact ⟨(0), (0), (0), (true), rS, H', ⟨Nat.le_refl _⟩, ⟨bP BK795⟩, ⟨bU BK796⟩, ⟨bZ HB⟩⟩
 case round =>
  clear H'
  try clear p2
  try clear c4
  try clear c5
  try clear hcz5_0
  try clear hcz5_1
  try clear hcz5_2
  try clear hfz5_0
  try clear hfz5_1
  try clear hfz5_2
  obtain ⟨x9_1, x797000_1, x797001_1, x797002_1, rfl, HA, HK1, BK795, BK796, HB⟩ := hrel
  cases gk with
  | zero => exact absurd HA.out (by simp [impl_SumPoints.l0])
  | succ k1 =>
   have H := HA.out
   clear HA
   simp only [impl_SumPoints.l0] at H
   by_cases c6 : x9_1 < (l0.length : Int)
   ·rw [if_pos c6] at H
    have c6b0 := decide_eq_true c6
    clear c6
    by_cases c7 : 0 ≤ x9_1
    ·rw [if_pos c7] at H
     have c7b0 := decide_eq_true c7
     clear c7
     by_cases c8 : x9_1 < (l0.length : Int)
     ·rw [if_pos c8] at H
      have c8b0 := decide_eq_true c8
      clear c8
      obtain ⟨⟨t799, t800, t801⟩, A9, H⟩ := oB H
      have H' := Aside0.mk H
      clear H
      have p797 : 0 ≤ (x9_1 : Int) := aQ
      have q797 : x9_1 < (l0.length : Int) := aQ
      obtain ⟨ad797, e797, hx797_0, hx797_1, hx797_2⟩ := at_T28 HR0.out x9_1 p797 q797
      cases e797
      replace hx797_0 := (hC HB hx797_0 :)
      replace hx797_1 := (hC HB hx797_1 :)
      replace hx797_2 := (hC HB hx797_2 :)
      replace p797 := eq_true p797
      replace q797 := eq_true q797
      go_wp2_with (first | (refine gB 5 #[.int .i64 0, .int .i64 0, .bool false] 28 ?_; intro gb798 hg w10 BK798 hb; have GW798 := bG HB hg; replace HB := bS HB hb; obtain ⟨NB795_798, NB798_795⟩ := bN BK795 hg; replace BK795 := bB BK795 hb; obtain ⟨NB796_798, NB798_796⟩ := bN BK796 hg; replace BK796 := bB BK796 hb; clear hb hg; obtain ⟨hnb11, hnc11⟩ := nB NB798_795; obtain ⟨hnb12, hnc12⟩ := nB NB798_796; obtain ⟨hcz13_0, hcz13_1, hcz13_2, hfz13_0, hfz13_1, hfz13_2⟩ := bK3 (w := w10) BK798; obtain ⟨hnb14, hnc14⟩ := nB NB796_795; obtain ⟨hcz15_0, hcz15_1, hcz15_2, hfz15_0, hfz15_1, hfz15_2⟩ := bK3 (w := w10) BK796) | (refine gC (some 15) Tryz.func9 #[.agg #[.int .i64 x797000_1, .int .i64 x797001_1, .bool x797002_1], .agg #[.int .i64 ((rd_T28 l0 x9_1).f0), .int .i64 ((rd_T28 l0 x9_1).f1), .bool ((rd_T28 l0 x9_1).f2)]] ?_; (with_reducible refine (impl_PointAdd.calls k1 x797000_1 x797001_1 x797002_1 ((rd_T28 l0 x9_1).f0) ((rd_T28 l0 x9_1).f1) ((rd_T28 l0 x9_1).f2) t799 t800 t801 _ A9.out).mono ?_); rintro e w16 ⟨rfl, hb⟩; refine ⟨_, rfl, ?_⟩; replace BK795 := bB BK795 hb; replace BK796 := bB BK796 hb; replace BK798 := bV 28 #[.int .i64 ((rd_T28 l0 x9_1).f0), .int .i64 ((rd_T28 l0 x9_1).f1), .bool ((rd_T28 l0 x9_1).f2)] BK798 hb; replace HB := bS HB hb; (try clear hb); obtain ⟨hcz17_0, hcz17_1, hcz17_2, hfz17_0, hfz17_1, hfz17_2⟩ := bK3 (w := w16) BK796))
      go_roundg k1
      case measure => have := HK1.out; omega
      case rel => exact ⟨(wrap64 (x9_1 + 1)), (t799), (t800), (t801), rS, H', ⟨by have := HK1.out; omega⟩, ⟨bP BK795⟩, ⟨bU BK796⟩, ⟨bZ HB⟩⟩
     ·rw [if_neg c8] at H
      exact absurd H (by simp)
    ·rw [if_neg c7] at H
     exact absurd H (by simp)
   ·rw [if_neg c6] at H
    have c6b0 := decide_eq_false c6
    clear c6
    simp only [Option.some.injEq, Prod.mk.injEq] at H
    obtain ⟨rfl, rfl, rfl⟩ := H
    obtain ⟨hnb18, hnc18⟩ := nB NB796_795
    obtain ⟨hcz19_0, hcz19_1, hcz19_2, hfz19_0, hfz19_1, hfz19_2⟩ := bK3 (w := wr) BK796
    obtain ⟨hcz20_0, hcz20_1, hcz20_2, hfz20_0, hfz20_1, hfz20_2⟩ := bK3 (w := wr) BK795
    go_wp2
    refine rC gb795 28 #[.int .i64 x797000_1, .int .i64 x797001_1, .bool x797002_1] (bU BK795) Tryz.underlying28 ?_
    exact ⟨rR, bZ HB⟩
def impl_PointText.f (a0_0 : Int) (a0_1 : Int) (a0_2 : Bool) : Option (ByteArray) := (impl_PointOk.f a0_0 a0_1 a0_2).bind fun t927 => (if t927 = true then (if a0_2 = true then (some (⟨#[0, 0, 0]⟩ : ByteArray)) else (some (strOfNums (([((wrap64 (a0_0 + 1)) / 256) % 256, (wrap64 (a0_0 + 1)) % 256, (Int.tmod a0_1 2) % 256] : List Int))))) else (some (⟨#[]⟩ : ByteArray)))
theorem impl_PointText.calls (a0_0 : Int) (a0_1 : Int) (a0_2 : Bool) (r : ByteArray) (w : World) (h : impl_PointText.f a0_0 a0_1 a0_2 = some r) :
  Calls Tryz.prog 71 #[.agg #[.int .i64 a0_0, .int .i64 a0_1, .bool a0_2]] w fun e w' => e = .returned (.string r) ∧ Below w.heap.size w w' := by
 have hu28 := Tryz.underlying28
 have HB := Aside0.mk (Below.refl w.heap.size w)
 unfold impl_PointText.f at h
 have H := h
 clear h
 obtain ⟨t927, A2, H⟩ := oB H
 by_cases c3 : t927 = true
 ·subst c3
  rw [if_pos rfl] at H
  by_cases c4 : a0_2 = true
  ·subst c4
   rw [if_pos rfl] at H
   obtain rfl := Option.some.inj H
   go_enter Tryz.func71, Tryz.ntmps71
   go_wp2_with (first | (refine gB 1 #[.int .i64 a0_0, .int .i64 a0_1, .bool true] 28 ?_; intro gb926 hg w5 BK926 hb; have GW926 := bG HB hg; replace HB := bS HB hb; clear hb hg; obtain ⟨hcz6_0, hcz6_1, hcz6_2, hfz6_0, hfz6_1, hfz6_2⟩ := bK3 (w := w5) BK926) | (refine gC (some 5) Tryz.func47 #[.agg #[.int .i64 a0_0, .int .i64 a0_1, .bool true]] ?_; (with_reducible refine (impl_PointOk.calls a0_0 a0_1 true true _ A2.out).mono ?_); rintro e w7 ⟨rfl, hb⟩; refine ⟨_, rfl, ?_⟩; replace BK926 := bB BK926 hb; replace HB := bS HB hb; (try clear hb); obtain ⟨hcz8_0, hcz8_1, hcz8_2, hfz8_0, hfz8_1, hfz8_2⟩ := bK3 (w := w7) BK926))
   go_ret
   exact ⟨rR, bZ HB⟩
  ·replace c4 := Bool.eq_false_iff.mpr c4
   subst c4
   rw [if_neg (show ¬ (false = true) by decide)] at H
   obtain ⟨y928, hy928⟩ : ∃ y_ : List Int, y_ = (([((wrap64 (a0_0 + 1)) / 256) % 256, (wrap64 (a0_0 + 1)) % 256, (Int.tmod a0_1 2) % 256] : List Int)) := ⟨_, rfl⟩
   replace H : (some (strOfNums y928)) = some r := yR hy928 H
   have Ny928 := Aside0.mk hy928
   clear hy928
   obtain rfl := Option.some.inj H
   go_enter Tryz.func71, Tryz.ntmps71
   go_wp2_with (first | (refine gB 1 #[.int .i64 a0_0, .int .i64 a0_1, .bool false] 28 ?_; intro gb926 hg w9 BK926 hb; have GW926 := bG HB hg; replace HB := bS HB hb; clear hb hg; obtain ⟨hcz10_0, hcz10_1, hcz10_2, hfz10_0, hfz10_1, hfz10_2⟩ := bK3 (w := w9) BK926) | (refine gC (some 5) Tryz.func47 #[.agg #[.int .i64 a0_0, .int .i64 a0_1, .bool false]] ?_; (with_reducible refine (impl_PointOk.calls a0_0 a0_1 false true _ A2.out).mono ?_); rintro e w11 ⟨rfl, hb⟩; refine ⟨_, rfl, ?_⟩; replace BK926 := bB BK926 hb; replace HB := bS HB hb; (try clear hb); obtain ⟨hcz12_0, hcz12_1, hcz12_2, hfz12_0, hfz12_1, hfz12_2⟩ := bK3 (w := w11) BK926) | ((with_reducible refine gate_dst (N := 21) rfl ?_); refine Kd.R_lit (Kd.int .u8) _ 5 ?hg (N := 21) ?hd (xs := ([((wrap64 (a0_0 + 1)) / 256) % 256, (wrap64 (a0_0 + 1)) % 256, (Int.tmod a0_1 2) % 256] : List Int)) (inner := [.int .u8 (((wrap64 (a0_0 + 1)) / 256) % 256), .int .u8 ((wrap64 (a0_0 + 1)) % 256), .int .u8 ((Int.tmod a0_1 2) % 256)]) (ok := fun _ => True) (okp := fun _ => True) ?hr ?hp (fun _ hk => hk) trivial (Below.refl _ _) (Nat.le_refl _) (by simp) ?_; (case hd => rfl); (case hg => rfl); (case hr => first | (go_simp; done) | (go_simp; rfl)); (case hp => exact (Reps.one (show Kd.M (Kd.int .u8) _ _ _ (((wrap64 (a0_0 + 1)) / 256) % 256) [.int .u8 (((wrap64 (a0_0 + 1)) / 256) % 256)] from rfl) (Reps.one (show Kd.M (Kd.int .u8) _ _ _ ((wrap64 (a0_0 + 1)) % 256) [.int .u8 ((wrap64 (a0_0 + 1)) % 256)] from rfl) (Reps.one (show Kd.M (Kd.int .u8) _ _ _ ((Int.tmod a0_1 2) % 256) [.int .u8 ((Int.tmod a0_1 2) % 256)] from rfl) (Reps.none _ _))))); intro v929 w13 ho14 hb hg_ hnew_; clear hg_ hnew_; (first | rw [← Ny928.out] at ho14 | (simp only [Int.reduceToNat] at ho14; rw [← Ny928.out] at ho14)); have HO930 := Aside0.mk (Kd.R_lower ho14 (below_size (bZ HB))); replace BK926 := bB BK926 hb; replace HB := bS HB hb; clear hb ho14; have hcv15 := own_string (P := Tryz.prog) Tryz.underlying22 Tryz.underlying5 Tryz.underlying9 (Kd.own_of_R HO930.out)))
   go_ret
   exact ⟨rR, bZ HB⟩
 ·replace c3 := Bool.eq_false_iff.mpr c3
  subst c3
  rw [if_neg (show ¬ (false = true) by decide)] at H
  obtain rfl := Option.some.inj H
  go_enter Tryz.func71, Tryz.ntmps71
  go_wp2_with (first | (refine gB 1 #[.int .i64 a0_0, .int .i64 a0_1, .bool a0_2] 28 ?_; intro gb926 hg w16 BK926 hb; have GW926 := bG HB hg; replace HB := bS HB hb; clear hb hg; obtain ⟨hcz17_0, hcz17_1, hcz17_2, hfz17_0, hfz17_1, hfz17_2⟩ := bK3 (w := w16) BK926) | (refine gC (some 5) Tryz.func47 #[.agg #[.int .i64 a0_0, .int .i64 a0_1, .bool a0_2]] ?_; (with_reducible refine (impl_PointOk.calls a0_0 a0_1 a0_2 false _ A2.out).mono ?_); rintro e w18 ⟨rfl, hb⟩; refine ⟨_, rfl, ?_⟩; replace BK926 := bB BK926 hb; replace HB := bS HB hb; (try clear hb)))
  go_ret
  exact ⟨rR, bZ HB⟩
def impl_keyTexts.l0 : Nat → List ByteArray → List (S28) → Int → Int → Option (List ByteArray)
 | 0, _, _, _, _ => none
 | k + 1, x3, x7, x8, x9 => if x9 < x8 then (if 0 ≤ x9 then (if x9 < (x7.length : Int) then ((impl_PointText.f ((rd_T28 x7 x9).f0) ((rd_T28 x7 x9).f1) ((rd_T28 x7 x9).f2)).bind fun t934 => (if x3.length < 8796093022208 then (impl_keyTexts.l0 k (x3 ++ [t934]) x7 x8 (wrap64 (x9 + 1))) else (none))) else (none)) else (none)) else (some x3)
def impl_keyTexts.f (k : Nat) (l0_0 : List (S28)) : Option (List ByteArray) := impl_keyTexts.l0 k ([] : List ByteArray) l0_0 (l0_0.length : Int) 0
theorem impl_keyTexts.calls (k : Nat) (A0_0 : Option Addr) (c0_0 : Nat) (l0_0 : List (S28)) (r : List ByteArray) (w : World) (hr0_0 : Kd.C k28 w A0_0 l0_0.length l0_0) (hc0_0 : l0_0.length ≤ c0_0) (h : impl_keyTexts.f k l0_0 = some r) :
  Calls Tryz.prog 70 #[.agg #[.slice A0_0 l0_0.length c0_0]] w fun e w' => ∃ v0_ : Value, e = .returned (v0_) ∧ Kd.R Kd.string 9 w' w.heap.size (fun _ => True) v0_ r ∧ Below w.heap.size w w' := by
 have hu46 := Tryz.underlying46
 have hu28 := Tryz.underlying28
 have HR0_0 := Aside0.mk hr0_0
 have HC0_0 := Aside0.mk hc0_0
 clear hr0_0 hc0_0
 have HB := Aside0.mk (Below.refl w.heap.size w)
 unfold impl_keyTexts.f at h
 have H := h
 clear h
 have H' := Aside0.mk H
 clear H
 go_enter Tryz.func70, Tryz.ntmps70
 go_wp2_with (first | (refine gB 1 #[.slice A0_0 l0_0.length c0_0] 46 ?_; intro gb931 hg w2 BK931 hb; have GW931 := bG HB hg; replace HB := bS HB hb; clear hb hg; obtain ⟨hcz3_0, hfz3_0⟩ := bK1 (w := w2) BK931))
 go_loopg [3, 9] k (fun kq v3 v9 w' => ∃ (x3_1 : List ByteArray) (x9_1 : Int), v9 = .int .i64 x9_1 ∧ Aside0 (impl_keyTexts.l0 kq x3_1 l0_0 (l0_0.length : Int) x9_1 = some r) ∧ Aside0 (kq ≤ k) ∧ Aside0 (Kd.R Kd.string 9 w' w.heap.size (fun _ => True) v3 x3_1) ∧ Aside0 (w'.heap[gb931]? = some (.cells #[(.slice A0_0 l0_0.length c0_0)] 46 (0, 0))) ∧ Aside0 (Below w.heap.size w w'))
 case atStart => exact ⟨(([] : List ByteArray)), (0), rS, H', ⟨Nat.le_refl _⟩, ⟨by first | exact Kd.R_nil _ _ _ _ _ | exact Kd.N_nil _ _ _ _ _ | exact Kd.V_nil _ _ _ _ _ | exact Kd.Q_nil _ _ _ _ _ | exact Kd.S_nil _ _ _ _ _⟩, ⟨bP BK931⟩, ⟨bZ HB⟩⟩
 case round =>
  clear H'
  try clear p2
  try clear hcz3_0
  try clear hfz3_0
  obtain ⟨x3_1, x9_1, rfl, HA, HK1, HO_3, BK931, HB⟩ := hrel
  cases gk with
  | zero => exact absurd HA.out (by simp [impl_keyTexts.l0])
  | succ k1 =>
   have H := HA.out
   clear HA
   simp only [impl_keyTexts.l0] at H
   by_cases c4 : x9_1 < (l0_0.length : Int)
   ·rw [if_pos c4] at H
    have c4b0 := decide_eq_true c4
    clear c4
    by_cases c5 : 0 ≤ x9_1
    ·rw [if_pos c5] at H
     have c5b0 := decide_eq_true c5
     clear c5
     by_cases c6 : x9_1 < (l0_0.length : Int)
     ·rw [if_pos c6] at H
      have c6b0 := decide_eq_true c6
      clear c6
      obtain ⟨t934, A7, H⟩ := oB H
      by_cases c8 : x3_1.length < 8796093022208
      ·rw [if_pos c8] at H
       have LMc8 := Aside0.mk c8
       clear c8
       obtain ⟨y935, hy935⟩ : ∃ y_ : List ByteArray, y_ = (x3_1 ++ [t934]) := ⟨_, rfl⟩
       replace H : (impl_keyTexts.l0 k1 y935 l0_0 (l0_0.length : Int) (wrap64 (x9_1 + 1))) = some r := yR hy935 H
       have Ny935 := Aside0.mk hy935
       clear hy935
       have H' := Aside0.mk H
       clear H
       have p932 : 0 ≤ (x9_1 : Int) := aQ
       have q932 : x9_1 < (l0_0.length : Int) := aQ
       obtain ⟨ad932, e932, hx932_0, hx932_1, hx932_2⟩ := at_T28 HR0_0.out x9_1 p932 q932
       cases e932
       replace hx932_0 := (hC HB hx932_0 :)
       replace hx932_1 := (hC HB hx932_1 :)
       replace hx932_2 := (hC HB hx932_2 :)
       replace p932 := eq_true p932
       replace q932 := eq_true q932
       go_wp2_with (first | ((with_reducible refine gate_dst (N := 5) rfl ?_); refine bE 5 #[.int .i64 0, .int .i64 0, .bool false] 28 ?_; intro gb933 hg w9 hbox hb; replace HO_3 := Aside0.mk (Kd.R_below (rP HO_3) hb); have BK933 := Aside0.mk (hbox); have GW933 := bG HB hg; replace HB := bS HB hb; obtain ⟨NB931_933, NB933_931⟩ := bN BK931 hg; replace BK931 := bB BK931 hb; clear hb hbox hg; obtain ⟨hnb10, hnc10⟩ := nB NB933_931; obtain ⟨hcz11_0, hcz11_1, hcz11_2, hfz11_0, hfz11_1, hfz11_2⟩ := bK3 (w := w9) BK933) | (refine gC (some 15) Tryz.func71 #[.agg #[.int .i64 ((rd_T28 l0_0 x9_1).f0), .int .i64 ((rd_T28 l0_0 x9_1).f1), .bool ((rd_T28 l0_0 x9_1).f2)]] ?_; (with_reducible refine (impl_PointText.calls ((rd_T28 l0_0 x9_1).f0) ((rd_T28 l0_0 x9_1).f1) ((rd_T28 l0_0 x9_1).f2) t934 _ A7.out).mono ?_); rintro e w12 ⟨rfl, hb⟩; refine ⟨_, rfl, ?_⟩; replace HO_3 := Aside0.mk (Kd.R_below (by (with_reducible repeat (first | apply Kd.R_alloc | apply Kd.R_drewN | apply Kd.R_drew)); exact (Kd.R_mono (Kd.R_far (p := ⟨gb933, 2, none⟩) (Kd.R_far (p := ⟨gb933, 1, none⟩) (Kd.R_far (p := ⟨gb933, 0, none⟩) (Kd.R_types HO_3.out BK933.out (by decide)) (fun _ hk => hk.2) (.int .i64 ((rd_T28 l0_0 x9_1).f0))) (fun _ hk => hk.2) (.int .i64 ((rd_T28 l0_0 x9_1).f1))) (fun _ hk => hk.2) (.bool ((rd_T28 l0_0 x9_1).f2))) (fun _ h_ => h_.1))) hb); replace BK931 := bB BK931 hb; replace BK933 := bV 28 #[.int .i64 ((rd_T28 l0_0 x9_1).f0), .int .i64 ((rd_T28 l0_0 x9_1).f1), .bool ((rd_T28 l0_0 x9_1).f2)] BK933 hb; replace HB := bS HB hb; (try clear hb)) | ((with_reducible refine gate_builtin (b := .append) (xs := #[.tmp 13, .tmp 16]) rfl ?_); at_builtin; refine Kd.R_append Kd.string (w0 := w) w.heap.size rfl (.tmp 13) (.tmp 16) 78 9 (.string ⟨#[]⟩) 16 rfl Tryz.underlying78 info9 rfl (by decide) (by omega) u3 x3_1 t934 [.string t934] (fun _ => True) (fun _ => False) rfl rfl ?aP (fun _ hk => hk.elim) ?aF ?aO ?aB ?aS ?aL ?_; (case aP => exact rfl); (case aB => exact (bZ HB)); (case aF => exact (fun _ _ => trivial)); (case aO => exact (rP HO_3)); (case aS => exact (below_size (bZ HB))); (case aL => have := LMc8.out; omega); intro v936 w13 ho hb hg hat; rw [← Ny935.out] at ho; replace BK931 := Aside0.mk (blk_grown (bP BK931) hg (Kd.R_ne HO_3.out BK931.out (by decide))); replace BK933 := Aside0.mk (blk_grown (bP BK933) hg (Kd.R_ne HO_3.out BK933.out (by decide))); replace HB := Aside0.mk (hb); have HO937 := Aside0.mk (ho); clear HO_3; clear ho hb hg hat))
       go_roundg k1
       case measure => have := HK1.out; omega
       case rel => exact ⟨(y935), (wrap64 (x9_1 + 1)), rS, H', ⟨by have := HK1.out; omega⟩, ⟨rP HO937⟩, ⟨bP BK931⟩, ⟨bZ HB⟩⟩
      ·rw [if_neg c8] at H
       exact absurd H (by simp)
     ·rw [if_neg c6] at H
      exact absurd H (by simp)
    ·rw [if_neg c5] at H
     exact absurd H (by simp)
   ·rw [if_neg c4] at H
    have c4b0 := decide_eq_false c4
    clear c4
    obtain rfl := Option.some.inj H
    go_wp2
    go_ret
    exact ⟨_, by first | rfl | (simp [errW_none, errW_some] <;> rfl) | (simp [*, errW_none, errW_some] <;> rfl), by (with_reducible repeat (first | apply Kd.R_alloc | apply Kd.R_drewN | apply Kd.R_drew)); exact HO_3.out, bZ HB⟩
def impl_CommitteeText.l0 : Nat → ByteArray → List ByteArray → Int → Int → List (S28) → Option (ByteArray × Bool)
 | 0, _, _, _, _, _ => none
 | k + 1, x4, x11, x12, x13, x939000 => if x13 < x12 then (if 0 ≤ x13 then (if x13 < (x11.length : Int) then (if x4.size + (rdOf ByteArray.empty x11 x13).size ≤ 9223372036854775807 then (impl_CommitteeText.l0 k (x4 ++ (rdOf ByteArray.empty x11 x13)) x11 x12 (wrap64 (x13 + 1)) x939000) else (none)) else (none)) else (none)) else ((impl_SumPoints.f k x939000).bind fun bt944 => ((impl_PointText.f bt944.1 bt944.2.1 bt944.2.2).bind fun t947 => (if x4.size + t947.size ≤ 9223372036854775807 then (some (x4 ++ t947, true)) else (none))))
def impl_CommitteeText.f (k : Nat) (l0_0 : List (S28)) : Option (ByteArray × Bool) := (impl_CommitteeOk.f k l0_0).bind fun t939 => (if t939 = true then ((impl_keyTexts.f k l0_0).bind fun t940 => (impl_CommitteeText.l0 k (⟨#[]⟩ : ByteArray) t940 (t940.length : Int) 0 l0_0)) else (some ((⟨#[]⟩ : ByteArray), false)))
theorem impl_CommitteeText.calls (k : Nat) (A0_0 : Option Addr) (c0_0 : Nat) (l0_0 : List (S28)) (r1 : ByteArray) (r2 : Bool) (w : World) (hr0_0 : Kd.C k28 w A0_0 l0_0.length l0_0) (hc0_0 : l0_0.length ≤ c0_0) (h : impl_CommitteeText.f k l0_0 = some (r1, r2)) :
  Calls Tryz.prog 25 #[.agg #[.slice A0_0 l0_0.length c0_0]] w fun e w' => e = .returned (.tuple #[.string r1, .bool r2]) ∧ Below w.heap.size w w' := by
 have hu46 := Tryz.underlying46
 have HR0_0 := Aside0.mk hr0_0
 have HC0_0 := Aside0.mk hc0_0
 clear hr0_0 hc0_0
 have HB := Aside0.mk (Below.refl w.heap.size w)
 unfold impl_CommitteeText.f at h
 have H := h
 clear h
 obtain ⟨t939, A2, H⟩ := oB H
 by_cases c3 : t939 = true
 ·subst c3
  rw [if_pos rfl] at H
  obtain ⟨t940, A4, H⟩ := oB H
  have H' := Aside0.mk H
  clear H
  go_enter Tryz.func25, Tryz.ntmps25
  go_wp2_with (first | (refine gB 1 #[.slice A0_0 l0_0.length c0_0] 46 ?_; intro gb938 hg w5 BK938 hb; have GW938 := bG HB hg; replace HB := bS HB hb; clear hb hg; obtain ⟨hcz6_0, hfz6_0⟩ := bK1 (w := w5) BK938) | (refine gC (some 8) Tryz.func39 #[.agg #[.slice A0_0 l0_0.length c0_0]] ?_; (with_reducible refine (impl_CommitteeOk.calls k _ _ l0_0 true _ ?side1 ?side2 A2.out).mono ?_); (case side1 => exact cP (Kd.C_below HR0_0.out HB.out)); (case side2 => exact HC0_0.out); rintro e w7 ⟨rfl, hb⟩; refine ⟨_, rfl, ?_⟩; replace BK938 := bB BK938 hb; replace HB := bS HB hb; (try clear hb); obtain ⟨hcz8_0, hfz8_0⟩ := bK1 (w := w7) BK938) | (refine gC (some 11) Tryz.func70 #[.agg #[.slice A0_0 l0_0.length c0_0]] ?_; (with_reducible refine (impl_keyTexts.calls k _ _ l0_0 t940 _ ?side1 ?side2 A4.out).mono ?_); (case side1 => exact cP (Kd.C_below HR0_0.out HB.out)); (case side2 => exact HC0_0.out); rintro e w9 ⟨v941, rfl, ho0, hb⟩; refine ⟨_, rfl, ?_⟩; have HO942 := Aside0.mk (Kd.R_lower ho0 (below_size (bZ HB))); replace BK938 := bB BK938 hb; replace HB := bS HB hb; (try clear hb); (try clear ho0); obtain ⟨Ao10, co10, eo10⟩ := Kd.R_slice HO942.out; subst eo10))
  go_loopg [4, 13] k (fun kq v4 v13 w' => ∃ (x4_1 : ByteArray) (x13_1 : Int), v4 = .string x4_1 ∧ v13 = .int .i64 x13_1 ∧ Aside0 (impl_CommitteeText.l0 kq x4_1 t940 (t940.length : Int) x13_1 l0_0 = some (r1, r2)) ∧ Aside0 (kq ≤ k) ∧ Aside0 (Kd.R Kd.string 9 w' w.heap.size (fun _ => True) (.slice Ao10 t940.length co10) t940) ∧ Aside0 (w'.heap[gb938]? = some (.cells #[(.slice A0_0 l0_0.length c0_0)] 46 (0, 0))) ∧ Aside0 (Below w.heap.size w w'))
  case atStart => exact ⟨((⟨#[]⟩ : ByteArray)), (0), rS, rS, H', ⟨Nat.le_refl _⟩, ⟨rP HO942⟩, ⟨bP BK938⟩, ⟨bZ HB⟩⟩
  case round =>
   clear H'
   try clear c2
   try clear p2
   try clear c3
   try clear c7
   try clear hcz6_0
   try clear hcz8_0
   try clear hfz6_0
   try clear hfz8_0
   obtain ⟨x4_1, x13_1, rfl, rfl, HA, HK1, HO_11, BK938, HB⟩ := hrel
   cases gk with
   | zero => exact absurd HA.out (by simp [impl_CommitteeText.l0])
   | succ k1 =>
    have H := HA.out
    clear HA
    simp only [impl_CommitteeText.l0] at H
    by_cases c11 : x13_1 < (t940.length : Int)
    ·rw [if_pos c11] at H
     have c11b0 := decide_eq_true c11
     clear c11
     by_cases c12 : 0 ≤ x13_1
     ·rw [if_pos c12] at H
      have c12b0 := decide_eq_true c12
      clear c12
      by_cases c13 : x13_1 < (t940.length : Int)
      ·rw [if_pos c13] at H
       have c13b0 := decide_eq_true c13
       clear c13
       by_cases c14 : x4_1.size + (rdOf ByteArray.empty t940 x13_1).size ≤ 9223372036854775807
       ·rw [if_pos c14] at H
        have c14b0 := eq_true c14
        have c14b1 := decide_eq_true c14
        try have c14b2 : (9223372036854775807 < x4_1.size + (rdOf ByteArray.empty t940 x13_1).size) = False := eq_false (Nat.not_lt.2 c14)
        try simp only [ByteArray.size_append] at c14b2
        have H' := Aside0.mk H
        clear H
        have p943 : 0 ≤ (x13_1 : Int) := aQ
        have q943 : x13_1 < (t940.length : Int) := aQ
        obtain ⟨ad943, e943, hx943_0⟩ := Kd.at_string (Kd.R_reads' HO_11.out).2.2 x13_1 p943 q943
        cases e943
        replace p943 := eq_true p943
        replace q943 := eq_true q943
        go_wp2
        go_roundg k1
        case measure => have := HK1.out; omega
        case rel => exact ⟨(x4_1 ++ (rdOf ByteArray.empty t940 x13_1)), (wrap64 (x13_1 + 1)), rS, rS, H', ⟨by have := HK1.out; omega⟩, ⟨rP HO_11⟩, ⟨bP BK938⟩, ⟨bZ HB⟩⟩
       ·rw [if_neg c14] at H
        exact absurd H (by simp)
      ·rw [if_neg c13] at H
       exact absurd H (by simp)
     ·rw [if_neg c12] at H
      exact absurd H (by simp)
    ·rw [if_neg c11] at H
     have c11b0 := decide_eq_false c11
     clear c11
     obtain ⟨⟨t944, t945, t946⟩, A15, H⟩ := oB H
     obtain ⟨t947, A16, H⟩ := oB H
     by_cases c17 : x4_1.size + t947.size ≤ 9223372036854775807
     ·rw [if_pos c17] at H
      have c17b0 := eq_true c17
      have c17b1 := decide_eq_true c17
      try have c17b2 : (9223372036854775807 < x4_1.size + t947.size) = False := eq_false (Nat.not_lt.2 c17)
      try simp only [ByteArray.size_append] at c17b2
      simp only [Option.some.injEq, Prod.mk.injEq] at H
      obtain ⟨rfl, rfl⟩ := H
      obtain ⟨hcz18_0, hfz18_0⟩ := bK1 (w := wr) BK938
      go_wp2_with (first | (refine gC (some 24) Tryz.func53 #[.slice A0_0 l0_0.length c0_0] ?_; (with_reducible refine (impl_SumPoints.calls k1 _ _ l0_0 t944 t945 t946 _ ?side1 ?side2 A15.out).mono ?_); (case side1 => exact cP (Kd.C_below HR0_0.out HB.out)); (case side2 => exact HC0_0.out); rintro e w19 ⟨rfl, hb⟩; refine ⟨_, rfl, ?_⟩; replace HO_11 := Aside0.mk (Kd.R_below (rP HO_11) hb); replace BK938 := bB BK938 hb; replace HB := bS HB hb; (try clear hb)) | (refine gC (some 25) Tryz.func71 #[.agg #[.int .i64 t944, .int .i64 t945, .bool t946]] ?_; (with_reducible refine (impl_PointText.calls t944 t945 t946 t947 _ A16.out).mono ?_); rintro e w20 ⟨rfl, hb⟩; refine ⟨_, rfl, ?_⟩; replace HO_11 := Aside0.mk (Kd.R_below (rP HO_11) hb); replace BK938 := bB BK938 hb; replace HB := bS HB hb; (try clear hb)))
      go_ret2
      exact ⟨rR, bZ HB⟩
     ·rw [if_neg c17] at H
      exact absurd H (by simp)
 ·replace c3 := Bool.eq_false_iff.mpr c3
  subst c3
  rw [if_neg (show ¬ (false = true) by decide)] at H
  simp only [Option.some.injEq, Prod.mk.injEq] at H
  obtain ⟨rfl, rfl⟩ := H
  go_enter Tryz.func25, Tryz.ntmps25
  go_wp2_with (first | (refine gB 1 #[.slice A0_0 l0_0.length c0_0] 46 ?_; intro gb938 hg w21 BK938 hb; have GW938 := bG HB hg; replace HB := bS HB hb; clear hb hg; obtain ⟨hcz22_0, hfz22_0⟩ := bK1 (w := w21) BK938) | (refine gC (some 8) Tryz.func39 #[.agg #[.slice A0_0 l0_0.length c0_0]] ?_; (with_reducible refine (impl_CommitteeOk.calls k _ _ l0_0 false _ ?side1 ?side2 A2.out).mono ?_); (case side1 => exact cP (Kd.C_below HR0_0.out HB.out)); (case side2 => exact HC0_0.out); rintro e w23 ⟨rfl, hb⟩; refine ⟨_, rfl, ?_⟩; replace BK938 := bB BK938 hb; replace HB := bS HB hb; (try clear hb)))
  go_ret2
  exact ⟨rR, bZ HB⟩
def spec_PointAdd.j0 : Nat → Bool → Int → Int → Bool → Int → Int → Bool → Option (Int × Int × Bool)
 | 0, _, _, _, _, _, _, _ => none
 | k + 1, x12, x580000, x580001, x580002, x581000, x581001, x581002 => if x12 = true then ((spec_l07Zero.f).bind fun bt584 => (some (bt584.1, bt584.2.1, bt584.2.2))) else ((spec_l07Add.f k x580000 x580001 x580002 x581000 x581001 x581002).bind fun bt587 => (some (bt587.1, bt587.2.1, bt587.2.2)))
def spec_PointAdd.f (k : Nat) (a0_0 : Int) (a0_1 : Int) (a0_2 : Bool) (a1_0 : Int) (a1_1 : Int) (a1_2 : Bool) : Option (Int × Int × Bool) := (spec_PointOk.f a0_0 a0_1 a0_2).bind fun t582 => (if t582 = true then ((spec_PointOk.f a1_0 a1_1 a1_2).bind fun t583 => (spec_PointAdd.j0 k (!t583) a0_0 a0_1 a0_2 a1_0 a1_1 a1_2)) else (spec_PointAdd.j0 k true a0_0 a0_1 a0_2 a1_0 a1_1 a1_2))
theorem spec_PointAdd.calls (k : Nat) (a0_0 : Int) (a0_1 : Int) (a0_2 : Bool) (a1_0 : Int) (a1_1 : Int) (a1_2 : Bool) (r1 : Int) (r2 : Int) (r3 : Bool) (w : World) (h : spec_PointAdd.f k a0_0 a0_1 a0_2 a1_0 a1_1 a1_2 = some (r1, r2, r3)) :
  Calls Tryz.prog 92 #[.agg #[.int .i64 a0_0, .int .i64 a0_1, .bool a0_2], .agg #[.int .i64 a1_0, .int .i64 a1_1, .bool a1_2]] w fun e w' => e = .returned (.agg #[.int .i64 r1, .int .i64 r2, .bool r3]) ∧ Below w.heap.size w w' := by
 have hu28 := Tryz.underlying28
 have HB := Aside0.mk (Below.refl w.heap.size w)
 unfold spec_PointAdd.f at h
 have H := h
 clear h
 have HC3 := Aside0.mk H
 clear H
 go_enter Tryz.func92, Tryz.ntmps92
 go_upto_region 1 with (first | (refine gB 2 #[.int .i64 a0_0, .int .i64 a0_1, .bool a0_2] 28 ?_; intro gb579 hg w4 BK579 hb; have GW579 := bG HB hg; replace HB := bS HB hb; clear hb hg) | (refine gB 3 #[.int .i64 a1_0, .int .i64 a1_1, .bool a1_2] 28 ?_; intro gb580 hg w5 BK580 hb; have GW580 := bG HB hg; replace HB := bS HB hb; obtain ⟨NB579_580, NB580_579⟩ := bN BK579 hg; replace BK579 := bB BK579 hb; clear hb hg) | (refine gB 4 #[.int .i64 0, .int .i64 0, .bool false] 28 ?_; intro gb581 hg w6 BK581 hb; have GW581 := bG HB hg; replace HB := bS HB hb; obtain ⟨NB579_581, NB581_579⟩ := bN BK579 hg; replace BK579 := bB BK579 hb; obtain ⟨NB580_581, NB581_580⟩ := bN BK580 hg; replace BK580 := bB BK580 hb; clear hb hg))
 (try simp only [Act.put, List.setIfInBounds_toArray, List.set_cons_zero, List.set_cons_succ])
 go_cut [12] (fun v12 wc => ∃ (kq : Nat) (x12_2 : Bool), v12 = .bool x12_2 ∧ Aside0 (spec_PointAdd.j0 kq x12_2 a0_0 a0_1 a0_2 a1_0 a1_1 a1_2 = some (r1, r2, r3)) ∧ Aside0 (kq ≤ k) ∧ Aside0 (wc.heap[gb579]? = some (.cells #[.int .i64 a0_0, .int .i64 a0_1, .bool a0_2] 28 (0, 0))) ∧ Aside0 (wc.heap[gb580]? = some (.cells #[.int .i64 a1_0, .int .i64 a1_1, .bool a1_2] 28 (0, 0))) ∧ Aside0 (wc.heap[gb581]? = some (.cells #[.int .i64 0, .int .i64 0, .bool false] 28 (0, 0))) ∧ Aside0 (Below w.heap.size w wc))
 case first =>
  have H := HC3.out
  clear HC3
  obtain ⟨t582, A7, H⟩ := oB H
  by_cases c8 : t582 = true
  ·subst c8
   rw [if_pos rfl] at H
   obtain ⟨t583, A9, H⟩ := oB H
   have H' := Aside0.mk H
   clear H
   obtain ⟨hnb10, hnc10⟩ := nB NB579_580
   obtain ⟨hnb11, hnc11⟩ := nB NB579_581
   obtain ⟨hcz12_0, hcz12_1, hcz12_2, hfz12_0, hfz12_1, hfz12_2⟩ := bK3 (w := w6) BK579
   go_wp2_with (first | (refine gC (some 6) Tryz.func115 #[.agg #[.int .i64 a0_0, .int .i64 a0_1, .bool a0_2]] ?_; (with_reducible refine (spec_PointOk.calls a0_0 a0_1 a0_2 true _ A7.out).mono ?_); rintro e w13 ⟨rfl, hb⟩; refine ⟨_, rfl, ?_⟩; replace BK579 := bB BK579 hb; replace BK580 := bB BK580 hb; replace BK581 := bB BK581 hb; replace HB := bS HB hb; (try clear hb); obtain ⟨hnb14, hnc14⟩ := nB NB580_581; obtain ⟨hcz15_0, hcz15_1, hcz15_2, hfz15_0, hfz15_1, hfz15_2⟩ := bK3 (w := w13) BK580) | (go_at_call 115; (with_reducible refine (spec_PointOk.calls a1_0 a1_1 a1_2 t583 _ A9.out).mono ?_); rintro e w16 ⟨rfl, hb⟩; replace BK579 := bB BK579 hb; replace BK580 := bB BK580 hb; replace BK581 := bB BK581 hb; replace HB := bS HB hb; (try clear hb)))
   go_meet
   case rel => exact ⟨_, (!t583), rS, H', ⟨by first | omega | exact Nat.le_refl _⟩, ⟨bP BK579⟩, ⟨bP BK580⟩, ⟨bP BK581⟩, ⟨bZ HB⟩⟩
  ·replace c8 := Bool.eq_false_iff.mpr c8
   subst c8
   rw [if_neg (show ¬ (false = true) by decide)] at H
   have H' := Aside0.mk H
   clear H
   obtain ⟨hnb17, hnc17⟩ := nB NB579_580
   obtain ⟨hnb18, hnc18⟩ := nB NB579_581
   obtain ⟨hcz19_0, hcz19_1, hcz19_2, hfz19_0, hfz19_1, hfz19_2⟩ := bK3 (w := w6) BK579
   go_wp2_with (first | (refine gC (some 6) Tryz.func115 #[.agg #[.int .i64 a0_0, .int .i64 a0_1, .bool a0_2]] ?_; (with_reducible refine (spec_PointOk.calls a0_0 a0_1 a0_2 false _ A7.out).mono ?_); rintro e w20 ⟨rfl, hb⟩; refine ⟨_, rfl, ?_⟩; replace BK579 := bB BK579 hb; replace BK580 := bB BK580 hb; replace BK581 := bB BK581 hb; replace HB := bS HB hb; (try clear hb)))
   go_meet
   case rel => exact ⟨_, (true), rS, H', ⟨by first | omega | exact Nat.le_refl _⟩, ⟨bP BK579⟩, ⟨bP BK580⟩, ⟨bP BK581⟩, ⟨bZ HB⟩⟩
 case rest =>
  clear HC3
  try clear c1
  try clear p2
  try clear c8
  try clear c9
  try clear c10
  try clear c11
  try clear c14
  try clear c17
  try clear c18
  try clear hcz12_0
  try clear hcz12_1
  try clear hcz12_2
  try clear hcz15_0
  try clear hcz15_1
  try clear hcz15_2
  try clear hcz19_0
  try clear hcz19_1
  try clear hcz19_2
  try clear hfz12_0
  try clear hfz12_1
  try clear hfz12_2
  try clear hfz15_0
  try clear hfz15_1
  try clear hfz15_2
  try clear hfz19_0
  try clear hfz19_1
  try clear hfz19_2
  obtain ⟨kq, x12_2, rfl, HA, HJ2, BK579, BK580, BK581, HB⟩ := hcut
  cases kq with
  | zero => exact absurd HA.out (by simp [spec_PointAdd.j0])
  | succ kj2 =>
   have H := HA.out
   clear HA
   simp only [spec_PointAdd.j0] at H
   by_cases c21 : x12_2 = true
   ·subst c21
    rw [if_pos rfl] at H
    obtain ⟨⟨t584, t585, t586⟩, A22, H⟩ := oB H
    simp only [Option.some.injEq, Prod.mk.injEq] at H
    obtain ⟨rfl, rfl, rfl⟩ := H
    go_wp2_with (first | (refine gC (some 13) Tryz.func81 #[] ?_; (with_reducible refine (spec_l07Zero.calls  t584 t585 t586 _ A22.out).mono ?_); rintro e w23 ⟨rfl, hb⟩; refine ⟨_, rfl, ?_⟩; replace BK579 := bB BK579 hb; replace BK580 := bB BK580 hb; replace BK581 := bB BK581 hb; replace HB := bS HB hb; (try clear hb); obtain ⟨hnb24, hnc24⟩ := nB NB581_579; obtain ⟨hnb25, hnc25⟩ := nB NB581_580; obtain ⟨hcz26_0, hcz26_1, hcz26_2, hfz26_0, hfz26_1, hfz26_2⟩ := bK3 (w := w23) BK581))
    refine rC gb581 28 #[.int .i64 t584, .int .i64 t585, .bool t586] (bU BK581) Tryz.underlying28 ?_
    exact ⟨rR, bZ HB⟩
   ·replace c21 := Bool.eq_false_iff.mpr c21
    subst c21
    rw [if_neg (show ¬ (false = true) by decide)] at H
    obtain ⟨⟨t587, t588, t589⟩, A27, H⟩ := oB H
    simp only [Option.some.injEq, Prod.mk.injEq] at H
    obtain ⟨rfl, rfl, rfl⟩ := H
    obtain ⟨hnb28, hnc28⟩ := nB NB579_580
    obtain ⟨hnb29, hnc29⟩ := nB NB579_581
    obtain ⟨hcz30_0, hcz30_1, hcz30_2, hfz30_0, hfz30_1, hfz30_2⟩ := bK3 (w := wc) BK579
    obtain ⟨hnb31, hnc31⟩ := nB NB580_581
    obtain ⟨hcz32_0, hcz32_1, hcz32_2, hfz32_0, hfz32_1, hfz32_2⟩ := bK3 (w := wc) BK580
    go_wp2_with (first | (refine gC (some 16) Tryz.func117 #[.agg #[.int .i64 a0_0, .int .i64 a0_1, .bool a0_2], .agg #[.int .i64 a1_0, .int .i64 a1_1, .bool a1_2]] ?_; (with_reducible refine (spec_l07Add.calls kj2 a0_0 a0_1 a0_2 a1_0 a1_1 a1_2 t587 t588 t589 _ A27.out).mono ?_); rintro e w33 ⟨rfl, hb⟩; refine ⟨_, rfl, ?_⟩; replace BK579 := bB BK579 hb; replace BK580 := bB BK580 hb; replace BK581 := bB BK581 hb; replace HB := bS HB hb; (try clear hb); obtain ⟨hcz34_0, hcz34_1, hcz34_2, hfz34_0, hfz34_1, hfz34_2⟩ := bK3 (w := w33) BK581))
    refine rC gb581 28 #[.int .i64 t587, .int .i64 t588, .bool t589] (bU BK581) Tryz.underlying28 ?_
    exact ⟨rR, bZ HB⟩
def spec_SumPoints.l0 : Nat → List (S28) → Int → Int → Int → Bool → Option (Int × Int × Bool)
 | 0, _, _, _, _, _ => none
 | k + 1, x0, x4, x812000, x812001, x812002 => if x4 < (x0.length : Int) then (if 0 ≤ x4 then ((spec_PointAdd.f k x812000 x812001 x812002 ((rd_T28 x0 x4).f0) ((rd_T28 x0 x4).f1) ((rd_T28 x0 x4).f2)).bind fun bt813 => (spec_SumPoints.l0 k x0 (wrap64 (x4 + 1)) bt813.1 bt813.2.1 bt813.2.2)) else (none)) else (some (x812000, x812001, x812002))
def spec_SumPoints.f (k : Nat) (l0 : List (S28)) : Option (Int × Int × Bool) := (spec_l07Zero.f).bind fun bt808 => (spec_SumPoints.l0 k l0 0 bt808.1 bt808.2.1 bt808.2.2)
theorem spec_SumPoints.calls (k : Nat) (A0 : Option Addr) (c0 : Nat) (l0 : List (S28)) (r1 : Int) (r2 : Int) (r3 : Bool) (w : World) (hr0 : Kd.C k28 w A0 l0.length l0) (hc0 : l0.length ≤ c0) (h : spec_SumPoints.f k l0 = some (r1, r2, r3)) :
  Calls Tryz.prog 54 #[.slice A0 l0.length c0] w fun e w' => e = .returned (.agg #[.int .i64 r1, .int .i64 r2, .bool r3]) ∧ Below w.heap.size w w' := by
 have hu28 := Tryz.underlying28
 have HR0 := Aside0.mk hr0
 have HC0 := Aside0.mk hc0
 clear hr0 hc0
 have HB := Aside0.mk (Below.refl w.heap.size w)
 unfold spec_SumPoints.f at h
 have H := h
 clear h
 obtain ⟨⟨t808, t809, t810⟩, A2, H⟩ := oB H
 have H' := Aside0.mk H
 clear H
 go_enter Tryz.func54, Tryz.ntmps54
 go_wp2_with (first | (refine gB 2 #[.int .i64 0, .int .i64 0, .bool false] 28 ?_; intro gb807 hg w3 BK807 hb; have GW807 := bG HB hg; replace HB := bS HB hb; clear hb hg) | (refine gC (some 5) Tryz.func81 #[] ?_; (with_reducible refine (spec_l07Zero.calls  t808 t809 t810 _ A2.out).mono ?_); rintro e w4 ⟨rfl, hb⟩; refine ⟨_, rfl, ?_⟩; replace BK807 := bB BK807 hb; replace HB := bS HB hb; (try clear hb)) | (refine gB 3 #[.int .i64 0, .int .i64 0, .bool false] 28 ?_; intro gb811 hg w5 BK811 hb; have GW811 := bG HB hg; replace HB := bS HB hb; obtain ⟨NB807_811, NB811_807⟩ := bN BK807 hg; replace BK807 := bB BK807 hb; clear hb hg; obtain ⟨hnb6, hnc6⟩ := nB NB811_807; obtain ⟨hcz7_0, hcz7_1, hcz7_2, hfz7_0, hfz7_1, hfz7_2⟩ := bK3 (w := w5) BK811))
 go_loopg [4] k (fun kq v4 w' => ∃ (x4_1 : Int) (x812000_1 : Int) (x812001_1 : Int) (x812002_1 : Bool), v4 = .int .i64 x4_1 ∧ Aside0 (spec_SumPoints.l0 kq l0 x4_1 x812000_1 x812001_1 x812002_1 = some (r1, r2, r3)) ∧ Aside0 (kq ≤ k) ∧ Aside0 (w'.heap[gb807]? = some (.cells #[.int .i64 0, .int .i64 0, .bool false] 28 (0, 0))) ∧ Aside0 (w'.heap[gb811]? = some (.cells #[.int .i64 x812000_1, .int .i64 x812001_1, .bool x812002_1] 28 (0, 0))) ∧ Aside0 (Below w.heap.size w w'))
 case atStart => exact ⟨(0), (t808), (t809), (t810), rS, H', ⟨Nat.le_refl _⟩, ⟨bP BK807⟩, ⟨bU BK811⟩, ⟨bZ HB⟩⟩
 case round =>
  clear H'
  try clear p2
  try clear c5
  try clear c6
  try clear hcz7_0
  try clear hcz7_1
  try clear hcz7_2
  try clear hfz7_0
  try clear hfz7_1
  try clear hfz7_2
  obtain ⟨x4_1, x812000_1, x812001_1, x812002_1, rfl, HA, HK1, BK807, BK811, HB⟩ := hrel
  cases gk with
  | zero => exact absurd HA.out (by simp [spec_SumPoints.l0])
  | succ k1 =>
   have H := HA.out
   clear HA
   simp only [spec_SumPoints.l0] at H
   by_cases c8 : x4_1 < (l0.length : Int)
   ·rw [if_pos c8] at H
    have c8b0 := decide_eq_true c8
    clear c8
    by_cases c9 : 0 ≤ x4_1
    ·rw [if_pos c9] at H
     have c9b0 := decide_eq_true c9
     clear c9
     obtain ⟨⟨t813, t814, t815⟩, A10, H⟩ := oB H
     have H' := Aside0.mk H
     clear H
     try go_wp2
     replace BK807 := Aside0.mk (blk_drew BK807.out)
     replace BK811 := Aside0.mk (blk_drew BK811.out)
     replace HB := Aside0.mk (below_drew1 HB.out)
     have p812 : 0 ≤ (x4_1 : Int) := aQ
     have q812 : x4_1 < (l0.length : Int) := aQ
     obtain ⟨ad812, e812, hx812_0, hx812_1, hx812_2⟩ := at_T28 HR0.out x4_1 p812 q812
     have hw812_2 := hx812_2
     have hw812_1 := hx812_1
     have hw812_0 := hx812_0
     cases e812
     replace hx812_0 := (hC HB hx812_0 :)
     replace hx812_1 := (hC HB hx812_1 :)
     replace hx812_2 := (hC HB hx812_2 :)
     replace p812 := eq_true p812
     replace q812 := eq_true q812
     refine start_ (n := 7) (S := fun w' => w'.cell? ⟨gb811, 0, none⟩ = some (.int .i64 x812000_1) ∧ w'.cell? ⟨gb811, 1, none⟩ = some (.int .i64 x812001_1) ∧ w'.cell? ⟨gb811, 2, none⟩ = some (.bool x812002_1) ∧ w'.cell? (ad812.add ((x4_1).toNat * 3)) = some (.int .i64 ((rd_T28 l0 x4_1).f0)) ∧ w'.cell? ⟨(ad812.add ((x4_1).toNat * 3)).block, (ad812.add ((x4_1).toNat * 3)).off + 1, none⟩ = some (.int .i64 ((rd_T28 l0 x4_1).f1)) ∧ w'.cell? ⟨(ad812.add ((x4_1).toNat * 3)).block, (ad812.add ((x4_1).toNat * 3)).off + 2, none⟩ = some (.bool ((rd_T28 l0 x4_1).f2))) (ds := [6]) #[false, false, false, false, false, false, false] (by kernel_rfl) rfl rfl ⟨bc BK811 0, bc BK811 1, bc BK811 2, ((hC HB hw812_0 :)), ((hC HB hw812_1 :)), ((hC HB hw812_2 :))⟩ (fun hHeld => ?_)
     generalize wr.drew = w11 at BK807 BK811 HB hx812_0 hx812_1 hx812_2 hHeld ⊢
     refine pJ 1 (some 13) ?_
     refine pJ 2 (some 14) ?_
     refine pJ 3 (some 15) ?_
     refine tJ 0 (some 12) hHeld ?_
     refine tJ 4 (some 16) hHeld ?_
     refine one_ (i := 5) (N := some 17) #[true, true, true, true, true, true, false] rfl rfl (by kernel_rfl) (by decide) (fun K hK => ?_)
     refine gO Tryz.func92 #[.agg #[.int .i64 x812000_1, .int .i64 x812001_1, .bool x812002_1], .agg #[.int .i64 ((rd_T28 l0 x4_1).f0), .int .i64 ((rd_T28 l0 x4_1).f1), .bool ((rd_T28 l0 x4_1).f2)]] ?_
     with_reducible refine (spec_PointAdd.calls k1 x812000_1 x812001_1 x812002_1 ((rd_T28 l0 x4_1).f0) ((rd_T28 l0 x4_1).f1) ((rd_T28 l0 x4_1).f2) t813 t814 t815 _ A10.out).mono ?_
     rintro e w12 ⟨rfl, hb⟩
     refine ⟨_, rfl, ?_⟩
     replace BK807 := bB BK807 hb
     replace BK811 := bB BK811 hb
     replace HB := bS HB hb
     (try clear hb)
     refine hK.out _ _ ⟨bc BK811 0, bc BK811 1, bc BK811 2, ((hC HB hw812_0 :)), ((hC HB hw812_1 :)), ((hC HB hw812_2 :))⟩ (fun hHeld => ?_)
     clear hK K
     refine nO (some 17) ?_
     refine last_ (i := 6) (N := none) #[true, true, true, true, true, true, true] rfl rfl (by kernel_rfl) (by decide) (fun K hK => ?_)
     have hs13 : w12.cell? ⟨gb811, 0, none⟩ = some (.int .i64 x812000_1) := bc BK811 0
     have hfs13 := blk_frozen BK811.out 0
     obtain ⟨hns13_0, hms13_0⟩ := nB NB807_811
     have hs14 : w12.cell? ⟨gb811, 1, none⟩ = some (.int .i64 x812001_1) := bc BK811 1
     have hfs14 := blk_frozen BK811.out 1
     obtain ⟨hns14_0, hms14_0⟩ := nB NB807_811
     have hs15 : w12.cell? ⟨gb811, 2, none⟩ = some (.bool x812002_1) := bc BK811 2
     have hfs15 := blk_frozen BK811.out 2
     obtain ⟨hns15_0, hms15_0⟩ := nB NB807_811
     refine skip_ (w1 := ?_) (by rfl) rfl ?_ ?_
     rotate_left
     ·go_simp
      rfl
     refine hK.out _ _ ?_
     clear hK K
     refine done_ (by kernel_rfl) ?_
     try go_wp2
     go_roundg k1
     case measure => have := HK1.out; omega
     case rel => exact ⟨(wrap64 (x4_1 + 1)), (t813), (t814), (t815), rS, H', ⟨by have := HK1.out; omega⟩, ⟨bP BK807⟩, ⟨bU BK811⟩, ⟨bZ HB⟩⟩
    ·rw [if_neg c9] at H
     exact absurd H (by simp)
   ·rw [if_neg c8] at H
    have c8b0 := decide_eq_false c8
    clear c8
    simp only [Option.some.injEq, Prod.mk.injEq] at H
    obtain ⟨rfl, rfl, rfl⟩ := H
    obtain ⟨hnb16, hnc16⟩ := nB NB811_807
    obtain ⟨hcz17_0, hcz17_1, hcz17_2, hfz17_0, hfz17_1, hfz17_2⟩ := bK3 (w := wr) BK811
    obtain ⟨hcz18_0, hcz18_1, hcz18_2, hfz18_0, hfz18_1, hfz18_2⟩ := bK3 (w := wr) BK807
    go_wp2
    refine rC gb807 28 #[.int .i64 x812000_1, .int .i64 x812001_1, .bool x812002_1] (bU BK807) Tryz.underlying28 ?_
    exact ⟨rR, bZ HB⟩
def spec_InGroup.f (k : Nat) (a0_0 : Int) (a0_1 : Int) (a0_2 : Bool) : Option (Bool) := (spec_PointOk.f a0_0 a0_1 a0_2).bind fun t575 => (if t575 = true then ((spec_PointTimes.f k 1009 a0_0 a0_1 a0_2).bind fun bt576 => (some bt576.2.2)) else (some false))
theorem spec_InGroup.calls (k : Nat) (a0_0 : Int) (a0_1 : Int) (a0_2 : Bool) (r : Bool) (w : World) (h : spec_InGroup.f k a0_0 a0_1 a0_2 = some r) :
  Calls Tryz.prog 67 #[.agg #[.int .i64 a0_0, .int .i64 a0_1, .bool a0_2]] w fun e w' => e = .returned (.bool r) ∧ Below w.heap.size w w' := by
 have hu28 := Tryz.underlying28
 have hfd28_0 : ∀ (x0 : Int) (x1 : Int) (x2 : Bool) (w_ : World), (Instr.field 28 (.agg #[.int .i64 x0, .int .i64 x1, .bool x2]) 0).run Tryz.prog w_ = .ok (.int .i64 x0) w_ := fun _ _ _ _ => by kernel_rfl
 have hfd28_1 : ∀ (x0 : Int) (x1 : Int) (x2 : Bool) (w_ : World), (Instr.field 28 (.agg #[.int .i64 x0, .int .i64 x1, .bool x2]) 1).run Tryz.prog w_ = .ok (.int .i64 x1) w_ := fun _ _ _ _ => by kernel_rfl
 have hfd28_2 : ∀ (x0 : Int) (x1 : Int) (x2 : Bool) (w_ : World), (Instr.field 28 (.agg #[.int .i64 x0, .int .i64 x1, .bool x2]) 2).run Tryz.prog w_ = .ok (.bool x2) w_ := fun _ _ _ _ => by kernel_rfl
 have HB := Aside0.mk (Below.refl w.heap.size w)
 unfold spec_InGroup.f at h
 have H := h
 clear h
 obtain ⟨t575, A2, H⟩ := oB H
 by_cases c3 : t575 = true
 ·subst c3
  rw [if_pos rfl] at H
  obtain ⟨⟨t576, t577, t578⟩, A4, H⟩ := oB H
  obtain rfl := Option.some.inj H
  go_enter Tryz.func67, Tryz.ntmps67
  go_wp2_with (first | (refine gB 1 #[.int .i64 a0_0, .int .i64 a0_1, .bool a0_2] 28 ?_; intro gb574 hg w5 BK574 hb; have GW574 := bG HB hg; replace HB := bS HB hb; clear hb hg; obtain ⟨hcz6_0, hcz6_1, hcz6_2, hfz6_0, hfz6_1, hfz6_2⟩ := bK3 (w := w5) BK574) | (refine gC (some 4) Tryz.func115 #[.agg #[.int .i64 a0_0, .int .i64 a0_1, .bool a0_2]] ?_; (with_reducible refine (spec_PointOk.calls a0_0 a0_1 a0_2 true _ A2.out).mono ?_); rintro e w7 ⟨rfl, hb⟩; refine ⟨_, rfl, ?_⟩; replace BK574 := bB BK574 hb; replace HB := bS HB hb; (try clear hb); obtain ⟨hcz8_0, hcz8_1, hcz8_2, hfz8_0, hfz8_1, hfz8_2⟩ := bK3 (w := w7) BK574) | (go_at_call 65; (with_reducible refine (spec_PointTimes.calls k 1009 a0_0 a0_1 a0_2 t576 t577 t578 _ A4.out).mono ?_); rintro e w9 ⟨rfl, hb⟩; replace BK574 := bB BK574 hb; replace HB := bS HB hb; (try clear hb)))
  go_ret
  exact ⟨rR, bZ HB⟩
 ·replace c3 := Bool.eq_false_iff.mpr c3
  subst c3
  rw [if_neg (show ¬ (false = true) by decide)] at H
  obtain rfl := Option.some.inj H
  go_enter Tryz.func67, Tryz.ntmps67
  go_wp2_with (first | (refine gB 1 #[.int .i64 a0_0, .int .i64 a0_1, .bool a0_2] 28 ?_; intro gb574 hg w10 BK574 hb; have GW574 := bG HB hg; replace HB := bS HB hb; clear hb hg; obtain ⟨hcz11_0, hcz11_1, hcz11_2, hfz11_0, hfz11_1, hfz11_2⟩ := bK3 (w := w10) BK574) | (refine gC (some 4) Tryz.func115 #[.agg #[.int .i64 a0_0, .int .i64 a0_1, .bool a0_2]] ?_; (with_reducible refine (spec_PointOk.calls a0_0 a0_1 a0_2 false _ A2.out).mono ?_); rintro e w12 ⟨rfl, hb⟩; refine ⟨_, rfl, ?_⟩; replace BK574 := bB BK574 hb; replace HB := bS HB hb; (try clear hb)))
  go_ret
  exact ⟨rR, bZ HB⟩
def spec_CommitteeOk.l0 : Nat → Int → List (S28) → Option (Bool)
 | 0, _, _ => none
 | k + 1, x3, x949000 => if x3 < (x949000.length : Int) then (if 0 ≤ x3 then ((spec_InGroup.f k ((rd_T28 x949000 x3).f0) ((rd_T28 x949000 x3).f1) ((rd_T28 x949000 x3).f2)).bind fun t950 => (if t950 = true then (if (rd_T28 x949000 x3).f2 = true then (some false) else (spec_CommitteeOk.l0 k (wrap64 (x3 + 1)) x949000)) else (some false))) else (none)) else (some ((x949000.length : Int) == 8))
def spec_CommitteeOk.f (k : Nat) (l0_0 : List (S28)) : Option (Bool) := spec_CommitteeOk.l0 k 0 l0_0
theorem spec_CommitteeOk.calls (k : Nat) (A0_0 : Option Addr) (c0_0 : Nat) (l0_0 : List (S28)) (r : Bool) (w : World) (hr0_0 : Kd.C k28 w A0_0 l0_0.length l0_0) (hc0_0 : l0_0.length ≤ c0_0) (h : spec_CommitteeOk.f k l0_0 = some r) :
  Calls Tryz.prog 72 #[.agg #[.slice A0_0 l0_0.length c0_0]] w fun e w' => e = .returned (.bool r) ∧ Below w.heap.size w w' := by
 have hu46 := Tryz.underlying46
 have hu28 := Tryz.underlying28
 have HR0_0 := Aside0.mk hr0_0
 have HC0_0 := Aside0.mk hc0_0
 clear hr0_0 hc0_0
 have HB := Aside0.mk (Below.refl w.heap.size w)
 have H : (spec_CommitteeOk.l0 k 0 l0_0) = some r := h
 clear h
 have H' := Aside0.mk H
 clear H
 go_enter Tryz.func72, Tryz.ntmps72
 go_wp2_with (first | (refine gB 1 #[.slice A0_0 l0_0.length c0_0] 46 ?_; intro gb948 hg w2 BK948 hb; have GW948 := bG HB hg; replace HB := bS HB hb; clear hb hg))
 go_loopg [3] k (fun kq v3 w' => ∃ (x3_1 : Int), v3 = .int .i64 x3_1 ∧ Aside0 (spec_CommitteeOk.l0 kq x3_1 l0_0 = some r) ∧ Aside0 (kq ≤ k) ∧ Aside0 (w'.heap[gb948]? = some (.cells #[(.slice A0_0 l0_0.length c0_0)] 46 (0, 0))) ∧ Aside0 (Below w.heap.size w w'))
 case atStart => exact ⟨(0), rS, H', ⟨Nat.le_refl _⟩, ⟨bP BK948⟩, ⟨bZ HB⟩⟩
 case round =>
  clear H'
  try clear p2
  obtain ⟨x3_1, rfl, HA, HK1, BK948, HB⟩ := hrel
  cases gk with
  | zero => exact absurd HA.out (by simp [spec_CommitteeOk.l0])
  | succ k1 =>
   have H := HA.out
   clear HA
   simp only [spec_CommitteeOk.l0] at H
   by_cases c3 : x3_1 < (l0_0.length : Int)
   ·rw [if_pos c3] at H
    have c3b0 := decide_eq_true c3
    clear c3
    by_cases c4 : 0 ≤ x3_1
    ·rw [if_pos c4] at H
     have c4b0 := decide_eq_true c4
     clear c4
     obtain ⟨t950, A5, H⟩ := oB H
     by_cases c6 : t950 = true
     ·subst c6
      rw [if_pos rfl] at H
      obtain ⟨bq7, hbq7⟩ : ∃ b_ : Bool, b_ = ((rd_T28 l0_0 x3_1).f2) := ⟨_, rfl⟩
      replace H : (if bq7 = true then (some false) else (spec_CommitteeOk.l0 k1 (wrap64 (x3_1 + 1)) l0_0)) = some r := by rw [← hbq7] at H; exact H
      have Nbq7 := Aside0.mk hbq7
      clear hbq7
      (try rw [← Nbq7.out] at A5)
      by_cases c8 : bq7 = true
      ·subst c8
       rw [if_pos rfl] at H
       obtain rfl := Option.some.inj H
       obtain ⟨hcz9_0, hfz9_0⟩ := bK1 (w := wr) BK948
       have p949 : 0 ≤ (x3_1 : Int) := aQ
       have q949 : x3_1 < (l0_0.length : Int) := aQ
       obtain ⟨ad949, e949, hx949_0, hx949_1, hx949_2⟩ := at_T28 HR0_0.out x3_1 p949 q949
       (try rw [← Nbq7.out] at hx949_2)
       cases e949
       replace hx949_0 := (hC HB hx949_0 :)
       replace hx949_1 := (hC HB hx949_1 :)
       replace hx949_2 := (hC HB hx949_2 :)
       replace p949 := eq_true p949
       replace q949 := eq_true q949
       go_wp2_with (first | (refine gC (some 16) Tryz.func67 #[.agg #[.int .i64 ((rd_T28 l0_0 x3_1).f0), .int .i64 ((rd_T28 l0_0 x3_1).f1), .bool true]] ?_; (with_reducible refine (spec_InGroup.calls k1 ((rd_T28 l0_0 x3_1).f0) ((rd_T28 l0_0 x3_1).f1) true true _ A5.out).mono ?_); rintro e w10 ⟨rfl, hb⟩; refine ⟨_, rfl, ?_⟩; replace BK948 := bB BK948 hb; replace HB := bS HB hb; (try clear hb); obtain ⟨hcz11_0, hfz11_0⟩ := bK1 (w := w10) BK948; have p951 : 0 ≤ (x3_1 : Int) := aQ; have q951 : x3_1 < (l0_0.length : Int) := aQ; obtain ⟨ad951, e951, hx951_0, hx951_1, hx951_2⟩ := at_T28 HR0_0.out x3_1 p951 q951; (try rw [← Nbq7.out] at hx951_2); obtain rfl : ad949 = ad951 := (by injection e951); replace hx951_0 := (hC HB hx951_0 :); replace hx951_1 := (hC HB hx951_1 :); replace hx951_2 := (hC HB hx951_2 :); replace p951 := eq_true p951; replace q951 := eq_true q951))
       go_ret
       exact ⟨rR, bZ HB⟩
      ·replace c8 := Bool.eq_false_iff.mpr c8
       subst c8
       rw [if_neg (show ¬ (false = true) by decide)] at H
       have H' := Aside0.mk H
       clear H
       obtain ⟨hcz12_0, hfz12_0⟩ := bK1 (w := wr) BK948
       have p949 : 0 ≤ (x3_1 : Int) := aQ
       have q949 : x3_1 < (l0_0.length : Int) := aQ
       obtain ⟨ad949, e949, hx949_0, hx949_1, hx949_2⟩ := at_T28 HR0_0.out x3_1 p949 q949
       (try rw [← Nbq7.out] at hx949_2)
       cases e949
       replace hx949_0 := (hC HB hx949_0 :)
       replace hx949_1 := (hC HB hx949_1 :)
       replace hx949_2 := (hC HB hx949_2 :)
       replace p949 := eq_true p949
       replace q949 := eq_true q949
       go_wp2_with (first | (refine gC (some 16) Tryz.func67 #[.agg #[.int .i64 ((rd_T28 l0_0 x3_1).f0), .int .i64 ((rd_T28 l0_0 x3_1).f1), .bool false]] ?_; (with_reducible refine (spec_InGroup.calls k1 ((rd_T28 l0_0 x3_1).f0) ((rd_T28 l0_0 x3_1).f1) false true _ A5.out).mono ?_); rintro e w13 ⟨rfl, hb⟩; refine ⟨_, rfl, ?_⟩; replace BK948 := bB BK948 hb; replace HB := bS HB hb; (try clear hb); obtain ⟨hcz14_0, hfz14_0⟩ := bK1 (w := w13) BK948; have p951 : 0 ≤ (x3_1 : Int) := aQ; have q951 : x3_1 < (l0_0.length : Int) := aQ; obtain ⟨ad951, e951, hx951_0, hx951_1, hx951_2⟩ := at_T28 HR0_0.out x3_1 p951 q951; (try rw [← Nbq7.out] at hx951_2); obtain rfl : ad949 = ad951 := (by injection e951); replace hx951_0 := (hC HB hx951_0 :); replace hx951_1 := (hC HB hx951_1 :); replace hx951_2 := (hC HB hx951_2 :); replace p951 := eq_true p951; replace q951 := eq_true q951))
       go_roundg k1
       case measure => have := HK1.out; omega
       case rel => exact ⟨(wrap64 (x3_1 + 1)), rS, H', ⟨by have := HK1.out; omega⟩, ⟨bP BK948⟩, ⟨bZ HB⟩⟩
     ·replace c6 := Bool.eq_false_iff.mpr c6
      subst c6
      rw [if_neg (show ¬ (false = true) by decide)] at H
      obtain rfl := Option.some.inj H
      obtain ⟨hcz15_0, hfz15_0⟩ := bK1 (w := wr) BK948
      have p949 : 0 ≤ (x3_1 : Int) := aQ
      have q949 : x3_1 < (l0_0.length : Int) := aQ
      obtain ⟨ad949, e949, hx949_0, hx949_1, hx949_2⟩ := at_T28 HR0_0.out x3_1 p949 q949
      cases e949
      replace hx949_0 := (hC HB hx949_0 :)
      replace hx949_1 := (hC HB hx949_1 :)
      replace hx949_2 := (hC HB hx949_2 :)
      replace p949 := eq_true p949
      replace q949 := eq_true q949
      go_wp2_with (first | (refine gC (some 16) Tryz.func67 #[.agg #[.int .i64 ((rd_T28 l0_0 x3_1).f0), .int .i64 ((rd_T28 l0_0 x3_1).f1), .bool ((rd_T28 l0_0 x3_1).f2)]] ?_; (with_reducible refine (spec_InGroup.calls k1 ((rd_T28 l0_0 x3_1).f0) ((rd_T28 l0_0 x3_1).f1) ((rd_T28 l0_0 x3_1).f2) false _ A5.out).mono ?_); rintro e w16 ⟨rfl, hb⟩; refine ⟨_, rfl, ?_⟩; replace BK948 := bB BK948 hb; replace HB := bS HB hb; (try clear hb)))
      go_ret
      exact ⟨rR, bZ HB⟩
    ·rw [if_neg c4] at H
     exact absurd H (by simp)
   ·rw [if_neg c3] at H
    have c3b0 := decide_eq_false c3
    clear c3
    obtain rfl := Option.some.inj H
    obtain ⟨hcz17_0, hfz17_0⟩ := bK1 (w := wr) BK948
    go_wp2
    go_ret
    exact ⟨rR, bZ HB⟩
def spec_PointText.f (a0_0 : Int) (a0_1 : Int) (a0_2 : Bool) : Option (ByteArray) := (spec_PointOk.f a0_0 a0_1 a0_2).bind fun t953 => (if t953 = true then (if a0_2 = true then (some (⟨#[0, 0, 0]⟩ : ByteArray)) else (some (strOfNums (([((wrap64 (a0_0 + 1)) / 256) % 256, (wrap64 (a0_0 + 1)) % 256, (Int.tmod a0_1 2) % 256] : List Int))))) else (some (⟨#[]⟩ : ByteArray)))
theorem spec_PointText.calls (a0_0 : Int) (a0_1 : Int) (a0_2 : Bool) (r : ByteArray) (w : World) (h : spec_PointText.f a0_0 a0_1 a0_2 = some r) :
  Calls Tryz.prog 73 #[.agg #[.int .i64 a0_0, .int .i64 a0_1, .bool a0_2]] w fun e w' => e = .returned (.string r) ∧ Below w.heap.size w w' := by
 have hu28 := Tryz.underlying28
 have HB := Aside0.mk (Below.refl w.heap.size w)
 unfold spec_PointText.f at h
 have H := h
 clear h
 obtain ⟨t953, A2, H⟩ := oB H
 by_cases c3 : t953 = true
 ·subst c3
  rw [if_pos rfl] at H
  by_cases c4 : a0_2 = true
  ·subst c4
   rw [if_pos rfl] at H
   obtain rfl := Option.some.inj H
   go_enter Tryz.func73, Tryz.ntmps73
   go_wp2_with (first | (refine gB 1 #[.int .i64 a0_0, .int .i64 a0_1, .bool true] 28 ?_; intro gb952 hg w5 BK952 hb; have GW952 := bG HB hg; replace HB := bS HB hb; clear hb hg; obtain ⟨hcz6_0, hcz6_1, hcz6_2, hfz6_0, hfz6_1, hfz6_2⟩ := bK3 (w := w5) BK952) | (refine gC (some 5) Tryz.func115 #[.agg #[.int .i64 a0_0, .int .i64 a0_1, .bool true]] ?_; (with_reducible refine (spec_PointOk.calls a0_0 a0_1 true true _ A2.out).mono ?_); rintro e w7 ⟨rfl, hb⟩; refine ⟨_, rfl, ?_⟩; replace BK952 := bB BK952 hb; replace HB := bS HB hb; (try clear hb); obtain ⟨hcz8_0, hcz8_1, hcz8_2, hfz8_0, hfz8_1, hfz8_2⟩ := bK3 (w := w7) BK952))
   go_ret
   exact ⟨rR, bZ HB⟩
  ·replace c4 := Bool.eq_false_iff.mpr c4
   subst c4
   rw [if_neg (show ¬ (false = true) by decide)] at H
   obtain ⟨y954, hy954⟩ : ∃ y_ : List Int, y_ = (([((wrap64 (a0_0 + 1)) / 256) % 256, (wrap64 (a0_0 + 1)) % 256, (Int.tmod a0_1 2) % 256] : List Int)) := ⟨_, rfl⟩
   replace H : (some (strOfNums y954)) = some r := yR hy954 H
   have Ny954 := Aside0.mk hy954
   clear hy954
   obtain rfl := Option.some.inj H
   go_enter Tryz.func73, Tryz.ntmps73
   go_wp2_with (first | (refine gB 1 #[.int .i64 a0_0, .int .i64 a0_1, .bool false] 28 ?_; intro gb952 hg w9 BK952 hb; have GW952 := bG HB hg; replace HB := bS HB hb; clear hb hg; obtain ⟨hcz10_0, hcz10_1, hcz10_2, hfz10_0, hfz10_1, hfz10_2⟩ := bK3 (w := w9) BK952) | (refine gC (some 5) Tryz.func115 #[.agg #[.int .i64 a0_0, .int .i64 a0_1, .bool false]] ?_; (with_reducible refine (spec_PointOk.calls a0_0 a0_1 false true _ A2.out).mono ?_); rintro e w11 ⟨rfl, hb⟩; refine ⟨_, rfl, ?_⟩; replace BK952 := bB BK952 hb; replace HB := bS HB hb; (try clear hb); obtain ⟨hcz12_0, hcz12_1, hcz12_2, hfz12_0, hfz12_1, hfz12_2⟩ := bK3 (w := w11) BK952) | ((with_reducible refine gate_dst (N := 21) rfl ?_); refine Kd.R_lit (Kd.int .u8) _ 5 ?hg (N := 21) ?hd (xs := ([((wrap64 (a0_0 + 1)) / 256) % 256, (wrap64 (a0_0 + 1)) % 256, (Int.tmod a0_1 2) % 256] : List Int)) (inner := [.int .u8 (((wrap64 (a0_0 + 1)) / 256) % 256), .int .u8 ((wrap64 (a0_0 + 1)) % 256), .int .u8 ((Int.tmod a0_1 2) % 256)]) (ok := fun _ => True) (okp := fun _ => True) ?hr ?hp (fun _ hk => hk) trivial (Below.refl _ _) (Nat.le_refl _) (by simp) ?_; (case hd => rfl); (case hg => rfl); (case hr => first | (go_simp; done) | (go_simp; rfl)); (case hp => exact (Reps.one (show Kd.M (Kd.int .u8) _ _ _ (((wrap64 (a0_0 + 1)) / 256) % 256) [.int .u8 (((wrap64 (a0_0 + 1)) / 256) % 256)] from rfl) (Reps.one (show Kd.M (Kd.int .u8) _ _ _ ((wrap64 (a0_0 + 1)) % 256) [.int .u8 ((wrap64 (a0_0 + 1)) % 256)] from rfl) (Reps.one (show Kd.M (Kd.int .u8) _ _ _ ((Int.tmod a0_1 2) % 256) [.int .u8 ((Int.tmod a0_1 2) % 256)] from rfl) (Reps.none _ _))))); intro v955 w13 ho14 hb hg_ hnew_; clear hg_ hnew_; (first | rw [← Ny954.out] at ho14 | (simp only [Int.reduceToNat] at ho14; rw [← Ny954.out] at ho14)); have HO956 := Aside0.mk (Kd.R_lower ho14 (below_size (bZ HB))); replace BK952 := bB BK952 hb; replace HB := bS HB hb; clear hb ho14; have hcv15 := own_string (P := Tryz.prog) Tryz.underlying22 Tryz.underlying5 Tryz.underlying9 (Kd.own_of_R HO956.out)))
   go_ret
   exact ⟨rR, bZ HB⟩
 ·replace c3 := Bool.eq_false_iff.mpr c3
  subst c3
  rw [if_neg (show ¬ (false = true) by decide)] at H
  obtain rfl := Option.some.inj H
  go_enter Tryz.func73, Tryz.ntmps73
  go_wp2_with (first | (refine gB 1 #[.int .i64 a0_0, .int .i64 a0_1, .bool a0_2] 28 ?_; intro gb952 hg w16 BK952 hb; have GW952 := bG HB hg; replace HB := bS HB hb; clear hb hg; obtain ⟨hcz17_0, hcz17_1, hcz17_2, hfz17_0, hfz17_1, hfz17_2⟩ := bK3 (w := w16) BK952) | (refine gC (some 5) Tryz.func115 #[.agg #[.int .i64 a0_0, .int .i64 a0_1, .bool a0_2]] ?_; (with_reducible refine (spec_PointOk.calls a0_0 a0_1 a0_2 false _ A2.out).mono ?_); rintro e w18 ⟨rfl, hb⟩; refine ⟨_, rfl, ?_⟩; replace BK952 := bB BK952 hb; replace HB := bS HB hb; (try clear hb)))
  go_ret
  exact ⟨rR, bZ HB⟩
def spec_CommitteeText.l0 : Nat → ByteArray → Int → List (S28) → Option (ByteArray × Bool)
 | 0, _, _, _ => none
 | k + 1, x4, x5, x958000 => if x5 < (x958000.length : Int) then (if 0 ≤ x5 then ((spec_PointText.f ((rd_T28 x958000 x5).f0) ((rd_T28 x958000 x5).f1) ((rd_T28 x958000 x5).f2)).bind fun t960 => (if x4.size + t960.size ≤ 9223372036854775807 then (spec_CommitteeText.l0 k (x4 ++ t960) (wrap64 (x5 + 1)) x958000) else (none))) else (none)) else ((spec_SumPoints.f k x958000).bind fun bt961 => ((spec_PointText.f bt961.1 bt961.2.1 bt961.2.2).bind fun t964 => (if x4.size + t964.size ≤ 9223372036854775807 then (some (x4 ++ t964, true)) else (none))))
def spec_CommitteeText.f (k : Nat) (l0_0 : List (S28)) : Option (ByteArray × Bool) := (spec_CommitteeOk.f k l0_0).bind fun t958 => (if t958 = true then (spec_CommitteeText.l0 k (⟨#[]⟩ : ByteArray) 0 l0_0) else (some ((⟨#[]⟩ : ByteArray), false)))
theorem spec_CommitteeText.calls (k : Nat) (A0_0 : Option Addr) (c0_0 : Nat) (l0_0 : List (S28)) (r1 : ByteArray) (r2 : Bool) (w : World) (hr0_0 : Kd.C k28 w A0_0 l0_0.length l0_0) (hc0_0 : l0_0.length ≤ c0_0) (h : spec_CommitteeText.f k l0_0 = some (r1, r2)) :
  Calls Tryz.prog 26 #[.agg #[.slice A0_0 l0_0.length c0_0]] w fun e w' => e = .returned (.tuple #[.string r1, .bool r2]) ∧ Below w.heap.size w w' := by
 have hu46 := Tryz.underlying46
 have hu28 := Tryz.underlying28
 have HR0_0 := Aside0.mk hr0_0
 have HC0_0 := Aside0.mk hc0_0
 clear hr0_0 hc0_0
 have HB := Aside0.mk (Below.refl w.heap.size w)
 unfold spec_CommitteeText.f at h
 have H := h
 clear h
 obtain ⟨t958, A2, H⟩ := oB H
 by_cases c3 : t958 = true
 ·subst c3
  rw [if_pos rfl] at H
  have H' := Aside0.mk H
  clear H
  go_enter Tryz.func26, Tryz.ntmps26
  go_wp2_with (first | (refine gB 1 #[.slice A0_0 l0_0.length c0_0] 46 ?_; intro gb957 hg w4 BK957 hb; have GW957 := bG HB hg; replace HB := bS HB hb; clear hb hg; obtain ⟨hcz5_0, hfz5_0⟩ := bK1 (w := w4) BK957) | (refine gC (some 7) Tryz.func72 #[.agg #[.slice A0_0 l0_0.length c0_0]] ?_; (with_reducible refine (spec_CommitteeOk.calls k _ _ l0_0 true _ ?side1 ?side2 A2.out).mono ?_); (case side1 => exact cP (Kd.C_below HR0_0.out HB.out)); (case side2 => exact HC0_0.out); rintro e w6 ⟨rfl, hb⟩; refine ⟨_, rfl, ?_⟩; replace BK957 := bB BK957 hb; replace HB := bS HB hb; (try clear hb)))
  go_loopg [4, 5] k (fun kq v4 v5 w' => ∃ (x4_1 : ByteArray) (x5_1 : Int), v4 = .string x4_1 ∧ v5 = .int .i64 x5_1 ∧ Aside0 (spec_CommitteeText.l0 kq x4_1 x5_1 l0_0 = some (r1, r2)) ∧ Aside0 (kq ≤ k) ∧ Aside0 (w'.heap[gb957]? = some (.cells #[(.slice A0_0 l0_0.length c0_0)] 46 (0, 0))) ∧ Aside0 (Below w.heap.size w w'))
  case atStart => exact ⟨((⟨#[]⟩ : ByteArray)), (0), rS, rS, H', ⟨Nat.le_refl _⟩, ⟨bP BK957⟩, ⟨bZ HB⟩⟩
  case round =>
   clear H'
   try clear c2
   try clear p2
   try clear c3
   try clear hcz5_0
   try clear hfz5_0
   obtain ⟨x4_1, x5_1, rfl, rfl, HA, HK1, BK957, HB⟩ := hrel
   cases gk with
   | zero => exact absurd HA.out (by simp [spec_CommitteeText.l0])
   | succ k1 =>
    have H := HA.out
    clear HA
    simp only [spec_CommitteeText.l0] at H
    by_cases c7 : x5_1 < (l0_0.length : Int)
    ·rw [if_pos c7] at H
     have c7b0 := decide_eq_true c7
     clear c7
     by_cases c8 : 0 ≤ x5_1
     ·rw [if_pos c8] at H
      have c8b0 := decide_eq_true c8
      clear c8
      obtain ⟨t960, A9, H⟩ := oB H
      by_cases c10 : x4_1.size + t960.size ≤ 9223372036854775807
      ·rw [if_pos c10] at H
       have c10b0 := eq_true c10
       have c10b1 := decide_eq_true c10
       try have c10b2 : (9223372036854775807 < x4_1.size + t960.size) = False := eq_false (Nat.not_lt.2 c10)
       try simp only [ByteArray.size_append] at c10b2
       have H' := Aside0.mk H
       clear H
       obtain ⟨hcz11_0, hfz11_0⟩ := bK1 (w := wr) BK957
       have p959 : 0 ≤ (x5_1 : Int) := aQ
       have q959 : x5_1 < (l0_0.length : Int) := aQ
       obtain ⟨ad959, e959, hx959_0, hx959_1, hx959_2⟩ := at_T28 HR0_0.out x5_1 p959 q959
       cases e959
       replace hx959_0 := (hC HB hx959_0 :)
       replace hx959_1 := (hC HB hx959_1 :)
       replace hx959_2 := (hC HB hx959_2 :)
       replace p959 := eq_true p959
       replace q959 := eq_true q959
       go_wp2_with (first | (refine gC (some 22) Tryz.func73 #[.agg #[.int .i64 ((rd_T28 l0_0 x5_1).f0), .int .i64 ((rd_T28 l0_0 x5_1).f1), .bool ((rd_T28 l0_0 x5_1).f2)]] ?_; (with_reducible refine (spec_PointText.calls ((rd_T28 l0_0 x5_1).f0) ((rd_T28 l0_0 x5_1).f1) ((rd_T28 l0_0 x5_1).f2) t960 _ A9.out).mono ?_); rintro e w12 ⟨rfl, hb⟩; refine ⟨_, rfl, ?_⟩; replace BK957 := bB BK957 hb; replace HB := bS HB hb; (try clear hb)))
       go_roundg k1
       case measure => have := HK1.out; omega
       case rel => exact ⟨(x4_1 ++ t960), (wrap64 (x5_1 + 1)), rS, rS, H', ⟨by have := HK1.out; omega⟩, ⟨bP BK957⟩, ⟨bZ HB⟩⟩
      ·rw [if_neg c10] at H
       exact absurd H (by simp)
     ·rw [if_neg c8] at H
      exact absurd H (by simp)
    ·rw [if_neg c7] at H
     have c7b0 := decide_eq_false c7
     clear c7
     obtain ⟨⟨t961, t962, t963⟩, A13, H⟩ := oB H
     obtain ⟨t964, A14, H⟩ := oB H
     by_cases c15 : x4_1.size + t964.size ≤ 9223372036854775807
     ·rw [if_pos c15] at H
      have c15b0 := eq_true c15
      have c15b1 := decide_eq_true c15
      try have c15b2 : (9223372036854775807 < x4_1.size + t964.size) = False := eq_false (Nat.not_lt.2 c15)
      try simp only [ByteArray.size_append] at c15b2
      simp only [Option.some.injEq, Prod.mk.injEq] at H
      obtain ⟨rfl, rfl⟩ := H
      obtain ⟨hcz16_0, hfz16_0⟩ := bK1 (w := wr) BK957
      go_wp2_with (first | (refine gC (some 27) Tryz.func54 #[.slice A0_0 l0_0.length c0_0] ?_; (with_reducible refine (spec_SumPoints.calls k1 _ _ l0_0 t961 t962 t963 _ ?side1 ?side2 A13.out).mono ?_); (case side1 => exact cP (Kd.C_below HR0_0.out HB.out)); (case side2 => exact HC0_0.out); rintro e w17 ⟨rfl, hb⟩; refine ⟨_, rfl, ?_⟩; replace BK957 := bB BK957 hb; replace HB := bS HB hb; (try clear hb)) | (refine gC (some 28) Tryz.func73 #[.agg #[.int .i64 t961, .int .i64 t962, .bool t963]] ?_; (with_reducible refine (spec_PointText.calls t961 t962 t963 t964 _ A14.out).mono ?_); rintro e w18 ⟨rfl, hb⟩; refine ⟨_, rfl, ?_⟩; replace BK957 := bB BK957 hb; replace HB := bS HB hb; (try clear hb)))
      go_ret2
      exact ⟨rR, bZ HB⟩
     ·rw [if_neg c15] at H
      exact absurd H (by simp)
 ·replace c3 := Bool.eq_false_iff.mpr c3
  subst c3
  rw [if_neg (show ¬ (false = true) by decide)] at H
  simp only [Option.some.injEq, Prod.mk.injEq] at H
  obtain ⟨rfl, rfl⟩ := H
  go_enter Tryz.func26, Tryz.ntmps26
  go_wp2_with (first | (refine gB 1 #[.slice A0_0 l0_0.length c0_0] 46 ?_; intro gb957 hg w19 BK957 hb; have GW957 := bG HB hg; replace HB := bS HB hb; clear hb hg; obtain ⟨hcz20_0, hfz20_0⟩ := bK1 (w := w19) BK957) | (refine gC (some 7) Tryz.func72 #[.agg #[.slice A0_0 l0_0.length c0_0]] ?_; (with_reducible refine (spec_CommitteeOk.calls k _ _ l0_0 false _ ?side1 ?side2 A2.out).mono ?_); (case side1 => exact cP (Kd.C_below HR0_0.out HB.out)); (case side2 => exact HC0_0.out); rintro e w21 ⟨rfl, hb⟩; refine ⟨_, rfl, ?_⟩; replace BK957 := bB BK957 hb; replace HB := bS HB hb; (try clear hb)))
  go_ret2
  exact ⟨rR, bZ HB⟩
end Go.Proofs.YtkdmplfldfagnaaGreatDoor.Pf
end
section
namespace Go.Proofs.YtkdmplfldfagnaaGreatDoor.Pf
open Go.RowKit Go.Proofs.YtkdmplfldfagnaaGreatDoorW.PrintWords Go.Proofs.YtkdmplfldfagnaaGreatDoorW.PrintLast Go.Proofs.YtkdmplfldfagnaaGreatDoorW.PrintMore
attribute [local go_sem] max2_int min2_int max_two min_two max_three min_three max_four min_four   -- for this text's walks alone
set_option linter.unusedVariables false
set_option linter.unusedSimpArgs false
set_option maxHeartbeats 8000000
set_option maxRecDepth 100000
mutual
def spec_l01Text.j0 : Nat → Int → List Int → Int → Int → Option (ByteArray × Int × Int)
 | 0, _, _, _, _ => none
 | k + 1, x1, x1000, x1001, x1002 => spec_l01Text.l0 k x1 (([] : List Int)) 0 x1000 x1001 x1002
def spec_l01Text.l0 : Nat → Int → List Int → Int → List Int → Int → Int → Option (ByteArray × Int × Int)
 | 0, _, _, _, _, _, _ => none
 | k + 1, x1, x5, x6, x1000, x1001, x1002 => if x6 < x1 then ((spec_l01Byte.f x1000 x1001 x1002).bind fun bt226 => (if x5.length < 140737488355328 then (spec_l01Text.l0 k x1 (x5 ++ [(bt226.1) % 256]) (wrap64 (x6 + 1)) x1000 bt226.2.1 bt226.2.2) else (none))) else (some (strOfNums x5, x1001, x1002))
end
def spec_l01Text.f (k : Nat) (s0_0 : List Int) (s0_1 : Int) (s0_2 : Int) (a1 : Int) : Option (ByteArray × Int × Int) := if a1 > 5000 then (spec_l01Text.j0 k 5000 s0_0 s0_1 s0_2) else (spec_l01Text.j0 k a1 s0_0 s0_1 s0_2)
theorem spec_l01Text.calls (k : Nat) (g : Nat) (s0_0 : List Int) (s0_1 : Int) (s0_2 : Int) (a1 : Int) (r1 : ByteArray) (r2 : Int) (r3 : Int) (w0 w : World) (hI : IsS90 w0 w g s0_0 s0_1 s0_2) (hB : Below w0.heap.size w0 w) (h : spec_l01Text.f k s0_0 s0_1 s0_2 a1 = some (r1, r2, r3)) :
  Calls Tryz.prog 49 #[.pointer (some ⟨g, 0, none⟩), .int .i64 a1] w fun e w' => e = .returned (.string r1) ∧ IsS90 w0 w' g s0_0 r2 r3 ∧ Below w0.heap.size w0 w' ∧ KeepBut w w' g none := by
 have HI0 := Aside0.mk hI
 have HK := Aside0.mk (KeepBut.refl w g none)
 have HL := Aside0.mk hB.size
 clear hI
 have HW0 := Aside0.mk hB.size
 have HB := Aside0.mk hB
 clear hB
 unfold spec_l01Text.f at h
 have H := h
 clear h
 have HC3 := Aside0.mk H
 clear H
 go_enter Tryz.func49, Tryz.ntmps49
 go_upto_if 8 with (fail)
 go_cut [1] (fun v1 wc => ∃ (kq : Nat) (x1_2 : Int), v1 = .int .i64 x1_2 ∧ Aside0 (spec_l01Text.j0 kq x1_2 s0_0 s0_1 s0_2 = some (r1, r2, r3)) ∧ Aside0 (kq ≤ k) ∧ Aside0 (IsS90 w0 wc g s0_0 s0_1 s0_2) ∧ Aside0 (KeepBut w wc g none) ∧ Aside0 (Below w0.heap.size w0 wc))
 case first =>
  have H := HC3.out
  clear HC3
  by_cases c4 : a1 > 5000
  ·rw [if_pos c4] at H
   have c4b0 := decide_eq_true c4
   clear c4
   (first | rw [c4b0] | (simp only [i64_w, i32_w]; rw [c4b0]) | rw [c4b1] | skip)
   have H' := Aside0.mk H
   clear H
   go_wp2
   go_meet
   case rel => exact ⟨_, (5000), rS, H', ⟨by first | omega | exact Nat.le_refl _⟩, ⟨iZ90 HI0⟩, ⟨kZ HK⟩, ⟨jZ90 HB HI0⟩⟩
  ·rw [if_neg c4] at H
   have c4b0 := decide_eq_false c4
   clear c4
   (first | rw [c4b0] | (simp only [i64_w, i32_w]; rw [c4b0]) | rw [c4b1] | skip)
   have H' := Aside0.mk H
   clear H
   go_wp2
   go_meet
   case rel => exact ⟨_, (a1), rS, H', ⟨by first | omega | exact Nat.le_refl _⟩, ⟨iZ90 HI0⟩, ⟨kZ HK⟩, ⟨jZ90 HB HI0⟩⟩
 case rest =>
  clear HC3
  try clear p2
  try clear c4
  try clear c4b0
  obtain ⟨kq, x1_2, rfl, HA, HJ2, HI0, HK, HB⟩ := hcut
  cases kq with
  | zero => exact absurd HA.out (by simp [spec_l01Text.j0])
  | succ kj2 =>
   have H := HA.out
   clear HA
   simp only [spec_l01Text.j0] at H
   obtain ⟨y223, hy223⟩ : ∃ y_ : List Int, y_ = (([] : List Int)) := ⟨_, rfl⟩
   replace H : (spec_l01Text.l0 kj2 x1_2 y223 0 s0_0 s0_1 s0_2) = some (r1, r2, r3) := yR hy223 H
   have Ny223 := Aside0.mk hy223
   clear hy223
   have H' := Aside0.mk H
   clear H
   go_wp2_with (first | ((with_reducible refine gate_dst (N := 9) rfl ?_); refine Kd.R_lit (Kd.int .u8) _ 5 ?hg (N := 9) ?hd (xs := ([] : List Int)) (inner := []) (ok := fun _ => True) (okp := fun _ => True) ?hr ?hp (fun _ hk => hk) trivial (Below.refl _ _) (Nat.le_refl _) (by simp) ?_; (case hd => rfl); (case hg => rfl); (case hr => first | (go_simp; done) | (go_simp; rfl)); (case hp => exact (Reps.none _ _)); intro v224 w5 ho6 hb hg_ hnew_; clear hg_ hnew_; (first | rw [← Ny223.out] at ho6 | (simp only [Int.reduceToNat] at ho6; rw [← Ny223.out] at ho6)); have HO225 := Aside0.mk (Kd.R_lower ho6 (keep_size (w := w) (g := g) (row := none) (kZ HK))); replace HK := Aside0.mk (KeepBut.trans (kZ HK) (KeepBut.of_below hb g none) (.inl rfl)); replace HB := Aside0.mk (below_step (jZ90 HB HI0) hb); replace HI0 := Aside0.mk (IsS90.below (iZ90 HI0) hb); clear hb ho6))
   go_loopg [5, 6] kj2 (fun kq v5 v6 w' => ∃ (x5_2 : List Int) (x6_2 : Int) (x1001_2 : Int) (x1002_2 : Int), v6 = .int .i64 x6_2 ∧ Aside0 (spec_l01Text.l0 kq x1_2 x5_2 x6_2 s0_0 x1001_2 x1002_2 = some (r1, r2, r3)) ∧ Aside0 (kq ≤ kj2) ∧ Aside0 (Kd.R (Kd.int .u8) 5 w' w.heap.size (fun _ => True) v5 x5_2) ∧ Aside0 (IsS90 w0 w' g s0_0 x1001_2 x1002_2) ∧ Aside0 (KeepBut w w' g none) ∧ Aside0 (Below w0.heap.size w0 w'))
   case atStart => exact ⟨(y223), (0), (s0_1), (s0_2), rS, H', ⟨Nat.le_refl _⟩, ⟨rP HO225⟩, ⟨iZ90 HI0⟩, ⟨kZ HK⟩, ⟨jZ90 HB HI0⟩⟩
   case round =>
    clear H'
    try clear p2
    try clear c4
    try clear c4b0
    try clear p2
    obtain ⟨x5_2, x6_2, x1001_2, x1002_2, rfl, HA, HK2, HO_5, HI0, HK, HB⟩ := hrel
    cases gk with
    | zero => exact absurd HA.out (by simp [spec_l01Text.l0])
    | succ k2 =>
     have H := HA.out
     clear HA
     simp only [spec_l01Text.l0] at H
     by_cases c7 : x6_2 < x1_2
     ·rw [if_pos c7] at H
      have c7b0 := decide_eq_true c7
      clear c7
      obtain ⟨⟨t226, t227, t228⟩, A8, H⟩ := oB H
      by_cases c9 : x5_2.length < 140737488355328
      ·rw [if_pos c9] at H
       have LMc9 := Aside0.mk c9
       clear c9
       obtain ⟨y229, hy229⟩ : ∃ y_ : List Int, y_ = (x5_2 ++ [(t226) % 256]) := ⟨_, rfl⟩
       replace H : (spec_l01Text.l0 k2 x1_2 y229 (wrap64 (x6_2 + 1)) s0_0 t227 t228) = some (r1, r2, r3) := yR hy229 H
       have Ny229 := Aside0.mk hy229
       clear hy229
       have H' := Aside0.mk H
       clear H
       go_wp2_with (first | (refine gC (some 17) Tryz.func43 #[.pointer (some ⟨g, 0, none⟩)] ?_; (with_reducible refine (spec_l01Byte.calls g s0_0 x1001_2 x1002_2 t226 t227 t228 w0 _ ?side1 ?side2 A8.out).mono ?_); (case side1 => exact iZ90 HI0); (case side2 => exact jZ90 HB HI0); rintro e w10 ⟨rfl, hi, hb, hk⟩; refine ⟨_, rfl, ?_⟩; replace HO_5 := Aside0.mk (Kd.R_mono (Kd.R_keep (IsS90.apart (show IsS90 w0 _ g s0_0 x1001_2 x1002_2 from iZ90 HI0) (rP HO_5) (by decide)) hk (fun _ h => h.2)) (fun _ h => h.1)); replace HK := Aside0.mk (KeepBut.trans (kZ HK) hk (.inl rfl)); replace HB := Aside0.mk (hb); replace HI0 := Aside0.mk (hi); (try clear hb)) | ((with_reducible refine gate_builtin (b := .append) (xs := #[.tmp 15, .tmp 19]) rfl ?_); at_builtin; refine Kd.R_append (Kd.int .u8) w.heap.size rfl (.tmp 15) (.tmp 19) 22 5 (.int .u8 0) 1 rfl Tryz.underlying22 info5 rfl (by decide) (by omega) u5 x5_2 ((t226) % 256) [.int .u8 ((t226) % 256)] (fun _ => True) (fun _ => False) rfl rfl ?aP (fun _ hk => hk.elim) ?aF ?aO (Below.refl _ _) ?aS ?aL ?_; (case aP => exact rfl); (case aF => exact (fun _ _ => trivial)); (case aO => exact (rP HO_5)); (case aS => exact (keep_size (w := w) (g := g) (row := none) (kZ HK))); (case aL => have := LMc9.out; omega); intro v230 w11 ho hb hg hat; rw [← Ny229.out] at ho; replace HB := Aside0.mk (below_weaken (jZ90 HB HI0) HL.out hb); replace HI0 := Aside0.mk (IsS90.grown (iZ90 HI0) hg (IsS90.own_ne HI0.out HO_5.out (by decide))); replace HK := Aside0.mk (KeepBut.trans (kZ HK) (KeepBut.of_grown hg g) (Kd.R_base2 HO_5.out)); have HO231 := Aside0.mk (ho); clear HO_5; clear ho hb hg hat))
       go_roundg k2
       case measure => have := HJ2.out; have := HK2.out; omega
       case rel => exact ⟨(y229), (wrap64 (x6_2 + 1)), (t227), (t228), rS, H', ⟨by have := HJ2.out; have := HK2.out; omega⟩, ⟨rP HO231⟩, ⟨iZ90 HI0⟩, ⟨kZ HK⟩, ⟨jZ90 HB HI0⟩⟩
      ·rw [if_neg c9] at H
       exact absurd H (by simp)
     ·rw [if_neg c7] at H
      have c7b0 := decide_eq_false c7
      clear c7
      simp only [Option.some.injEq, Prod.mk.injEq] at H
      obtain ⟨rfl, rfl, rfl⟩ := H
      have hcv12 := own_string (P := Tryz.prog) Tryz.underlying22 Tryz.underlying5 Tryz.underlying9 (Kd.own_of_R HO_5.out)
      go_wp2
      go_ret
      exact ⟨by first | rfl | (simp [errW_none, errW_some] <;> rfl) | (simp [*, errW_none, errW_some] <;> rfl), iZ90 HI0, jZ90 HB HI0, kZ HK⟩
end Go.Proofs.YtkdmplfldfagnaaGreatDoor.Pf
end
section
namespace Go.Proofs.YtkdmplfldfagnaaGreatDoor.Pf
open Go.RowKit Go.Proofs.YtkdmplfldfagnaaGreatDoorW.PrintWords Go.Proofs.YtkdmplfldfagnaaGreatDoorW.PrintLast Go.Proofs.YtkdmplfldfagnaaGreatDoorW.PrintMore
attribute [local go_sem] max2_int min2_int max_two min_two max_three min_three max_four min_four   -- for this text's walks alone
set_option linter.unusedVariables false
set_option linter.unusedSimpArgs false
set_option maxHeartbeats 8000000
set_option maxRecDepth 100000
def spec_l02Spoilt.j0 : Nat → ByteArray → Bool → List Int → Int → Int → Option (ByteArray × Int × Int)
 | 0, _, _, _, _, _ => none
 | k + 1, x1, x23, x1000, x1001, x1002 => if x23 = true then (if (x1.size : Int) > 0 then ((spec_l01Below.f x1000 x1001 x1002 (x1.size : Int)).bind fun bt974 => (if 0 ≤ bt974.1 then (if bt974.1 ≤ (x1.size : Int) then ((spec_l01Text.f k x1000 bt974.2.1 bt974.2.2 1).bind fun bt977 => (if (x1.extract 0 (bt974.1 : Int).toNat).size + bt977.1.size ≤ 9223372036854775807 then (if 0 ≤ (wrap64 (bt974.1 + 1)) then (if (wrap64 (bt974.1 + 1)) ≤ (x1.size : Int) then (if ((x1.extract 0 (bt974.1 : Int).toNat) ++ bt977.1).size + (x1.extract ((wrap64 (bt974.1 + 1)) : Int).toNat x1.size).size ≤ 9223372036854775807 then (some (((x1.extract 0 (bt974.1 : Int).toNat) ++ bt977.1) ++ (x1.extract ((wrap64 (bt974.1 + 1)) : Int).toNat x1.size), bt977.2.1, bt977.2.2)) else (none)) else (none)) else (none)) else (none))) else (none)) else (none))) else (some (x1, x1001, x1002))) else (some (x1, x1001, x1002))
def spec_l02Spoilt.f (k : Nat) (s0_0 : List Int) (s0_1 : Int) (s0_2 : Int) (a1 : ByteArray) : Option (ByteArray × Int × Int) := (spec_l01Below.f s0_0 s0_1 s0_2 12).bind fun bt965 => (if bt965.1 = 0 then ((spec_l01Text.f k s0_0 bt965.2.1 bt965.2.2 1).bind fun bt968 => (if a1.size + bt968.1.size ≤ 9223372036854775807 then (some (a1 ++ bt968.1, bt968.2.1, bt968.2.2)) else (none))) else (if bt965.1 = 1 then ((spec_l01Below.f s0_0 bt965.2.1 bt965.2.2 (wrap64 ((a1.size : Int) + 1))).bind fun bt971 => (if 0 ≤ bt971.1 then (if bt971.1 ≤ (a1.size : Int) then (some (a1.extract 0 (bt971.1 : Int).toNat, bt971.2.1, bt971.2.2)) else (none)) else (none))) else (if bt965.1 = 2 then (spec_l02Spoilt.j0 k a1 (bt965.1 == 2) s0_0 bt965.2.1 bt965.2.2) else (spec_l02Spoilt.j0 k a1 (bt965.1 == 3) s0_0 bt965.2.1 bt965.2.2))))
def spec_l02Spoilt.T10 : Bool × List (List Nat × List Nat) := (true, [([], []), ([], []), ([0, 1], [0, 1]), ([], []), ([3], [3]), ([2, 4], [2, 4]), ([], []), ([], []), ([7], [7]), ([6, 8], [6, 8]), ([5, 9], [5, 9]), ([10, 4, 0, 1, 2, 3, 4, 5, 6, 7, 8, 9, 10], [10])])
def spec_l02Spoilt.B10 : List Nat := [0, 0, 3, 0, 8, 31, 0, 0, 128, 448, 1023, 2047]
theorem spec_l02Spoilt.tab10 : rtab .any (opsOf Tryz.f74 10) = spec_l02Spoilt.T10 := by kernel_rfl
theorem spec_l02Spoilt.bits10 : waitsOk spec_l02Spoilt.T10.2 spec_l02Spoilt.B10 = true := by kernel_rfl
theorem spec_l02Spoilt.calls (k : Nat) (g : Nat) (s0_0 : List Int) (s0_1 : Int) (s0_2 : Int) (a1 : ByteArray) (r1 : ByteArray) (r2 : Int) (r3 : Int) (w0 w : World) (hI : IsS90 w0 w g s0_0 s0_1 s0_2) (hB : Below w0.heap.size w0 w) (h : spec_l02Spoilt.f k s0_0 s0_1 s0_2 a1 = some (r1, r2, r3)) :
  Calls Tryz.prog 74 #[.pointer (some ⟨g, 0, none⟩), .string a1] w fun e w' => e = .returned (.string r1) ∧ IsS90 w0 w' g s0_0 r2 r3 ∧ Below w0.heap.size w0 w' ∧ KeepBut w w' g none := by
 have HI0 := Aside0.mk hI
 have HK := Aside0.mk (KeepBut.refl w g none)
 have HL := Aside0.mk hB.size
 clear hI
 have HW0 := Aside0.mk hB.size
 have HB := Aside0.mk hB
 clear hB
 unfold spec_l02Spoilt.f at h
 have H := h
 clear h
 obtain ⟨⟨t965, t966, t967⟩, A3, H⟩ := oB H
 by_cases c4 : t965 = 0
 ·rw [if_pos c4] at H
  have c4b0 : (t965 == 0) = true := beq_iff_eq.mpr c4
  have c4b1 : (t965 != 0) = false := bne_eq_false_iff_eq.mpr c4
  clear c4
  obtain ⟨⟨t968, t969, t970⟩, A5, H⟩ := oB H
  by_cases c6 : a1.size + t968.size ≤ 9223372036854775807
  ·rw [if_pos c6] at H
   have c6b0 := eq_true c6
   have c6b1 := decide_eq_true c6
   try have c6b2 : (9223372036854775807 < a1.size + t968.size) = False := eq_false (Nat.not_lt.2 c6)
   try simp only [ByteArray.size_append] at c6b2
   simp only [Option.some.injEq, Prod.mk.injEq] at H
   obtain ⟨rfl, rfl, rfl⟩ := H
   go_enter Tryz.func74, Tryz.ntmps74
   go_wp2_with (first | (refine gC (some 7) Tryz.func44 #[.pointer (some ⟨g, 0, none⟩), .int .i64 12] ?_; (with_reducible refine (spec_l01Below.calls g s0_0 s0_1 s0_2 12 t965 t966 t967 w0 _ ?side1 ?side2 A3.out).mono ?_); (case side1 => exact iZ90 HI0); (case side2 => exact jZ90 HB HI0); rintro e w7 ⟨rfl, hi, hb, hk⟩; refine ⟨_, rfl, ?_⟩; replace HK := Aside0.mk (KeepBut.trans (kZ HK) hk (.inl rfl)); replace HB := Aside0.mk (hb); replace HI0 := Aside0.mk (hi); (try clear hb)) | (refine gC (some 12) Tryz.func49 #[.pointer (some ⟨g, 0, none⟩), .int .i64 1] ?_; (with_reducible refine (spec_l01Text.calls k g s0_0 t966 t967 1 t968 t969 t970 w0 _ ?side1 ?side2 A5.out).mono ?_); (case side1 => exact iZ90 HI0); (case side2 => exact jZ90 HB HI0); rintro e w8 ⟨rfl, hi, hb, hk⟩; refine ⟨_, rfl, ?_⟩; replace HK := Aside0.mk (KeepBut.trans (kZ HK) hk (.inl rfl)); replace HB := Aside0.mk (hb); replace HI0 := Aside0.mk (hi); (try clear hb)))
   go_ret
   exact ⟨by first | rfl | (simp [errW_none, errW_some] <;> rfl) | (simp [*, errW_none, errW_some] <;> rfl), iZ90 HI0, jZ90 HB HI0, kZ HK⟩
  ·rw [if_neg c6] at H
   exact absurd H (by simp)
 ·rw [if_neg c4] at H
  have c4b0 : (t965 == 0) = false := beq_eq_false_iff_ne.mpr c4
  have c4b1 : (t965 != 0) = true := bne_iff_ne.mpr c4
  by_cases c9 : t965 = 1
  ·rw [if_pos c9] at H
   have c9b0 : (t965 == 1) = true := beq_iff_eq.mpr c9
   have c9b1 : (t965 != 1) = false := bne_eq_false_iff_eq.mpr c9
   clear c9
   obtain ⟨⟨t971, t972, t973⟩, A10, H⟩ := oB H
   by_cases c11 : 0 ≤ t971
   ·rw [if_pos c11] at H
    have c11b0 := eq_true c11
    have c11b1 := decide_eq_true c11
    clear c11
    by_cases c12 : t971 ≤ (a1.size : Int)
    ·rw [if_pos c12] at H
     have c12b0 := eq_true c12
     have c12b1 := decide_eq_true c12
     clear c12
     simp only [Option.some.injEq, Prod.mk.injEq] at H
     obtain ⟨rfl, rfl, rfl⟩ := H
     go_enter Tryz.func74, Tryz.ntmps74
     go_wp2_with (first | (refine gC (some 7) Tryz.func44 #[.pointer (some ⟨g, 0, none⟩), .int .i64 12] ?_; (with_reducible refine (spec_l01Below.calls g s0_0 s0_1 s0_2 12 t965 t966 t967 w0 _ ?side1 ?side2 A3.out).mono ?_); (case side1 => exact iZ90 HI0); (case side2 => exact jZ90 HB HI0); rintro e w13 ⟨rfl, hi, hb, hk⟩; refine ⟨_, rfl, ?_⟩; replace HK := Aside0.mk (KeepBut.trans (kZ HK) hk (.inl rfl)); replace HB := Aside0.mk (hb); replace HI0 := Aside0.mk (hi); (try clear hb)) | (refine gC (some 21) Tryz.func44 #[.pointer (some ⟨g, 0, none⟩), .int .i64 (wrap64 ((a1.size : Int) + 1))] ?_; (with_reducible refine (spec_l01Below.calls g s0_0 t966 t967 (wrap64 ((a1.size : Int) + 1)) t971 t972 t973 w0 _ ?side1 ?side2 A10.out).mono ?_); (case side1 => exact iZ90 HI0); (case side2 => exact jZ90 HB HI0); rintro e w14 ⟨rfl, hi, hb, hk⟩; refine ⟨_, rfl, ?_⟩; replace HK := Aside0.mk (KeepBut.trans (kZ HK) hk (.inl rfl)); replace HB := Aside0.mk (hb); replace HI0 := Aside0.mk (hi); (try clear hb)))
     go_ret
     exact ⟨by first | rfl | (simp [errW_none, errW_some] <;> rfl) | (simp [*, errW_none, errW_some] <;> rfl), iZ90 HI0, jZ90 HB HI0, kZ HK⟩
    ·rw [if_neg c12] at H
     exact absurd H (by simp)
   ·rw [if_neg c11] at H
    exact absurd H (by simp)
  ·rw [if_neg c9] at H
   have c9b0 : (t965 == 1) = false := beq_eq_false_iff_ne.mpr c9
   have c9b1 : (t965 != 1) = true := bne_iff_ne.mpr c9
   have HC15 := Aside0.mk H
   clear H
   go_enter Tryz.func74, Tryz.ntmps74
   go_upto_if 23 with (first | (refine gC (some 7) Tryz.func44 #[.pointer (some ⟨g, 0, none⟩), .int .i64 12] ?_; (with_reducible refine (spec_l01Below.calls g s0_0 s0_1 s0_2 12 t965 t966 t967 w0 _ ?side1 ?side2 A3.out).mono ?_); (case side1 => exact iZ90 HI0); (case side2 => exact jZ90 HB HI0); rintro e w16 ⟨rfl, hi, hb, hk⟩; refine ⟨_, rfl, ?_⟩; replace HK := Aside0.mk (KeepBut.trans (kZ HK) hk (.inl rfl)); replace HB := Aside0.mk (hb); replace HI0 := Aside0.mk (hi); (try clear hb)))
   (try simp only [Act.put, List.setIfInBounds_toArray, List.set_cons_zero, List.set_cons_succ])
   go_cut [23] (fun v23 wc => ∃ (kq : Nat) (x23_14 : Bool), v23 = .bool x23_14 ∧ Aside0 (spec_l02Spoilt.j0 kq a1 x23_14 s0_0 t966 t967 = some (r1, r2, r3)) ∧ Aside0 (kq ≤ k) ∧ Aside0 (IsS90 w0 wc g s0_0 t966 t967) ∧ Aside0 (KeepBut w wc g none) ∧ Aside0 (Below w0.heap.size w0 wc))
   case first =>
    have H := HC15.out
    clear HC15
    by_cases c17 : t965 = 2
    ·rw [if_pos c17] at H
     have c17b0 : (t965 == 2) = true := beq_iff_eq.mpr c17
     have c17b1 : (t965 != 2) = false := bne_eq_false_iff_eq.mpr c17
     clear c17
     (first | rw [c17b0] | (simp only [i64_w, i32_w]; rw [c17b0]) | rw [c17b1] | skip)
     have H' := Aside0.mk H
     clear H
     go_wp2
     go_meet
     case rel => exact ⟨_, ((t965 == 2)), rS, H', ⟨by first | omega | exact Nat.le_refl _⟩, ⟨iZ90 HI0⟩, ⟨kZ HK⟩, ⟨jZ90 HB HI0⟩⟩
    ·rw [if_neg c17] at H
     have c17b0 : (t965 == 2) = false := beq_eq_false_iff_ne.mpr c17
     have c17b1 : (t965 != 2) = true := bne_iff_ne.mpr c17
     (first | rw [c17b0] | (simp only [i64_w, i32_w]; rw [c17b0]) | rw [c17b1] | skip)
     have H' := Aside0.mk H
     clear H
     go_wp2
     go_meet
     case rel => exact ⟨_, ((t965 == 3)), rS, H', ⟨by first | omega | exact Nat.le_refl _⟩, ⟨iZ90 HI0⟩, ⟨kZ HK⟩, ⟨jZ90 HB HI0⟩⟩
   case rest =>
    clear HC15
    try clear c1
    try clear p2
    try clear c4
    try clear c4b0
    try clear c4b1
    try clear c6
    try clear c6b0
    try clear c6b1
    try clear c6b2
    try clear p6
    try clear c7
    try clear c9
    try clear c9b0
    try clear c9b1
    try clear c11
    try clear c11b0
    try clear c11b1
    try clear c12
    try clear c12b0
    try clear c12b1
    try clear c17
    try clear c17b0
    try clear c17b1
    obtain ⟨kq, x23_14, rfl, HA, HJ14, HI0, HK, HB⟩ := hcut
    cases kq with
    | zero => exact absurd HA.out (by simp [spec_l02Spoilt.j0])
    | succ kj14 =>
     have H := HA.out
     clear HA
     simp only [spec_l02Spoilt.j0] at H
     by_cases c18 : x23_14 = true
     ·subst c18
      rw [if_pos rfl] at H
      by_cases c19 : (a1.size : Int) > 0
      ·rw [if_pos c19] at H
       have c19b0 := decide_eq_true c19
       have c19b1 : decide (0 < a1.size) = true := decide_eq_true (by omega)
       clear c19
       obtain ⟨⟨t974, t975, t976⟩, A20, H⟩ := oB H
       by_cases c21 : 0 ≤ t974
       ·rw [if_pos c21] at H
        have c21b0 := eq_true c21
        have c21b1 := decide_eq_true c21
        clear c21
        by_cases c22 : t974 ≤ (a1.size : Int)
        ·rw [if_pos c22] at H
         have c22b0 := eq_true c22
         have c22b1 := decide_eq_true c22
         clear c22
         obtain ⟨⟨t977, t978, t979⟩, A23, H⟩ := oB H
         by_cases c24 : (a1.extract 0 (t974 : Int).toNat).size + t977.size ≤ 9223372036854775807
         ·rw [if_pos c24] at H
          have c24b0 := eq_true c24
          have c24b1 := decide_eq_true c24
          try have c24b2 : (9223372036854775807 < (a1.extract 0 (t974 : Int).toNat).size + t977.size) = False := eq_false (Nat.not_lt.2 c24)
          try simp only [ByteArray.size_append] at c24b2
          try have c24b3 : (9223372036854775807 < (t974 : Int).toNat + t977.size) = False := eq_false (by have := of_eq_true c22b0; have := of_eq_true c21b0;  have h_ := of_eq_true c24b0; simp only [ByteArray.size_append, ByteArray.size_extract] at h_; omega)
          obtain ⟨ji25, hji25⟩ : ∃ j_ : Int, (wrap64 (t974 + 1)) = j_ := ⟨_, rfl⟩
          replace H : (if 0 ≤ (ji25) then (if (ji25) ≤ (a1.size : Int) then (if ((a1.extract 0 (t974 : Int).toNat) ++ t977).size + (a1.extract ((ji25) : Int).toNat a1.size).size ≤ 9223372036854775807 then (some (((a1.extract 0 (t974 : Int).toNat) ++ t977) ++ (a1.extract ((ji25) : Int).toNat a1.size), t978, t979)) else (none)) else (none)) else (none)) = some (r1, r2, r3) := jR hji25 H
          (try rw [hji25] at A20)
          (try rw [hji25] at A23)
          have hji25w : (IntKind.i64.wrap (t974 + 1)) = ji25 := (i64_w _).trans hji25
          by_cases c26 : 0 ≤ (ji25)
          ·rw [if_pos c26] at H
           have c26b0 := eq_true c26
           have c26b1 := decide_eq_true c26
           clear c26
           by_cases c27 : (ji25) ≤ (a1.size : Int)
           ·rw [if_pos c27] at H
            have c27b0 := eq_true c27
            have c27b1 := decide_eq_true c27
            clear c27
            by_cases c28 : ((a1.extract 0 (t974 : Int).toNat) ++ t977).size + (a1.extract ((ji25) : Int).toNat a1.size).size ≤ 9223372036854775807
            ·rw [if_pos c28] at H
             have c28b0 := eq_true c28
             have c28b1 := decide_eq_true c28
             try have c28b2 : (9223372036854775807 < ((a1.extract 0 (t974 : Int).toNat) ++ t977).size + (a1.extract ((ji25) : Int).toNat a1.size).size) = False := eq_false (Nat.not_lt.2 c28)
             try simp only [ByteArray.size_append] at c28b2
             try have c28b3 : (9223372036854775807 < t974.toNat + t977.size + (a1.size - ((ji25) : Int).toNat)) = False := eq_false (by have := of_eq_true c27b0; have := of_eq_true c26b0; have := of_eq_true c24b0; have := of_eq_true c22b0; have := of_eq_true c21b0;  have h_ := of_eq_true c28b0; simp only [ByteArray.size_append, ByteArray.size_extract] at h_; omega)
             simp only [Option.some.injEq, Prod.mk.injEq] at H
             obtain ⟨rfl, rfl, rfl⟩ := H
             try go_wp2_with (first | (refine gC (some 32) Tryz.func44 #[.pointer (some ⟨g, 0, none⟩), .int .i64 (a1.size : Int)] ?_; (with_reducible refine (spec_l01Below.calls g s0_0 t966 t967 (a1.size : Int) t974 t975 t976 w0 _ ?side1 ?side2 A20.out).mono ?_); (case side1 => exact iZ90 HI0); (case side2 => exact jZ90 HB HI0); rintro e w29 ⟨rfl, hi, hb, hk⟩; refine ⟨_, rfl, ?_⟩; replace HK := Aside0.mk (KeepBut.trans (kZ HK) hk (.inl rfl)); replace HB := Aside0.mk (hb); replace HI0 := Aside0.mk (hi); (try clear hb)))
             replace HI0 := Aside0.mk (IsS90.drew HI0.out)
             replace HK := Aside0.mk (keep_drew HK.out)
             replace HB := Aside0.mk (below_drew1 HB.out)
             refine start_ (n := 12) (S := fun w' => True) (ds := []) #[false, false, false, false, false, false, false, false, false, false, false, false] (by kernel_rfl) rfl rfl trivial (fun hHeld => ?_); refine with_tabW spec_l02Spoilt.tab10 spec_l02Spoilt.bits10 (fun HT_ HW_ => ?_)
             generalize w29.drew = w30 at HI0 HK HB hHeld ⊢
             refine pI 0 (some 33) HT_.out ?_
             refine pI 1 (some 34) HT_.out ?_
             refine pI 2 (some 35) HT_.out ?_
             refine pI 3 (some 36) HT_.out ?_
             refine pI 6 (some 39) HT_.out ?_
             refine pI 7 (some 40) HT_.out ?_
             refine pI 8 (some 41) HT_.out ?_
             refine pI 9 (some 42) HT_.out ?_
             refine oI 4 (some 37) HT_.out (fun K hK => ?_)
             refine gO Tryz.func49 #[.pointer (some ⟨g, 0, none⟩), .int .i64 1] ?_
             with_reducible refine (spec_l01Text.calls kj14 g s0_0 t975 t976 1 t977 t978 t979 w0 _ ?side1 ?side2 A23.out).mono ?_
             (case side1 => exact iZ90 HI0)
             (case side2 => exact jZ90 HB HI0)
             rintro e w31 ⟨rfl, hi, hb, hk⟩
             refine ⟨_, rfl, ?_⟩
             replace HK := Aside0.mk (KeepBut.trans (kZ HK) hk (.inl rfl))
             replace HB := Aside0.mk (hb)
             replace HI0 := Aside0.mk (hi)
             (try clear hb)
             refine hK.out _ _ trivial (fun hHeld => ?_)
             clear hK K
             refine nO (some 37) ?_
             refine pI 5 (some 38) HT_.out ?_
             refine pI 10 (some 43) HT_.out ?_
             refine pI 11 (some 4) HT_.out ?_
             refine done_ (done_of HT_.out (by kernel_rfl)) ?_
             try go_wp2
             go_ret
             exact ⟨by first | rfl | (simp [errW_none, errW_some] <;> rfl) | (simp only [← hji25]; first | rfl | (simp [errW_none, errW_some] <;> rfl)) | (simp [*, errW_none, errW_some] <;> rfl), iZ90 HI0, jZ90 HB HI0, kZ HK⟩
            ·rw [if_neg c28] at H
             exact absurd H (by simp)
           ·rw [if_neg c27] at H
            exact absurd H (by simp)
          ·rw [if_neg c26] at H
           exact absurd H (by simp)
         ·rw [if_neg c24] at H
          exact absurd H (by simp)
        ·rw [if_neg c22] at H
         exact absurd H (by simp)
       ·rw [if_neg c21] at H
        exact absurd H (by simp)
      ·rw [if_neg c19] at H
       have c19b0 := decide_eq_false c19
       have c19b1 : decide (0 < a1.size) = false := decide_eq_false (by omega)
       clear c19
       simp only [Option.some.injEq, Prod.mk.injEq] at H
       obtain ⟨rfl, rfl, rfl⟩ := H
       go_wp2
       go_ret
       exact ⟨by first | rfl | (simp [errW_none, errW_some] <;> rfl) | (simp [*, errW_none, errW_some] <;> rfl), iZ90 HI0, jZ90 HB HI0, kZ HK⟩
     ·replace c18 := Bool.eq_false_iff.mpr c18
      subst c18
      rw [if_neg (show ¬ (false = true) by decide)] at H
      simp only [Option.some.injEq, Prod.mk.injEq] at H
      obtain ⟨rfl, rfl, rfl⟩ := H
      go_wp2
      go_ret
      exact ⟨by first | rfl | (simp [errW_none, errW_some] <;> rfl) | (simp [*, errW_none, errW_some] <;> rfl), iZ90 HI0, jZ90 HB HI0, kZ HK⟩
def spec_DrawReadCommittee.f (k : Nat) (l0 : List Int) : Option (ByteArray) := (spec_l01New.f k l0).bind fun bt980 => ((spec_l01Below.f bt980.1 bt980.2.1 bt980.2.2 3).bind fun bt984 => ((spec_l12Any.f k bt980.1 bt984.2.1 bt984.2.2).bind fun bt987 => ((spec_CommitteeText.f k bt987.1).bind fun bt992 => (if bt984.1 = 0 then ((spec_l02Spoilt.f k bt980.1 bt987.2.1 bt987.2.2 bt992.1).bind fun bt994 => (some bt994.1)) else (some bt992.1)))))
theorem spec_DrawReadCommittee.calls (k : Nat) (A0 : Option Addr) (c0 : Nat) (l0 : List Int) (r : ByteArray) (w : World) (hr0 : Kd.C (Kd.int .u8) w A0 l0.length l0) (hc0 : l0.length ≤ c0) (h : spec_DrawReadCommittee.f k l0 = some r) :
  Calls Tryz.prog 27 #[.slice A0 l0.length c0] w fun e w' => e = .returned (.string r) ∧ Below w.heap.size w w' := by
 have HR0 := Aside0.mk hr0
 have HC0 := Aside0.mk hc0
 clear hr0 hc0
 have HB := Aside0.mk (Below.refl w.heap.size w)
 unfold spec_DrawReadCommittee.f at h
 have H := h
 clear h
 obtain ⟨⟨t980, t981, t982⟩, A2, H⟩ := oB H
 obtain ⟨⟨t984, t985, t986⟩, A3, H⟩ := oB H
 obtain ⟨⟨t987, t990, t991⟩, A4, H⟩ := oB H
 obtain ⟨⟨t992, t993⟩, A5, H⟩ := oB H
 by_cases c6 : t984 = 0
 ·rw [if_pos c6] at H
  have c6b0 : (t984 == 0) = true := beq_iff_eq.mpr c6
  have c6b1 : (t984 != 0) = false := bne_eq_false_iff_eq.mpr c6
  clear c6
  obtain ⟨⟨t994, t995, t996⟩, A7, H⟩ := oB H
  obtain rfl := Option.some.inj H
  go_enter Tryz.func27, Tryz.ntmps27
  go_wp2_with (first | (refine gC (some 8) Tryz.func42 #[.slice A0 l0.length c0] ?_; (with_reducible refine (spec_l01New.calls k _ _ l0 t980 t981 t982 w _ ?side1 ?side2 ?side3 A2.out).mono ?_); (case side1 => repeat (first | (with_reducible first | exact HB.out | apply below_alloc | apply pw_below_drewN | apply below_drew1) | exact HB.out)); (case side2 => exact HR0.out); (case side3 => exact HC0.out); rintro e w8 ⟨g983, rfl, hi, hb, hb2⟩; refine ⟨_, rfl, ?_⟩; replace HB := Aside0.mk (hb); have HI983 := Aside0.mk (hi); (try clear hb)) | (refine gC (some 10) Tryz.func44 #[.pointer (some ⟨g983, 0, none⟩), .int .i64 3] ?_; (with_reducible refine (spec_l01Below.calls g983 t980 t981 t982 3 t984 t985 t986 w _ ?side1 ?side2 A3.out).mono ?_); (case side1 => exact iZ90 HI983); (case side2 => exact jZ90 HB HI983); rintro e w9 ⟨rfl, hi, hb, hk⟩; refine ⟨_, rfl, ?_⟩; replace HB := Aside0.mk (hb); replace HI983 := Aside0.mk (hi); (try clear hb)) | (refine gC (some 13) Tryz.func69 #[.pointer (some ⟨g983, 0, none⟩)] ?_; (with_reducible refine (spec_l12Any.calls k g983 t980 t985 t986 t987 t990 t991 w _ ?side1 ?side2 A4.out).mono ?_); (case side1 => exact iZ90 HI983); (case side2 => exact jZ90 HB HI983); rintro e w10 ⟨v988, rfl, ho0, hi, hb, hk⟩; refine ⟨_, rfl, ?_⟩; have HO989 := Aside0.mk (Kd.Q_lower ho0 (below_size (jZ90 HB HI983))); replace HB := Aside0.mk (hb); replace HI983 := Aside0.mk (hi); (try clear hb); (try clear ho0); obtain ⟨Ao11, co11, eo11, _⟩ := Kd.Q_slice HO989.out; subst eo11) | (refine gC (some 14) Tryz.func26 #[.agg #[.slice Ao11 t987.length co11]] ?_; (with_reducible refine (spec_CommitteeText.calls k _ _ t987 t992 t993 _ ?side1 ?side2 A5.out).mono ?_); (case side1 => exact cP ((Kd.Q_reads' HO989.out).2.2)); (case side2 => exact (Kd.Q_reads' HO989.out).2.1); rintro e w12 ⟨rfl, hb⟩; refine ⟨_, rfl, ?_⟩; replace HO989 := Aside0.mk (Kd.Q_below (by (with_reducible repeat (first | apply Kd.Q_alloc | apply Kd.Q_drewN | apply Kd.Q_drew)); exact HO989.out) hb); replace HB := Aside0.mk (below_step (jZ90 HB HI983) hb); replace HI983 := Aside0.mk (IsS90.below (iZ90 HI983) hb); (try clear hb)) | (refine gC (some 21) Tryz.func74 #[.pointer (some ⟨g983, 0, none⟩), .string t992] ?_; (with_reducible refine (spec_l02Spoilt.calls k g983 t980 t990 t991 t992 t994 t995 t996 w _ ?side1 ?side2 A7.out).mono ?_); (case side1 => exact iZ90 HI983); (case side2 => exact jZ90 HB HI983); rintro e w13 ⟨rfl, hi, hb, hk⟩; refine ⟨_, rfl, ?_⟩; replace HO989 := Aside0.mk (Kd.Q_mono (Kd.Q_keep (IsS90.apartQ (show IsS90 w _ g983 t980 t990 t991 from iZ90 HI983) (by (with_reducible repeat (first | apply Kd.Q_alloc | apply Kd.Q_drewN | apply Kd.Q_drew)); exact HO989.out) (by decide)) hk (fun _ h => h.2)) (fun _ h => h.1)); replace HB := Aside0.mk (hb); replace HI983 := Aside0.mk (hi); (try clear hb)))
  go_ret
  exact ⟨by first | rfl | (simp [errW_none, errW_some] <;> rfl) | (simp [*, errW_none, errW_some] <;> rfl), jZ90 HB HI983⟩
 ·rw [if_neg c6] at H
  have c6b0 : (t984 == 0) = false := beq_eq_false_iff_ne.mpr c6
  have c6b1 : (t984 != 0) = true := bne_iff_ne.mpr c6
  obtain rfl := Option.some.inj H
  go_enter Tryz.func27, Tryz.ntmps27
  go_wp2_with (first | (refine gC (some 8) Tryz.func42 #[.slice A0 l0.length c0] ?_; (with_reducible refine (spec_l01New.calls k _ _ l0 t980 t981 t982 w _ ?side1 ?side2 ?side3 A2.out).mono ?_); (case side1 => repeat (first | (with_reducible first | exact HB.out | apply below_alloc | apply pw_below_drewN | apply below_drew1) | exact HB.out)); (case side2 => exact HR0.out); (case side3 => exact HC0.out); rintro e w14 ⟨g983, rfl, hi, hb, hb2⟩; refine ⟨_, rfl, ?_⟩; replace HB := Aside0.mk (hb); have HI983 := Aside0.mk (hi); (try clear hb)) | (refine gC (some 10) Tryz.func44 #[.pointer (some ⟨g983, 0, none⟩), .int .i64 3] ?_; (with_reducible refine (spec_l01Below.calls g983 t980 t981 t982 3 t984 t985 t986 w _ ?side1 ?side2 A3.out).mono ?_); (case side1 => exact iZ90 HI983); (case side2 => exact jZ90 HB HI983); rintro e w15 ⟨rfl, hi, hb, hk⟩; refine ⟨_, rfl, ?_⟩; replace HB := Aside0.mk (hb); replace HI983 := Aside0.mk (hi); (try clear hb)) | (refine gC (some 13) Tryz.func69 #[.pointer (some ⟨g983, 0, none⟩)] ?_; (with_reducible refine (spec_l12Any.calls k g983 t980 t985 t986 t987 t990 t991 w _ ?side1 ?side2 A4.out).mono ?_); (case side1 => exact iZ90 HI983); (case side2 => exact jZ90 HB HI983); rintro e w16 ⟨v988, rfl, ho0, hi, hb, hk⟩; refine ⟨_, rfl, ?_⟩; have HO989 := Aside0.mk (Kd.Q_lower ho0 (below_size (jZ90 HB HI983))); replace HB := Aside0.mk (hb); replace HI983 := Aside0.mk (hi); (try clear hb); (try clear ho0); obtain ⟨Ao17, co17, eo17, _⟩ := Kd.Q_slice HO989.out; subst eo17) | (refine gC (some 14) Tryz.func26 #[.agg #[.slice Ao17 t987.length co17]] ?_; (with_reducible refine (spec_CommitteeText.calls k _ _ t987 t992 t993 _ ?side1 ?side2 A5.out).mono ?_); (case side1 => exact cP ((Kd.Q_reads' HO989.out).2.2)); (case side2 => exact (Kd.Q_reads' HO989.out).2.1); rintro e w18 ⟨rfl, hb⟩; refine ⟨_, rfl, ?_⟩; replace HO989 := Aside0.mk (Kd.Q_below (by (with_reducible repeat (first | apply Kd.Q_alloc | apply Kd.Q_drewN | apply Kd.Q_drew)); exact HO989.out) hb); replace HB := Aside0.mk (below_step (jZ90 HB HI983) hb); replace HI983 := Aside0.mk (IsS90.below (iZ90 HI983) hb); (try clear hb)))
  go_ret
  exact ⟨by first | rfl | (simp [errW_none, errW_some] <;> rfl) | (simp [*, errW_none, errW_some] <;> rfl), jZ90 HB HI983⟩
def impl_FpRoot.f (k : Nat) (a0 : Int) : Option (Int × Bool) := (impl_powerMod.f k a0 3027 12107).bind fun t176 => ((impl_FpMul.f t176 t176).bind fun t177 => ((impl_FpOf.f a0).bind fun t178 => (if t177 = t178 then ((impl_FpOf.f (wrap64 (-t176))).bind fun t179 => (some (mn t176 t179, true))) else (some (0, false)))))
theorem impl_FpRoot.calls (k : Nat) (a0 : Int) (r1 : Int) (r2 : Bool) (w : World) (h : impl_FpRoot.f k a0 = some (r1, r2)) :
  Calls Tryz.prog 57 #[.int .i64 a0] w fun e w' => e = .returned (.tuple #[.int .i64 r1, .bool r2]) ∧ Below w.heap.size w w' := by
 have HB := Aside0.mk (Below.refl w.heap.size w)
 unfold impl_FpRoot.f at h
 have H := h
 clear h
 obtain ⟨t176, A2, H⟩ := oB H
 obtain ⟨t177, A3, H⟩ := oB H
 obtain ⟨t178, A4, H⟩ := oB H
 by_cases c5 : t177 = t178
 ·rw [if_pos c5] at H
  have c5b0 : (t177 == t178) = true := beq_iff_eq.mpr c5
  have c5b1 : (t177 != t178) = false := bne_eq_false_iff_eq.mpr c5
  clear c5
  obtain ⟨t179, A6, H⟩ := oB H
  obtain ⟨ji7, hji7⟩ : ∃ j_ : Int, (mn t176 t179) = j_ := ⟨_, rfl⟩
  replace H : (some (ji7, true)) = some (r1, r2) := jR hji7 H
  (try rw [hji7] at A2)
  (try rw [hji7] at A3)
  (try rw [hji7] at A4)
  (try rw [hji7] at A6)
  have hji7_ : (if t179 < t176 then t179 else t176) = ji7 := hji7
  try (have hji7n_ := hji7_; simp only [Int.ofNat_lt] at hji7n_)
  simp only [Option.some.injEq, Prod.mk.injEq] at H
  obtain ⟨rfl, rfl⟩ := H
  go_enter Tryz.func57, Tryz.ntmps57
  go_wp2_with (first | (refine gC (some 6) Tryz.func97 #[.int .i64 a0, .int .i64 3027, .int .i64 12107] ?_; (with_reducible refine (impl_powerMod.calls k a0 3027 12107 t176 _ A2.out).mono ?_); rintro e w' ⟨rfl, ⟨nd, rfl⟩⟩; refine ⟨_, rfl, ?_⟩) | (refine gC (some 9) Tryz.func88 #[.int .i64 t176, .int .i64 t176] ?_; (with_reducible refine (impl_FpMul.calls t176 t176 t177 _ A3.out).mono ?_); rintro e w' ⟨rfl, ⟨nd, rfl⟩⟩; refine ⟨_, rfl, ?_⟩) | (refine gC (some 11) Tryz.func56 #[.int .i64 a0] ?_; (with_reducible refine (impl_FpOf.calls a0 t178 _ A4.out).mono ?_); rintro e w' ⟨rfl, ⟨nd, rfl⟩⟩; refine ⟨_, rfl, ?_⟩) | (refine gC (some 16) Tryz.func56 #[.int .i64 (wrap64 (-t176))] ?_; (with_reducible refine (impl_FpOf.calls (wrap64 (-t176)) t179 _ A6.out).mono ?_); rintro e w' ⟨rfl, ⟨nd, rfl⟩⟩; refine ⟨_, rfl, ?_⟩))
  go_ret2
  exact ⟨by first | rfl | (simp [errW_none, errW_some] <;> rfl) | (simp only [← hji7]; first | rfl | (simp [errW_none, errW_some] <;> rfl)) | (simp [*, errW_none, errW_some] <;> rfl), bZ HB⟩
 ·rw [if_neg c5] at H
  have c5b0 : (t177 == t178) = false := beq_eq_false_iff_ne.mpr c5
  have c5b1 : (t177 != t178) = true := bne_iff_ne.mpr c5
  simp only [Option.some.injEq, Prod.mk.injEq] at H
  obtain ⟨rfl, rfl⟩ := H
  go_enter Tryz.func57, Tryz.ntmps57
  go_wp2_with (first | (refine gC (some 6) Tryz.func97 #[.int .i64 a0, .int .i64 3027, .int .i64 12107] ?_; (with_reducible refine (impl_powerMod.calls k a0 3027 12107 t176 _ A2.out).mono ?_); rintro e w' ⟨rfl, ⟨nd, rfl⟩⟩; refine ⟨_, rfl, ?_⟩) | (refine gC (some 9) Tryz.func88 #[.int .i64 t176, .int .i64 t176] ?_; (with_reducible refine (impl_FpMul.calls t176 t176 t177 _ A3.out).mono ?_); rintro e w' ⟨rfl, ⟨nd, rfl⟩⟩; refine ⟨_, rfl, ?_⟩) | (refine gC (some 11) Tryz.func56 #[.int .i64 a0] ?_; (with_reducible refine (impl_FpOf.calls a0 t178 _ A4.out).mono ?_); rintro e w' ⟨rfl, ⟨nd, rfl⟩⟩; refine ⟨_, rfl, ?_⟩))
  go_ret2
  exact ⟨rR, bZ HB⟩
def impl_PointNeg.f (a0_0 : Int) (a0_1 : Int) (a0_2 : Bool) : Option (Int × Int × Bool) := if a0_2 = true then (some (0, 0, true)) else ((impl_FpSub.f 0 a0_1).bind fun t999 => (some (a0_0, t999, false)))
theorem impl_PointNeg.calls (a0_0 : Int) (a0_1 : Int) (a0_2 : Bool) (r1 : Int) (r2 : Int) (r3 : Bool) (w : World) (h : impl_PointNeg.f a0_0 a0_1 a0_2 = some (r1, r2, r3)) :
  Calls Tryz.prog 124 #[.agg #[.int .i64 a0_0, .int .i64 a0_1, .bool a0_2]] w fun e w' => e = .returned (.agg #[.int .i64 r1, .int .i64 r2, .bool r3]) ∧ Below w.heap.size w w' := by
 have hu28 := Tryz.underlying28
 have HB := Aside0.mk (Below.refl w.heap.size w)
 unfold impl_PointNeg.f at h
 have H := h
 clear h
 by_cases c2 : a0_2 = true
 ·subst c2
  rw [if_pos rfl] at H
  simp only [Option.some.injEq, Prod.mk.injEq] at H
  obtain ⟨rfl, rfl, rfl⟩ := H
  go_enter Tryz.func124, Tryz.ntmps124
  go_wp2_with (first | (refine gB 1 #[.int .i64 a0_0, .int .i64 a0_1, .bool true] 28 ?_; intro gb997 hg w3 BK997 hb; have GW997 := bG HB hg; replace HB := bS HB hb; clear hb hg) | (refine gB 2 #[.int .i64 0, .int .i64 0, .bool false] 28 ?_; intro gb998 hg w4 BK998 hb; have GW998 := bG HB hg; replace HB := bS HB hb; obtain ⟨NB997_998, NB998_997⟩ := bN BK997 hg; replace BK997 := bB BK997 hb; clear hb hg; obtain ⟨hnb5, hnc5⟩ := nB NB997_998; obtain ⟨hcz6_0, hcz6_1, hcz6_2, hfz6_0, hfz6_1, hfz6_2⟩ := bK3 (w := w4) BK997; obtain ⟨hcz7_0, hcz7_1, hcz7_2, hfz7_0, hfz7_1, hfz7_2⟩ := bK3 (w := w4) BK998))
  refine rC gb998 28 #[.int .i64 0, .int .i64 0, .bool true] (bU BK998) Tryz.underlying28 ?_
  exact ⟨rR, bZ HB⟩
 ·replace c2 := Bool.eq_false_iff.mpr c2
  subst c2
  rw [if_neg (show ¬ (false = true) by decide)] at H
  obtain ⟨t999, A8, H⟩ := oB H
  simp only [Option.some.injEq, Prod.mk.injEq] at H
  obtain ⟨rfl, rfl, rfl⟩ := H
  go_enter Tryz.func124, Tryz.ntmps124
  try go_wp2_with (first | (refine gB 1 #[.int .i64 a0_0, .int .i64 a0_1, .bool false] 28 ?_; intro gb997 hg w9 BK997 hb; have GW997 := bG HB hg; replace HB := bS HB hb; clear hb hg) | (refine gB 2 #[.int .i64 0, .int .i64 0, .bool false] 28 ?_; intro gb998 hg w10 BK998 hb; have GW998 := bG HB hg; replace HB := bS HB hb; obtain ⟨NB997_998, NB998_997⟩ := bN BK997 hg; replace BK997 := bB BK997 hb; clear hb hg; obtain ⟨hnb11, hnc11⟩ := nB NB997_998; obtain ⟨hcz12_0, hcz12_1, hcz12_2, hfz12_0, hfz12_1, hfz12_2⟩ := bK3 (w := w10) BK997))
  replace BK997 := Aside0.mk (blk_drew BK997.out)
  replace BK998 := Aside0.mk (blk_drew BK998.out)
  replace HB := Aside0.mk (below_drew1 HB.out)
  refine start_ (n := 7) (S := fun w' => SQ3 w' gb997 (.int .i64 a0_0) (.int .i64 a0_1) (.bool false)) (ds := []) #[false, false, false, false, false, false, false] (by kernel_rfl) rfl rfl (bT3 BK997) (fun hHeld => ?_)
  generalize w10.drew = w13 at BK997 BK998 HB hHeld ⊢
  refine pJ 0 (some 6) ?_
  refine pJ 2 (some 8) ?_
  refine tJ 1 (some 7) hHeld ?_
  refine tJ 3 (some 9) hHeld ?_
  refine one_ (i := 4) (N := some 10) #[true, true, true, true, true, false, false] rfl rfl (by kernel_rfl) (by decide) (fun K hK => ?_)
  refine gO Tryz.func90 #[.int .i64 0, .int .i64 a0_1] ?_
  with_reducible refine (impl_FpSub.calls 0 a0_1 t999 _ A8.out).mono ?_
  rintro e w' ⟨rfl, ⟨nd, rfl⟩⟩
  refine ⟨_, rfl, ?_⟩
  refine hK.out _ _ (bT3 BK997) (fun hHeld => ?_)
  clear hK K
  refine nO (some 10) ?_
  refine pJ 5 (some 11) ?_
  refine one_ (i := 6) (N := none) #[true, true, true, true, true, true, true] rfl rfl (by kernel_rfl) (by decide) (fun K hK => ?_)
  have hs14 : w13.cell? ⟨gb998, 0, none⟩ = some (.int .i64 0) := bc BK998 0
  have hfs14 := blk_frozen BK998.out 0
  obtain ⟨hns14_0, hms14_0⟩ := nB NB997_998
  have hs15 : w13.cell? ⟨gb998, 1, none⟩ = some (.int .i64 0) := bc BK998 1
  have hfs15 := blk_frozen BK998.out 1
  obtain ⟨hns15_0, hms15_0⟩ := nB NB997_998
  have hs16 : w13.cell? ⟨gb998, 2, none⟩ = some (.bool false) := bc BK998 2
  have hfs16 := blk_frozen BK998.out 2
  obtain ⟨hns16_0, hms16_0⟩ := nB NB997_998
  refine skip_ (w1 := ?_) (by rfl) rfl ?_ ?_
  rotate_left
  ·go_simp
   rfl
  refine hK.out _ _ ⟨((cell_far (p := ⟨gb998, _, none⟩) NB997_998.out _).trans (((cell_far (p := ⟨gb998, _, none⟩) NB997_998.out _).trans (((cell_far (p := ⟨gb998, _, none⟩) NB997_998.out _).trans (hHeld.1)))))), ((cell_far (p := ⟨gb998, _, none⟩) NB997_998.out _).trans (((cell_far (p := ⟨gb998, _, none⟩) NB997_998.out _).trans (((cell_far (p := ⟨gb998, _, none⟩) NB997_998.out _).trans (hHeld.2.1)))))), ((cell_far (p := ⟨gb998, _, none⟩) NB997_998.out _).trans (((cell_far (p := ⟨gb998, _, none⟩) NB997_998.out _).trans (((cell_far (p := ⟨gb998, _, none⟩) NB997_998.out _).trans (hHeld.2.2))))))⟩ (fun hHeld => ?_)
  clear hK K
  refine done_ (by kernel_rfl) ?_
  try go_wp2
  refine rC gb998 28 #[.int .i64 a0_0, .int .i64 t999, .bool false] (bU BK998) Tryz.underlying28 ?_
  exact ⟨rR, bZ HB⟩
def impl_ReadPoint.f (k : Nat) (a0 : ByteArray) : Option (Int × Int × Bool × Bool) := if (a0.size : Int) = 3 then (if 0 < (a0.size : Int) then (if 1 < (a0.size : Int) then (if (wrap64 ((wrap64 ((wrap64 ((wrap64 (bt a0 0)) * 256)) + (wrap64 (bt a0 1)))) - 1)) < 0 then ((impl_PointText.f 0 0 true).bind fun t1002 => (if t1002.toList = a0.toList then (some (0, 0, true, true)) else (some (0, 0, false, false)))) else ((impl_curveAt.f (wrap64 ((wrap64 ((wrap64 ((wrap64 (bt a0 0)) * 256)) + (wrap64 (bt a0 1)))) - 1))).bind fun t1003 => ((impl_FpRoot.f k t1003).bind fun bt1004 => (if 2 < (a0.size : Int) then (if (Int.tmod bt1004.1 2) = (wrap64 (bt a0 2)) then ((impl_PointText.f (wrap64 ((wrap64 ((wrap64 ((wrap64 (bt a0 0)) * 256)) + (wrap64 (bt a0 1)))) - 1)) bt1004.1 false).bind fun t1006 => (if t1006.toList = a0.toList then (some (wrap64 ((wrap64 ((wrap64 ((wrap64 (bt a0 0)) * 256)) + (wrap64 (bt a0 1)))) - 1), bt1004.1, false, true)) else (some (0, 0, false, false)))) else ((impl_PointNeg.f (wrap64 ((wrap64 ((wrap64 ((wrap64 (bt a0 0)) * 256)) + (wrap64 (bt a0 1)))) - 1)) bt1004.1 false).bind fun bt1007 => ((impl_PointText.f bt1007.1 bt1007.2.1 bt1007.2.2).bind fun t1010 => (if t1010.toList = a0.toList then (some (bt1007.1, bt1007.2.1, bt1007.2.2, true)) else (some (0, 0, false, false)))))) else (none))))) else (none)) else (none)) else (some (0, 0, false, false))
def impl_ReadPoint.T3 : Bool × List (List Nat × List Nat) := (true, [([], []), ([0], [0]), ([1], [1]), ([2], [2]), ([], []), ([4], [4]), ([5], [5]), ([3, 6], [3, 6]), ([7], [7]), ([8], [8]), ([], []), ([10, 9, 0, 1, 2, 3, 4, 5, 6, 7, 8, 9, 10], [9, 10])])
def impl_ReadPoint.B3 : List Nat := [0, 1, 3, 7, 0, 16, 48, 127, 255, 511, 0, 2047]
theorem impl_ReadPoint.tab3 : rtab .any (opsOf Tryz.f75 3) = impl_ReadPoint.T3 := by kernel_rfl
theorem impl_ReadPoint.bits3 : waitsOk impl_ReadPoint.T3.2 impl_ReadPoint.B3 = true := by kernel_rfl
theorem impl_ReadPoint.calls (k : Nat) (a0 : ByteArray) (r1 : Int) (r2 : Int) (r3 : Bool) (r4 : Bool) (w : World) (h : impl_ReadPoint.f k a0 = some (r1, r2, r3, r4)) :
  Calls Tryz.prog 75 #[.string a0] w fun e w' => e = .returned (.tuple #[.agg #[.int .i64 r1, .int .i64 r2, .bool r3], .bool r4]) ∧ Below w.heap.size w w' := by
 have hu28 := Tryz.underlying28
 have HB := Aside0.mk (Below.refl w.heap.size w)
 unfold impl_ReadPoint.f at h
 have H := h
 clear h
 by_cases c2 : (a0.size : Int) = 3
 ·rw [if_pos c2] at H
  have c2b0 : ((a0.size : Int) == 3) = true := beq_iff_eq.mpr c2
  have c2b1 : ((a0.size : Int) != 3) = false := bne_eq_false_iff_eq.mpr c2
  clear c2
  by_cases c3 : 0 < (a0.size : Int)
  ·rw [if_pos c3] at H
   have c3b0 := decide_eq_true c3
   have c3b1 : decide (0 < a0.size) = true := decide_eq_true (by omega)
   clear c3
   by_cases c5 : 1 < (a0.size : Int)
   ·rw [if_pos c5] at H
    have c5b0 := decide_eq_true c5
    have c5b1 : decide (1 < a0.size) = true := decide_eq_true (by omega)
    clear c5
    by_cases c7 : (wrap64 ((wrap64 ((wrap64 ((wrap64 (bt a0 0)) * 256)) + (wrap64 (bt a0 1)))) - 1)) < 0
    ·rw [if_pos c7] at H
     have c7b0 := decide_eq_true c7
     clear c7
     obtain ⟨t1002, A8, H⟩ := oB H
     by_cases c9 : t1002.toList = a0.toList
     ·rw [if_pos c9] at H
      have c9b0 : (t1002.toList == a0.toList) = true := beq_iff_eq.mpr c9
      have c9b1 : (t1002.toList != a0.toList) = false := bne_eq_false_iff_eq.mpr c9
      clear c9
      simp only [Option.some.injEq, Prod.mk.injEq] at H
      obtain ⟨rfl, rfl, rfl, rfl⟩ := H
      go_enter Tryz.func75, Tryz.ntmps75
      try go_wp2_with (first | (refine gB 2 #[.int .i64 0, .int .i64 0, .bool false] 28 ?_; intro gb1000 hg w10 BK1000 hb; have GW1000 := bG HB hg; replace HB := bS HB hb; clear hb hg))
      replace BK1000 := Aside0.mk (blk_drew BK1000.out)
      replace HB := Aside0.mk (below_drew1 HB.out)
      have p4 : 0 ≤ (0 : Int) := (by omega)
      have q4 : 0 < a0.size := (by have : (0 : Int) < (a0.size : Int) := aQ; omega)
      have hx4 : ∀ h : 0 < a0.size, ((a0[0]'h).toNat : Int) = bt a0 0 := bt_at a0 0
      clear p4
      have qi4 : (0 < (a0.size : Int)) = True := eq_true aQ
      replace q4 := eq_true q4
      have p6 : 0 ≤ (1 : Int) := (by omega)
      have q6 : 1 < a0.size := (by have : (1 : Int) < (a0.size : Int) := aQ; omega)
      have hx6 : ∀ h : 1 < a0.size, ((a0[1]'h).toNat : Int) = bt a0 1 := bt_at a0 1
      clear p6
      have qi6 : (1 < (a0.size : Int)) = True := eq_true aQ
      replace q6 := eq_true q6
      refine start_ (n := 12) (S := fun w' => True) (ds := []) #[false, false, false, false, false, false, false, false, false, false, false, false] (by kernel_rfl) rfl rfl trivial (fun hHeld => ?_); refine with_tabW impl_ReadPoint.tab3 impl_ReadPoint.bits3 (fun HT_ HW_ => ?_)
      generalize w10.drew = w11 at BK1000 HB hHeld ⊢
      refine pI 0 (some 9) HT_.out ?_
      refine pI 4 (some 13) HT_.out ?_
      refine take_ (i := 1) (N := some 10) (v := ?_) (a' := ?_) #[true, true, false, false, true, false, false, false, false, false, false, false] rfl rfl (take_ofW HT_.out HW_.out (by kernel_rfl)) (fun _ _ _ h => h) (Or.inl ⟨by rfl, ?_⟩) hHeld ?_ ?_
      rotate_left
      ·intro w' _
       go_simp
       with_reducible rfl
      rotate_left
      ·simp only [Act.put, List.setIfInBounds_toArray, List.set_cons_zero, List.set_cons_succ, i64_w, i32_w]
       rfl
      refine pI 2 (some 11) HT_.out ?_
      refine pI 3 (some 12) HT_.out ?_
      refine take_ (i := 5) (N := some 14) (v := ?_) (a' := ?_) #[true, true, true, true, true, true, false, false, false, false, false, false] rfl rfl (take_ofW HT_.out HW_.out (by kernel_rfl)) (fun _ _ _ h => h) (Or.inl ⟨by rfl, ?_⟩) hHeld ?_ ?_
      rotate_left
      ·intro w' _
       go_simp
       with_reducible rfl
      rotate_left
      ·simp only [Act.put, List.setIfInBounds_toArray, List.set_cons_zero, List.set_cons_succ, i64_w, i32_w]
       rfl
      refine pI 6 (some 15) HT_.out ?_
      refine pI 7 (some 16) HT_.out ?_
      refine pI 8 (some 17) HT_.out ?_
      refine pI 9 (some 18) HT_.out ?_
      refine oI 10 (some 4) HT_.out (fun K hK => ?_)
      refine box_step ?hg (N := 4) ?hd (cs := #[.int .i64 0, .int .i64 0, .bool false]) (t := 28) ?hr ?_; (case hd => rfl); (case hg => rfl); (case hr => first | (go_simp; done) | (go_simp; rfl))
      intro gb1001 hg w12 hbox hb
      have BK1001 := Aside0.mk (hbox)
      have GW1001 := bG HB hg
      replace HB := bS HB hb
      have NB1000_1001 := bL BK1000 hg
      have NB1001_1000 := bR BK1000 hg
      replace BK1000 := bB BK1000 hb
      clear hb hbox hg
      refine hK.out _ _ trivial (fun hHeld => ?_)
      clear hK K
      refine nO (some 4) ?_
      refine oI 11 (none) HT_.out (fun K hK => ?_)
      have hs13 : w12.cell? ⟨gb1001, 0, none⟩ = some (.int .i64 0) := bc BK1001 0
      have hfs13 := blk_frozen BK1001.out 0
      obtain ⟨hns13_0, hms13_0⟩ := nB NB1000_1001
      have hs14 : w12.cell? ⟨gb1001, 1, none⟩ = some (.int .i64 0) := bc BK1001 1
      have hfs14 := blk_frozen BK1001.out 1
      obtain ⟨hns14_0, hms14_0⟩ := nB NB1000_1001
      have hs15 : w12.cell? ⟨gb1001, 2, none⟩ = some (.bool false) := bc BK1001 2
      have hfs15 := blk_frozen BK1001.out 2
      obtain ⟨hns15_0, hms15_0⟩ := nB NB1000_1001
      refine skip_ (w1 := ?_) (by rfl) rfl ?_ ?_
      rotate_left
      ·go_simp
       rfl
      refine hK.out _ _ trivial (fun hHeld => ?_)
      clear hK K
      refine done_ (done_of HT_.out (by kernel_rfl)) ?_
      obtain ⟨hnb16, hnc16⟩ := nB NB1001_1000
      obtain ⟨hcz17_0, hcz17_1, hcz17_2, hfz17_0, hfz17_1, hfz17_2⟩ := bK3 (w := w12) BK1001
      have q1_ : Aside0 ((((w12.setCell ⟨gb1001, 0, none⟩ (.int .i64 (wrap64 ((wrap64 ((wrap64 ((wrap64 (bt a0 0)) * 256)) + (wrap64 (bt a0 1)))) - 1)))).setCell ⟨gb1001, 1, none⟩ (.int .i64 0)).setCell ⟨gb1001, 2, none⟩ (.bool false)).heap[gb1001]? = some (.cells #[.int .i64 (wrap64 ((wrap64 ((wrap64 ((wrap64 (bt a0 0)) * 256)) + (wrap64 (bt a0 1)))) - 1)), .int .i64 0, .bool false] 28 (0, 0))) := ⟨by refine blk_put (cs := #[.int .i64 (wrap64 ((wrap64 ((wrap64 ((wrap64 (bt a0 0)) * 256)) + (wrap64 (bt a0 1)))) - 1)), .int .i64 0, .bool false]) ?_ 2 _ rfl; refine blk_put (cs := #[.int .i64 (wrap64 ((wrap64 ((wrap64 ((wrap64 (bt a0 0)) * 256)) + (wrap64 (bt a0 1)))) - 1)), .int .i64 0, .bool false]) ?_ 1 _ rfl; refine blk_put (cs := #[.int .i64 0, .int .i64 0, .bool false]) ?_ 0 _ rfl; exact BK1001.out⟩
      have q2_ : Aside0 ((((w12.setCell ⟨gb1001, 0, none⟩ (.int .i64 (wrap64 ((wrap64 ((wrap64 ((wrap64 (bt a0 0)) * 256)) + (wrap64 (bt a0 1)))) - 1)))).setCell ⟨gb1001, 1, none⟩ (.int .i64 0)).setCell ⟨gb1001, 2, none⟩ (.bool false)).heap[gb1000]? = some (.cells #[.int .i64 0, .int .i64 0, .bool false] 28 (0, 0))) := ⟨by refine blk_far ?_ NB1000_1001.out _; refine blk_far ?_ NB1000_1001.out _; refine blk_far ?_ NB1000_1001.out _; exact BK1000.out⟩
      have q3_ : Aside0 (Below w.heap.size w (((w12.setCell ⟨gb1001, 0, none⟩ (.int .i64 (wrap64 ((wrap64 ((wrap64 ((wrap64 (bt a0 0)) * 256)) + (wrap64 (bt a0 1)))) - 1)))).setCell ⟨gb1001, 1, none⟩ (.int .i64 0)).setCell ⟨gb1001, 2, none⟩ (.bool false))) := ⟨bZ HB⟩
      generalize (((w12.setCell ⟨gb1001, 0, none⟩ (.int .i64 (wrap64 ((wrap64 ((wrap64 ((wrap64 (bt a0 0)) * 256)) + (wrap64 (bt a0 1)))) - 1)))).setCell ⟨gb1001, 1, none⟩ (.int .i64 0)).setCell ⟨gb1001, 2, none⟩ (.bool false)) = wq_ at q1_ q2_ q3_ ⊢
      clear BK1001 BK1000 HB
      have BK1001 := q1_
      have BK1000 := q2_
      have HB := q3_
      clear q1_ q2_ q3_
      have hq1001_0 : wq_.cell? ⟨gb1001, 0, none⟩ = some (.int .i64 (wrap64 ((wrap64 ((wrap64 ((wrap64 (bt a0 0)) * 256)) + (wrap64 (bt a0 1)))) - 1))) := bc BK1001 0
      have hr1001_0 := blk_frozen BK1001.out 0
      have hq1001_1 : wq_.cell? ⟨gb1001, 1, none⟩ = some (.int .i64 0) := bc BK1001 1
      have hr1001_1 := blk_frozen BK1001.out 1
      have hq1001_2 : wq_.cell? ⟨gb1001, 2, none⟩ = some (.bool false) := bc BK1001 2
      have hr1001_2 := blk_frozen BK1001.out 2
      have hq1000_0 : wq_.cell? ⟨gb1000, 0, none⟩ = some (.int .i64 0) := bc BK1000 0
      have hr1000_0 := blk_frozen BK1000.out 0
      have hq1000_1 : wq_.cell? ⟨gb1000, 1, none⟩ = some (.int .i64 0) := bc BK1000 1
      have hr1000_1 := blk_frozen BK1000.out 1
      have hq1000_2 : wq_.cell? ⟨gb1000, 2, none⟩ = some (.bool false) := bc BK1000 2
      have hr1000_2 := blk_frozen BK1000.out 2
      try go_wp2_with (first | (refine gC (some 41) Tryz.func71 #[.agg #[.int .i64 0, .int .i64 0, .bool true]] ?_; (with_reducible refine (impl_PointText.calls 0 0 true t1002 _ A8.out).mono ?_); rintro e w18 ⟨rfl, hb⟩; refine ⟨_, rfl, ?_⟩; replace BK1000 := bB BK1000 hb; replace BK1001 := bV 28 #[.int .i64 0, .int .i64 0, .bool true] BK1001 hb; replace HB := bS HB hb; (try clear hb); obtain ⟨hcz19_0, hcz19_1, hcz19_2, hfz19_0, hfz19_1, hfz19_2⟩ := bK3 (w := w18) BK1001; obtain ⟨hcz20_0, hcz20_1, hcz20_2, hfz20_0, hfz20_1, hfz20_2⟩ := bK3 (w := w18) BK1000))
      refine bodyPost_ret (results_ct rfl _ _ gb1000 28 #[.int .i64 0, .int .i64 0, .bool true] (0, 0) _ rfl (bU BK1000) Tryz.underlying28 rfl (by kernel_rfl)) rfl ?_
      exact ⟨rR, bZ HB⟩
     ·rw [if_neg c9] at H
      have c9b0 : (t1002.toList == a0.toList) = false := beq_eq_false_iff_ne.mpr c9
      have c9b1 : (t1002.toList != a0.toList) = true := bne_iff_ne.mpr c9
      simp only [Option.some.injEq, Prod.mk.injEq] at H
      obtain ⟨rfl, rfl, rfl, rfl⟩ := H
      go_enter Tryz.func75, Tryz.ntmps75
      try go_wp2_with (first | (refine gB 2 #[.int .i64 0, .int .i64 0, .bool false] 28 ?_; intro gb1000 hg w21 BK1000 hb; have GW1000 := bG HB hg; replace HB := bS HB hb; clear hb hg))
      replace BK1000 := Aside0.mk (blk_drew BK1000.out)
      replace HB := Aside0.mk (below_drew1 HB.out)
      have p4 : 0 ≤ (0 : Int) := (by omega)
      have q4 : 0 < a0.size := (by have : (0 : Int) < (a0.size : Int) := aQ; omega)
      have hx4 : ∀ h : 0 < a0.size, ((a0[0]'h).toNat : Int) = bt a0 0 := bt_at a0 0
      clear p4
      have qi4 : (0 < (a0.size : Int)) = True := eq_true aQ
      replace q4 := eq_true q4
      have p6 : 0 ≤ (1 : Int) := (by omega)
      have q6 : 1 < a0.size := (by have : (1 : Int) < (a0.size : Int) := aQ; omega)
      have hx6 : ∀ h : 1 < a0.size, ((a0[1]'h).toNat : Int) = bt a0 1 := bt_at a0 1
      clear p6
      have qi6 : (1 < (a0.size : Int)) = True := eq_true aQ
      replace q6 := eq_true q6
      refine start_ (n := 12) (S := fun w' => True) (ds := []) #[false, false, false, false, false, false, false, false, false, false, false, false] (by kernel_rfl) rfl rfl trivial (fun hHeld => ?_); refine with_tabW impl_ReadPoint.tab3 impl_ReadPoint.bits3 (fun HT_ HW_ => ?_)
      generalize w21.drew = w22 at BK1000 HB hHeld ⊢
      refine pI 0 (some 9) HT_.out ?_
      refine pI 4 (some 13) HT_.out ?_
      refine take_ (i := 1) (N := some 10) (v := ?_) (a' := ?_) #[true, true, false, false, true, false, false, false, false, false, false, false] rfl rfl (take_ofW HT_.out HW_.out (by kernel_rfl)) (fun _ _ _ h => h) (Or.inl ⟨by rfl, ?_⟩) hHeld ?_ ?_
      rotate_left
      ·intro w' _
       go_simp
       with_reducible rfl
      rotate_left
      ·simp only [Act.put, List.setIfInBounds_toArray, List.set_cons_zero, List.set_cons_succ, i64_w, i32_w]
       rfl
      refine pI 2 (some 11) HT_.out ?_
      refine pI 3 (some 12) HT_.out ?_
      refine take_ (i := 5) (N := some 14) (v := ?_) (a' := ?_) #[true, true, true, true, true, true, false, false, false, false, false, false] rfl rfl (take_ofW HT_.out HW_.out (by kernel_rfl)) (fun _ _ _ h => h) (Or.inl ⟨by rfl, ?_⟩) hHeld ?_ ?_
      rotate_left
      ·intro w' _
       go_simp
       with_reducible rfl
      rotate_left
      ·simp only [Act.put, List.setIfInBounds_toArray, List.set_cons_zero, List.set_cons_succ, i64_w, i32_w]
       rfl
      refine pI 6 (some 15) HT_.out ?_
      refine pI 7 (some 16) HT_.out ?_
      refine pI 8 (some 17) HT_.out ?_
      refine pI 9 (some 18) HT_.out ?_
      refine oI 10 (some 4) HT_.out (fun K hK => ?_)
      refine box_step ?hg (N := 4) ?hd (cs := #[.int .i64 0, .int .i64 0, .bool false]) (t := 28) ?hr ?_; (case hd => rfl); (case hg => rfl); (case hr => first | (go_simp; done) | (go_simp; rfl))
      intro gb1001 hg w23 hbox hb
      have BK1001 := Aside0.mk (hbox)
      have GW1001 := bG HB hg
      replace HB := bS HB hb
      have NB1000_1001 := bL BK1000 hg
      have NB1001_1000 := bR BK1000 hg
      replace BK1000 := bB BK1000 hb
      clear hb hbox hg
      refine hK.out _ _ trivial (fun hHeld => ?_)
      clear hK K
      refine nO (some 4) ?_
      refine oI 11 (none) HT_.out (fun K hK => ?_)
      have hs24 : w23.cell? ⟨gb1001, 0, none⟩ = some (.int .i64 0) := bc BK1001 0
      have hfs24 := blk_frozen BK1001.out 0
      obtain ⟨hns24_0, hms24_0⟩ := nB NB1000_1001
      have hs25 : w23.cell? ⟨gb1001, 1, none⟩ = some (.int .i64 0) := bc BK1001 1
      have hfs25 := blk_frozen BK1001.out 1
      obtain ⟨hns25_0, hms25_0⟩ := nB NB1000_1001
      have hs26 : w23.cell? ⟨gb1001, 2, none⟩ = some (.bool false) := bc BK1001 2
      have hfs26 := blk_frozen BK1001.out 2
      obtain ⟨hns26_0, hms26_0⟩ := nB NB1000_1001
      refine skip_ (w1 := ?_) (by rfl) rfl ?_ ?_
      rotate_left
      ·go_simp
       rfl
      refine hK.out _ _ trivial (fun hHeld => ?_)
      clear hK K
      refine done_ (done_of HT_.out (by kernel_rfl)) ?_
      obtain ⟨hnb27, hnc27⟩ := nB NB1001_1000
      obtain ⟨hcz28_0, hcz28_1, hcz28_2, hfz28_0, hfz28_1, hfz28_2⟩ := bK3 (w := w23) BK1001
      have q1_ : Aside0 ((((w23.setCell ⟨gb1001, 0, none⟩ (.int .i64 (wrap64 ((wrap64 ((wrap64 ((wrap64 (bt a0 0)) * 256)) + (wrap64 (bt a0 1)))) - 1)))).setCell ⟨gb1001, 1, none⟩ (.int .i64 0)).setCell ⟨gb1001, 2, none⟩ (.bool false)).heap[gb1001]? = some (.cells #[.int .i64 (wrap64 ((wrap64 ((wrap64 ((wrap64 (bt a0 0)) * 256)) + (wrap64 (bt a0 1)))) - 1)), .int .i64 0, .bool false] 28 (0, 0))) := ⟨by refine blk_put (cs := #[.int .i64 (wrap64 ((wrap64 ((wrap64 ((wrap64 (bt a0 0)) * 256)) + (wrap64 (bt a0 1)))) - 1)), .int .i64 0, .bool false]) ?_ 2 _ rfl; refine blk_put (cs := #[.int .i64 (wrap64 ((wrap64 ((wrap64 ((wrap64 (bt a0 0)) * 256)) + (wrap64 (bt a0 1)))) - 1)), .int .i64 0, .bool false]) ?_ 1 _ rfl; refine blk_put (cs := #[.int .i64 0, .int .i64 0, .bool false]) ?_ 0 _ rfl; exact BK1001.out⟩
      have q2_ : Aside0 ((((w23.setCell ⟨gb1001, 0, none⟩ (.int .i64 (wrap64 ((wrap64 ((wrap64 ((wrap64 (bt a0 0)) * 256)) + (wrap64 (bt a0 1)))) - 1)))).setCell ⟨gb1001, 1, none⟩ (.int .i64 0)).setCell ⟨gb1001, 2, none⟩ (.bool false)).heap[gb1000]? = some (.cells #[.int .i64 0, .int .i64 0, .bool false] 28 (0, 0))) := ⟨by refine blk_far ?_ NB1000_1001.out _; refine blk_far ?_ NB1000_1001.out _; refine blk_far ?_ NB1000_1001.out _; exact BK1000.out⟩
      have q3_ : Aside0 (Below w.heap.size w (((w23.setCell ⟨gb1001, 0, none⟩ (.int .i64 (wrap64 ((wrap64 ((wrap64 ((wrap64 (bt a0 0)) * 256)) + (wrap64 (bt a0 1)))) - 1)))).setCell ⟨gb1001, 1, none⟩ (.int .i64 0)).setCell ⟨gb1001, 2, none⟩ (.bool false))) := ⟨bZ HB⟩
      generalize (((w23.setCell ⟨gb1001, 0, none⟩ (.int .i64 (wrap64 ((wrap64 ((wrap64 ((wrap64 (bt a0 0)) * 256)) + (wrap64 (bt a0 1)))) - 1)))).setCell ⟨gb1001, 1, none⟩ (.int .i64 0)).setCell ⟨gb1001, 2, none⟩ (.bool false)) = wq_ at q1_ q2_ q3_ ⊢
      clear BK1001 BK1000 HB
      have BK1001 := q1_
      have BK1000 := q2_
      have HB := q3_
      clear q1_ q2_ q3_
      have hq1001_0 : wq_.cell? ⟨gb1001, 0, none⟩ = some (.int .i64 (wrap64 ((wrap64 ((wrap64 ((wrap64 (bt a0 0)) * 256)) + (wrap64 (bt a0 1)))) - 1))) := bc BK1001 0
      have hr1001_0 := blk_frozen BK1001.out 0
      have hq1001_1 : wq_.cell? ⟨gb1001, 1, none⟩ = some (.int .i64 0) := bc BK1001 1
      have hr1001_1 := blk_frozen BK1001.out 1
      have hq1001_2 : wq_.cell? ⟨gb1001, 2, none⟩ = some (.bool false) := bc BK1001 2
      have hr1001_2 := blk_frozen BK1001.out 2
      have hq1000_0 : wq_.cell? ⟨gb1000, 0, none⟩ = some (.int .i64 0) := bc BK1000 0
      have hr1000_0 := blk_frozen BK1000.out 0
      have hq1000_1 : wq_.cell? ⟨gb1000, 1, none⟩ = some (.int .i64 0) := bc BK1000 1
      have hr1000_1 := blk_frozen BK1000.out 1
      have hq1000_2 : wq_.cell? ⟨gb1000, 2, none⟩ = some (.bool false) := bc BK1000 2
      have hr1000_2 := blk_frozen BK1000.out 2
      try go_wp2_with (first | (refine gC (some 41) Tryz.func71 #[.agg #[.int .i64 0, .int .i64 0, .bool true]] ?_; (with_reducible refine (impl_PointText.calls 0 0 true t1002 _ A8.out).mono ?_); rintro e w29 ⟨rfl, hb⟩; refine ⟨_, rfl, ?_⟩; replace BK1000 := bB BK1000 hb; replace BK1001 := bV 28 #[.int .i64 0, .int .i64 0, .bool true] BK1001 hb; replace HB := bS HB hb; (try clear hb); obtain ⟨hcz30_0, hcz30_1, hcz30_2, hfz30_0, hfz30_1, hfz30_2⟩ := bK3 (w := w29) BK1000))
      refine bodyPost_ret (results_ct rfl _ _ gb1000 28 #[.int .i64 0, .int .i64 0, .bool false] (0, 0) _ rfl (bU BK1000) Tryz.underlying28 rfl (by kernel_rfl)) rfl ?_
      exact ⟨rR, bZ HB⟩
    ·rw [if_neg c7] at H
     have c7b0 := decide_eq_false c7
     clear c7
     obtain ⟨t1003, A31, H⟩ := oB H
     obtain ⟨⟨t1004, t1005⟩, A32, H⟩ := oB H
     by_cases c33 : 2 < (a0.size : Int)
     ·rw [if_pos c33] at H
      have c33b0 := decide_eq_true c33
      have c33b1 : decide (2 < a0.size) = true := decide_eq_true (by omega)
      clear c33
      by_cases c35 : (Int.tmod t1004 2) = (wrap64 (bt a0 2))
      ·rw [if_pos c35] at H
       have c35b0 : ((Int.tmod t1004 2) == (wrap64 (bt a0 2))) = true := beq_iff_eq.mpr c35
       have c35b1 : ((Int.tmod t1004 2) != (wrap64 (bt a0 2))) = false := bne_eq_false_iff_eq.mpr c35
       clear c35
       obtain ⟨t1006, A36, H⟩ := oB H
       by_cases c37 : t1006.toList = a0.toList
       ·rw [if_pos c37] at H
        have c37b0 : (t1006.toList == a0.toList) = true := beq_iff_eq.mpr c37
        have c37b1 : (t1006.toList != a0.toList) = false := bne_eq_false_iff_eq.mpr c37
        clear c37
        simp only [Option.some.injEq, Prod.mk.injEq] at H
        obtain ⟨rfl, rfl, rfl, rfl⟩ := H
        go_enter Tryz.func75, Tryz.ntmps75
        try go_wp2_with (first | (refine gB 2 #[.int .i64 0, .int .i64 0, .bool false] 28 ?_; intro gb1000 hg w38 BK1000 hb; have GW1000 := bG HB hg; replace HB := bS HB hb; clear hb hg))
        replace BK1000 := Aside0.mk (blk_drew BK1000.out)
        replace HB := Aside0.mk (below_drew1 HB.out)
        have p4 : 0 ≤ (0 : Int) := (by omega)
        have q4 : 0 < a0.size := (by have : (0 : Int) < (a0.size : Int) := aQ; omega)
        have hx4 : ∀ h : 0 < a0.size, ((a0[0]'h).toNat : Int) = bt a0 0 := bt_at a0 0
        clear p4
        have qi4 : (0 < (a0.size : Int)) = True := eq_true aQ
        replace q4 := eq_true q4
        have p6 : 0 ≤ (1 : Int) := (by omega)
        have q6 : 1 < a0.size := (by have : (1 : Int) < (a0.size : Int) := aQ; omega)
        have hx6 : ∀ h : 1 < a0.size, ((a0[1]'h).toNat : Int) = bt a0 1 := bt_at a0 1
        clear p6
        have qi6 : (1 < (a0.size : Int)) = True := eq_true aQ
        replace q6 := eq_true q6
        refine start_ (n := 12) (S := fun w' => True) (ds := []) #[false, false, false, false, false, false, false, false, false, false, false, false] (by kernel_rfl) rfl rfl trivial (fun hHeld => ?_); refine with_tabW impl_ReadPoint.tab3 impl_ReadPoint.bits3 (fun HT_ HW_ => ?_)
        generalize w38.drew = w39 at BK1000 HB hHeld ⊢
        refine pI 0 (some 9) HT_.out ?_
        refine pI 4 (some 13) HT_.out ?_
        refine take_ (i := 1) (N := some 10) (v := ?_) (a' := ?_) #[true, true, false, false, true, false, false, false, false, false, false, false] rfl rfl (take_ofW HT_.out HW_.out (by kernel_rfl)) (fun _ _ _ h => h) (Or.inl ⟨by rfl, ?_⟩) hHeld ?_ ?_
        rotate_left
        ·intro w' _
         go_simp
         with_reducible rfl
        rotate_left
        ·simp only [Act.put, List.setIfInBounds_toArray, List.set_cons_zero, List.set_cons_succ, i64_w, i32_w]
         rfl
        refine pI 2 (some 11) HT_.out ?_
        refine pI 3 (some 12) HT_.out ?_
        refine take_ (i := 5) (N := some 14) (v := ?_) (a' := ?_) #[true, true, true, true, true, true, false, false, false, false, false, false] rfl rfl (take_ofW HT_.out HW_.out (by kernel_rfl)) (fun _ _ _ h => h) (Or.inl ⟨by rfl, ?_⟩) hHeld ?_ ?_
        rotate_left
        ·intro w' _
         go_simp
         with_reducible rfl
        rotate_left
        ·simp only [Act.put, List.setIfInBounds_toArray, List.set_cons_zero, List.set_cons_succ, i64_w, i32_w]
         rfl
        refine pI 6 (some 15) HT_.out ?_
        refine pI 7 (some 16) HT_.out ?_
        refine pI 8 (some 17) HT_.out ?_
        refine pI 9 (some 18) HT_.out ?_
        refine oI 10 (some 4) HT_.out (fun K hK => ?_)
        refine box_step ?hg (N := 4) ?hd (cs := #[.int .i64 0, .int .i64 0, .bool false]) (t := 28) ?hr ?_; (case hd => rfl); (case hg => rfl); (case hr => first | (go_simp; done) | (go_simp; rfl))
        intro gb1001 hg w40 hbox hb
        have BK1001 := Aside0.mk (hbox)
        have GW1001 := bG HB hg
        replace HB := bS HB hb
        have NB1000_1001 := bL BK1000 hg
        have NB1001_1000 := bR BK1000 hg
        replace BK1000 := bB BK1000 hb
        clear hb hbox hg
        refine hK.out _ _ trivial (fun hHeld => ?_)
        clear hK K
        refine nO (some 4) ?_
        refine oI 11 (none) HT_.out (fun K hK => ?_)
        have hs41 : w40.cell? ⟨gb1001, 0, none⟩ = some (.int .i64 0) := bc BK1001 0
        have hfs41 := blk_frozen BK1001.out 0
        obtain ⟨hns41_0, hms41_0⟩ := nB NB1000_1001
        have hs42 : w40.cell? ⟨gb1001, 1, none⟩ = some (.int .i64 0) := bc BK1001 1
        have hfs42 := blk_frozen BK1001.out 1
        obtain ⟨hns42_0, hms42_0⟩ := nB NB1000_1001
        have hs43 : w40.cell? ⟨gb1001, 2, none⟩ = some (.bool false) := bc BK1001 2
        have hfs43 := blk_frozen BK1001.out 2
        obtain ⟨hns43_0, hms43_0⟩ := nB NB1000_1001
        refine skip_ (w1 := ?_) (by rfl) rfl ?_ ?_
        rotate_left
        ·go_simp
         rfl
        refine hK.out _ _ trivial (fun hHeld => ?_)
        clear hK K
        refine done_ (done_of HT_.out (by kernel_rfl)) ?_
        obtain ⟨hnb44, hnc44⟩ := nB NB1001_1000
        obtain ⟨hcz45_0, hcz45_1, hcz45_2, hfz45_0, hfz45_1, hfz45_2⟩ := bK3 (w := w40) BK1001
        have q1_ : Aside0 ((((w40.setCell ⟨gb1001, 0, none⟩ (.int .i64 (wrap64 ((wrap64 ((wrap64 ((wrap64 (bt a0 0)) * 256)) + (wrap64 (bt a0 1)))) - 1)))).setCell ⟨gb1001, 1, none⟩ (.int .i64 0)).setCell ⟨gb1001, 2, none⟩ (.bool false)).heap[gb1001]? = some (.cells #[.int .i64 (wrap64 ((wrap64 ((wrap64 ((wrap64 (bt a0 0)) * 256)) + (wrap64 (bt a0 1)))) - 1)), .int .i64 0, .bool false] 28 (0, 0))) := ⟨by refine blk_put (cs := #[.int .i64 (wrap64 ((wrap64 ((wrap64 ((wrap64 (bt a0 0)) * 256)) + (wrap64 (bt a0 1)))) - 1)), .int .i64 0, .bool false]) ?_ 2 _ rfl; refine blk_put (cs := #[.int .i64 (wrap64 ((wrap64 ((wrap64 ((wrap64 (bt a0 0)) * 256)) + (wrap64 (bt a0 1)))) - 1)), .int .i64 0, .bool false]) ?_ 1 _ rfl; refine blk_put (cs := #[.int .i64 0, .int .i64 0, .bool false]) ?_ 0 _ rfl; exact BK1001.out⟩
        have q2_ : Aside0 ((((w40.setCell ⟨gb1001, 0, none⟩ (.int .i64 (wrap64 ((wrap64 ((wrap64 ((wrap64 (bt a0 0)) * 256)) + (wrap64 (bt a0 1)))) - 1)))).setCell ⟨gb1001, 1, none⟩ (.int .i64 0)).setCell ⟨gb1001, 2, none⟩ (.bool false)).heap[gb1000]? = some (.cells #[.int .i64 0, .int .i64 0, .bool false] 28 (0, 0))) := ⟨by refine blk_far ?_ NB1000_1001.out _; refine blk_far ?_ NB1000_1001.out _; refine blk_far ?_ NB1000_1001.out _; exact BK1000.out⟩
        have q3_ : Aside0 (Below w.heap.size w (((w40.setCell ⟨gb1001, 0, none⟩ (.int .i64 (wrap64 ((wrap64 ((wrap64 ((wrap64 (bt a0 0)) * 256)) + (wrap64 (bt a0 1)))) - 1)))).setCell ⟨gb1001, 1, none⟩ (.int .i64 0)).setCell ⟨gb1001, 2, none⟩ (.bool false))) := ⟨bZ HB⟩
        generalize (((w40.setCell ⟨gb1001, 0, none⟩ (.int .i64 (wrap64 ((wrap64 ((wrap64 ((wrap64 (bt a0 0)) * 256)) + (wrap64 (bt a0 1)))) - 1)))).setCell ⟨gb1001, 1, none⟩ (.int .i64 0)).setCell ⟨gb1001, 2, none⟩ (.bool false)) = wq_ at q1_ q2_ q3_ ⊢
        clear BK1001 BK1000 HB
        have BK1001 := q1_
        have BK1000 := q2_
        have HB := q3_
        clear q1_ q2_ q3_
        have hq1001_0 : wq_.cell? ⟨gb1001, 0, none⟩ = some (.int .i64 (wrap64 ((wrap64 ((wrap64 ((wrap64 (bt a0 0)) * 256)) + (wrap64 (bt a0 1)))) - 1))) := bc BK1001 0
        have hr1001_0 := blk_frozen BK1001.out 0
        have hq1001_1 : wq_.cell? ⟨gb1001, 1, none⟩ = some (.int .i64 0) := bc BK1001 1
        have hr1001_1 := blk_frozen BK1001.out 1
        have hq1001_2 : wq_.cell? ⟨gb1001, 2, none⟩ = some (.bool false) := bc BK1001 2
        have hr1001_2 := blk_frozen BK1001.out 2
        have hq1000_0 : wq_.cell? ⟨gb1000, 0, none⟩ = some (.int .i64 0) := bc BK1000 0
        have hr1000_0 := blk_frozen BK1000.out 0
        have hq1000_1 : wq_.cell? ⟨gb1000, 1, none⟩ = some (.int .i64 0) := bc BK1000 1
        have hr1000_1 := blk_frozen BK1000.out 1
        have hq1000_2 : wq_.cell? ⟨gb1000, 2, none⟩ = some (.bool false) := bc BK1000 2
        have hr1000_2 := blk_frozen BK1000.out 2
        try go_wp2_with (first | (refine gC (some 26) Tryz.func58 #[.int .i64 (wrap64 ((wrap64 ((wrap64 ((wrap64 (bt a0 0)) * 256)) + (wrap64 (bt a0 1)))) - 1))] ?_; (with_reducible refine (impl_curveAt.calls (wrap64 ((wrap64 ((wrap64 ((wrap64 (bt a0 0)) * 256)) + (wrap64 (bt a0 1)))) - 1)) t1003 _ A31.out).mono ?_); rintro e w' ⟨rfl, ⟨nd, rfl⟩⟩; refine ⟨_, rfl, ?_⟩) | (refine gC (some 27) Tryz.func57 #[.int .i64 t1003] ?_; (with_reducible refine (impl_FpRoot.calls k t1003 t1004 t1005 _ A32.out).mono ?_); rintro e w46 ⟨rfl, hb⟩; refine ⟨_, rfl, ?_⟩; replace BK1000 := bB BK1000 hb; replace BK1001 := bB BK1001 hb; replace HB := bS HB hb; (try clear hb); obtain ⟨hcz47_0, hcz47_1, hcz47_2, hfz47_0, hfz47_1, hfz47_2⟩ := bK3 (w := w46) BK1001))
        obtain ⟨w48, hW_⟩ : ∃ W_ : World, W_ = (w46.setCell ⟨gb1001, 1, none⟩ (.int .i64 t1004)) := ⟨_, rfl⟩
        replace BK1000 := bW hW_ BK1000
        replace BK1001 := bX hW_ 28 #[.int .i64 (wrap64 ((wrap64 ((wrap64 ((wrap64 (bt a0 0)) * 256)) + (wrap64 (bt a0 1)))) - 1)), .int .i64 t1004, .bool false] BK1001
        replace HB := zW hW_ HB
        rw [← hW_]
        clear hW_
        replace BK1000 := Aside0.mk (blk_drew BK1000.out)
        replace BK1001 := Aside0.mk (blk_drew BK1001.out)
        replace HB := Aside0.mk (below_drew1 HB.out)
        have p34 : 0 ≤ (2 : Int) := (by omega)
        have q34 : 2 < a0.size := (by have : (2 : Int) < (a0.size : Int) := aQ; omega)
        have hx34 : ∀ h : 2 < a0.size, ((a0[2]'h).toNat : Int) = bt a0 2 := bt_at a0 2
        clear p34
        have qi34 : (2 < (a0.size : Int)) = True := eq_true aQ
        replace q34 := eq_true q34
        refine start_ (n := 7) (S := fun w' => w'.cell? ⟨gb1001, 0, none⟩ = some (.int .i64 (wrap64 ((wrap64 ((wrap64 ((wrap64 (bt a0 0)) * 256)) + (wrap64 (bt a0 1)))) - 1))) ∧ w'.cell? ⟨gb1001, 1, none⟩ = some (.int .i64 t1004) ∧ w'.cell? ⟨gb1001, 2, none⟩ = some (.bool false)) (ds := []) #[false, false, false, false, false, false, false] (by kernel_rfl) rfl rfl (bT3 BK1001) (fun hHeld => ?_)
        generalize w48.drew = w49 at BK1000 BK1001 HB hHeld ⊢
        refine pJ 0 (some 31) ?_
        refine pJ 3 (some 34) ?_
        refine tJ 1 (some 32) hHeld ?_
        refine pJ 2 (some 33) ?_
        refine tJ 4 (some 35) hHeld ?_
        refine pJ 5 (some 36) ?_
        refine pJ 6 (some 37) ?_
        refine done_ (by kernel_rfl) ?_
        obtain ⟨hcz50_0, hcz50_1, hcz50_2, hfz50_0, hfz50_1, hfz50_2⟩ := bK3 (w := w49) BK1001
        try go_wp2_with (first | (refine gC (some 41) Tryz.func71 #[.agg #[.int .i64 (wrap64 ((wrap64 ((wrap64 ((wrap64 (bt a0 0)) * 256)) + (wrap64 (bt a0 1)))) - 1)), .int .i64 t1004, .bool false]] ?_; (with_reducible refine (impl_PointText.calls (wrap64 ((wrap64 ((wrap64 ((wrap64 (bt a0 0)) * 256)) + (wrap64 (bt a0 1)))) - 1)) t1004 false t1006 _ A36.out).mono ?_); rintro e w51 ⟨rfl, hb⟩; refine ⟨_, rfl, ?_⟩; replace BK1000 := bB BK1000 hb; replace BK1001 := bB BK1001 hb; replace HB := bS HB hb; (try clear hb); obtain ⟨hcz52_0, hcz52_1, hcz52_2, hfz52_0, hfz52_1, hfz52_2⟩ := bK3 (w := w51) BK1001; obtain ⟨hcz53_0, hcz53_1, hcz53_2, hfz53_0, hfz53_1, hfz53_2⟩ := bK3 (w := w51) BK1000))
        refine bodyPost_ret (results_ct rfl _ _ gb1000 28 #[.int .i64 (wrap64 ((wrap64 ((wrap64 ((wrap64 (bt a0 0)) * 256)) + (wrap64 (bt a0 1)))) - 1)), .int .i64 t1004, .bool false] (0, 0) _ rfl (bU BK1000) Tryz.underlying28 rfl (by kernel_rfl)) rfl ?_
        exact ⟨rR, bZ HB⟩
       ·rw [if_neg c37] at H
        have c37b0 : (t1006.toList == a0.toList) = false := beq_eq_false_iff_ne.mpr c37
        have c37b1 : (t1006.toList != a0.toList) = true := bne_iff_ne.mpr c37
        simp only [Option.some.injEq, Prod.mk.injEq] at H
        obtain ⟨rfl, rfl, rfl, rfl⟩ := H
        go_enter Tryz.func75, Tryz.ntmps75
        try go_wp2_with (first | (refine gB 2 #[.int .i64 0, .int .i64 0, .bool false] 28 ?_; intro gb1000 hg w54 BK1000 hb; have GW1000 := bG HB hg; replace HB := bS HB hb; clear hb hg))
        replace BK1000 := Aside0.mk (blk_drew BK1000.out)
        replace HB := Aside0.mk (below_drew1 HB.out)
        have p4 : 0 ≤ (0 : Int) := (by omega)
        have q4 : 0 < a0.size := (by have : (0 : Int) < (a0.size : Int) := aQ; omega)
        have hx4 : ∀ h : 0 < a0.size, ((a0[0]'h).toNat : Int) = bt a0 0 := bt_at a0 0
        clear p4
        have qi4 : (0 < (a0.size : Int)) = True := eq_true aQ
        replace q4 := eq_true q4
        have p6 : 0 ≤ (1 : Int) := (by omega)
        have q6 : 1 < a0.size := (by have : (1 : Int) < (a0.size : Int) := aQ; omega)
        have hx6 : ∀ h : 1 < a0.size, ((a0[1]'h).toNat : Int) = bt a0 1 := bt_at a0 1
        clear p6
        have qi6 : (1 < (a0.size : Int)) = True := eq_true aQ
        replace q6 := eq_true q6
        refine start_ (n := 12) (S := fun w' => True) (ds := []) #[false, false, false, false, false, false, false, false, false, false, false, false] (by kernel_rfl) rfl rfl trivial (fun hHeld => ?_); refine with_tabW impl_ReadPoint.tab3 impl_ReadPoint.bits3 (fun HT_ HW_ => ?_)
        generalize w54.drew = w55 at BK1000 HB hHeld ⊢
        refine pI 0 (some 9) HT_.out ?_
        refine pI 4 (some 13) HT_.out ?_
        refine take_ (i := 1) (N := some 10) (v := ?_) (a' := ?_) #[true, true, false, false, true, false, false, false, false, false, false, false] rfl rfl (take_ofW HT_.out HW_.out (by kernel_rfl)) (fun _ _ _ h => h) (Or.inl ⟨by rfl, ?_⟩) hHeld ?_ ?_
        rotate_left
        ·intro w' _
         go_simp
         with_reducible rfl
        rotate_left
        ·simp only [Act.put, List.setIfInBounds_toArray, List.set_cons_zero, List.set_cons_succ, i64_w, i32_w]
         rfl
        refine pI 2 (some 11) HT_.out ?_
        refine pI 3 (some 12) HT_.out ?_
        refine take_ (i := 5) (N := some 14) (v := ?_) (a' := ?_) #[true, true, true, true, true, true, false, false, false, false, false, false] rfl rfl (take_ofW HT_.out HW_.out (by kernel_rfl)) (fun _ _ _ h => h) (Or.inl ⟨by rfl, ?_⟩) hHeld ?_ ?_
        rotate_left
        ·intro w' _
         go_simp
         with_reducible rfl
        rotate_left
        ·simp only [Act.put, List.setIfInBounds_toArray, List.set_cons_zero, List.set_cons_succ, i64_w, i32_w]
         rfl
        refine pI 6 (some 15) HT_.out ?_
        refine pI 7 (some 16) HT_.out ?_
        refine pI 8 (some 17) HT_.out ?_
        refine pI 9 (some 18) HT_.out ?_
        refine oI 10 (some 4) HT_.out (fun K hK => ?_)
        refine box_step ?hg (N := 4) ?hd (cs := #[.int .i64 0, .int .i64 0, .bool false]) (t := 28) ?hr ?_; (case hd => rfl); (case hg => rfl); (case hr => first | (go_simp; done) | (go_simp; rfl))
        intro gb1001 hg w56 hbox hb
        have BK1001 := Aside0.mk (hbox)
        have GW1001 := bG HB hg
        replace HB := bS HB hb
        have NB1000_1001 := bL BK1000 hg
        have NB1001_1000 := bR BK1000 hg
        replace BK1000 := bB BK1000 hb
        clear hb hbox hg
        refine hK.out _ _ trivial (fun hHeld => ?_)
        clear hK K
        refine nO (some 4) ?_
        refine oI 11 (none) HT_.out (fun K hK => ?_)
        have hs57 : w56.cell? ⟨gb1001, 0, none⟩ = some (.int .i64 0) := bc BK1001 0
        have hfs57 := blk_frozen BK1001.out 0
        obtain ⟨hns57_0, hms57_0⟩ := nB NB1000_1001
        have hs58 : w56.cell? ⟨gb1001, 1, none⟩ = some (.int .i64 0) := bc BK1001 1
        have hfs58 := blk_frozen BK1001.out 1
        obtain ⟨hns58_0, hms58_0⟩ := nB NB1000_1001
        have hs59 : w56.cell? ⟨gb1001, 2, none⟩ = some (.bool false) := bc BK1001 2
        have hfs59 := blk_frozen BK1001.out 2
        obtain ⟨hns59_0, hms59_0⟩ := nB NB1000_1001
        refine skip_ (w1 := ?_) (by rfl) rfl ?_ ?_
        rotate_left
        ·go_simp
         rfl
        refine hK.out _ _ trivial (fun hHeld => ?_)
        clear hK K
        refine done_ (done_of HT_.out (by kernel_rfl)) ?_
        obtain ⟨hnb60, hnc60⟩ := nB NB1001_1000
        obtain ⟨hcz61_0, hcz61_1, hcz61_2, hfz61_0, hfz61_1, hfz61_2⟩ := bK3 (w := w56) BK1001
        have q1_ : Aside0 ((((w56.setCell ⟨gb1001, 0, none⟩ (.int .i64 (wrap64 ((wrap64 ((wrap64 ((wrap64 (bt a0 0)) * 256)) + (wrap64 (bt a0 1)))) - 1)))).setCell ⟨gb1001, 1, none⟩ (.int .i64 0)).setCell ⟨gb1001, 2, none⟩ (.bool false)).heap[gb1001]? = some (.cells #[.int .i64 (wrap64 ((wrap64 ((wrap64 ((wrap64 (bt a0 0)) * 256)) + (wrap64 (bt a0 1)))) - 1)), .int .i64 0, .bool false] 28 (0, 0))) := ⟨by refine blk_put (cs := #[.int .i64 (wrap64 ((wrap64 ((wrap64 ((wrap64 (bt a0 0)) * 256)) + (wrap64 (bt a0 1)))) - 1)), .int .i64 0, .bool false]) ?_ 2 _ rfl; refine blk_put (cs := #[.int .i64 (wrap64 ((wrap64 ((wrap64 ((wrap64 (bt a0 0)) * 256)) + (wrap64 (bt a0 1)))) - 1)), .int .i64 0, .bool false]) ?_ 1 _ rfl; refine blk_put (cs := #[.int .i64 0, .int .i64 0, .bool false]) ?_ 0 _ rfl; exact BK1001.out⟩
        have q2_ : Aside0 ((((w56.setCell ⟨gb1001, 0, none⟩ (.int .i64 (wrap64 ((wrap64 ((wrap64 ((wrap64 (bt a0 0)) * 256)) + (wrap64 (bt a0 1)))) - 1)))).setCell ⟨gb1001, 1, none⟩ (.int .i64 0)).setCell ⟨gb1001, 2, none⟩ (.bool false)).heap[gb1000]? = some (.cells #[.int .i64 0, .int .i64 0, .bool false] 28 (0, 0))) := ⟨by refine blk_far ?_ NB1000_1001.out _; refine blk_far ?_ NB1000_1001.out _; refine blk_far ?_ NB1000_1001.out _; exact BK1000.out⟩
        have q3_ : Aside0 (Below w.heap.size w (((w56.setCell ⟨gb1001, 0, none⟩ (.int .i64 (wrap64 ((wrap64 ((wrap64 ((wrap64 (bt a0 0)) * 256)) + (wrap64 (bt a0 1)))) - 1)))).setCell ⟨gb1001, 1, none⟩ (.int .i64 0)).setCell ⟨gb1001, 2, none⟩ (.bool false))) := ⟨bZ HB⟩
        generalize (((w56.setCell ⟨gb1001, 0, none⟩ (.int .i64 (wrap64 ((wrap64 ((wrap64 ((wrap64 (bt a0 0)) * 256)) + (wrap64 (bt a0 1)))) - 1)))).setCell ⟨gb1001, 1, none⟩ (.int .i64 0)).setCell ⟨gb1001, 2, none⟩ (.bool false)) = wq_ at q1_ q2_ q3_ ⊢
        clear BK1001 BK1000 HB
        have BK1001 := q1_
        have BK1000 := q2_
        have HB := q3_
        clear q1_ q2_ q3_
        have hq1001_0 : wq_.cell? ⟨gb1001, 0, none⟩ = some (.int .i64 (wrap64 ((wrap64 ((wrap64 ((wrap64 (bt a0 0)) * 256)) + (wrap64 (bt a0 1)))) - 1))) := bc BK1001 0
        have hr1001_0 := blk_frozen BK1001.out 0
        have hq1001_1 : wq_.cell? ⟨gb1001, 1, none⟩ = some (.int .i64 0) := bc BK1001 1
        have hr1001_1 := blk_frozen BK1001.out 1
        have hq1001_2 : wq_.cell? ⟨gb1001, 2, none⟩ = some (.bool false) := bc BK1001 2
        have hr1001_2 := blk_frozen BK1001.out 2
        have hq1000_0 : wq_.cell? ⟨gb1000, 0, none⟩ = some (.int .i64 0) := bc BK1000 0
        have hr1000_0 := blk_frozen BK1000.out 0
        have hq1000_1 : wq_.cell? ⟨gb1000, 1, none⟩ = some (.int .i64 0) := bc BK1000 1
        have hr1000_1 := blk_frozen BK1000.out 1
        have hq1000_2 : wq_.cell? ⟨gb1000, 2, none⟩ = some (.bool false) := bc BK1000 2
        have hr1000_2 := blk_frozen BK1000.out 2
        try go_wp2_with (first | (refine gC (some 26) Tryz.func58 #[.int .i64 (wrap64 ((wrap64 ((wrap64 ((wrap64 (bt a0 0)) * 256)) + (wrap64 (bt a0 1)))) - 1))] ?_; (with_reducible refine (impl_curveAt.calls (wrap64 ((wrap64 ((wrap64 ((wrap64 (bt a0 0)) * 256)) + (wrap64 (bt a0 1)))) - 1)) t1003 _ A31.out).mono ?_); rintro e w' ⟨rfl, ⟨nd, rfl⟩⟩; refine ⟨_, rfl, ?_⟩) | (refine gC (some 27) Tryz.func57 #[.int .i64 t1003] ?_; (with_reducible refine (impl_FpRoot.calls k t1003 t1004 t1005 _ A32.out).mono ?_); rintro e w62 ⟨rfl, hb⟩; refine ⟨_, rfl, ?_⟩; replace BK1000 := bB BK1000 hb; replace BK1001 := bB BK1001 hb; replace HB := bS HB hb; (try clear hb); obtain ⟨hcz63_0, hcz63_1, hcz63_2, hfz63_0, hfz63_1, hfz63_2⟩ := bK3 (w := w62) BK1001))
        obtain ⟨w64, hW_⟩ : ∃ W_ : World, W_ = (w62.setCell ⟨gb1001, 1, none⟩ (.int .i64 t1004)) := ⟨_, rfl⟩
        replace BK1000 := bW hW_ BK1000
        replace BK1001 := bX hW_ 28 #[.int .i64 (wrap64 ((wrap64 ((wrap64 ((wrap64 (bt a0 0)) * 256)) + (wrap64 (bt a0 1)))) - 1)), .int .i64 t1004, .bool false] BK1001
        replace HB := zW hW_ HB
        rw [← hW_]
        clear hW_
        replace BK1000 := Aside0.mk (blk_drew BK1000.out)
        replace BK1001 := Aside0.mk (blk_drew BK1001.out)
        replace HB := Aside0.mk (below_drew1 HB.out)
        have p34 : 0 ≤ (2 : Int) := (by omega)
        have q34 : 2 < a0.size := (by have : (2 : Int) < (a0.size : Int) := aQ; omega)
        have hx34 : ∀ h : 2 < a0.size, ((a0[2]'h).toNat : Int) = bt a0 2 := bt_at a0 2
        clear p34
        have qi34 : (2 < (a0.size : Int)) = True := eq_true aQ
        replace q34 := eq_true q34
        refine start_ (n := 7) (S := fun w' => w'.cell? ⟨gb1001, 0, none⟩ = some (.int .i64 (wrap64 ((wrap64 ((wrap64 ((wrap64 (bt a0 0)) * 256)) + (wrap64 (bt a0 1)))) - 1))) ∧ w'.cell? ⟨gb1001, 1, none⟩ = some (.int .i64 t1004) ∧ w'.cell? ⟨gb1001, 2, none⟩ = some (.bool false)) (ds := []) #[false, false, false, false, false, false, false] (by kernel_rfl) rfl rfl (bT3 BK1001) (fun hHeld => ?_)
        generalize w64.drew = w65 at BK1000 BK1001 HB hHeld ⊢
        refine pJ 0 (some 31) ?_
        refine pJ 3 (some 34) ?_
        refine tJ 1 (some 32) hHeld ?_
        refine pJ 2 (some 33) ?_
        refine tJ 4 (some 35) hHeld ?_
        refine pJ 5 (some 36) ?_
        refine pJ 6 (some 37) ?_
        refine done_ (by kernel_rfl) ?_
        obtain ⟨hcz66_0, hcz66_1, hcz66_2, hfz66_0, hfz66_1, hfz66_2⟩ := bK3 (w := w65) BK1001
        try go_wp2_with (first | (refine gC (some 41) Tryz.func71 #[.agg #[.int .i64 (wrap64 ((wrap64 ((wrap64 ((wrap64 (bt a0 0)) * 256)) + (wrap64 (bt a0 1)))) - 1)), .int .i64 t1004, .bool false]] ?_; (with_reducible refine (impl_PointText.calls (wrap64 ((wrap64 ((wrap64 ((wrap64 (bt a0 0)) * 256)) + (wrap64 (bt a0 1)))) - 1)) t1004 false t1006 _ A36.out).mono ?_); rintro e w67 ⟨rfl, hb⟩; refine ⟨_, rfl, ?_⟩; replace BK1000 := bB BK1000 hb; replace BK1001 := bB BK1001 hb; replace HB := bS HB hb; (try clear hb); obtain ⟨hcz68_0, hcz68_1, hcz68_2, hfz68_0, hfz68_1, hfz68_2⟩ := bK3 (w := w67) BK1000))
        refine bodyPost_ret (results_ct rfl _ _ gb1000 28 #[.int .i64 0, .int .i64 0, .bool false] (0, 0) _ rfl (bU BK1000) Tryz.underlying28 rfl (by kernel_rfl)) rfl ?_
        exact ⟨rR, bZ HB⟩
      ·rw [if_neg c35] at H
       have c35b0 : ((Int.tmod t1004 2) == (wrap64 (bt a0 2))) = false := beq_eq_false_iff_ne.mpr c35
       have c35b1 : ((Int.tmod t1004 2) != (wrap64 (bt a0 2))) = true := bne_iff_ne.mpr c35
       obtain ⟨⟨t1007, t1008, t1009⟩, A69, H⟩ := oB H
       obtain ⟨t1010, A70, H⟩ := oB H
       by_cases c71 : t1010.toList = a0.toList
       ·rw [if_pos c71] at H
        have c71b0 : (t1010.toList == a0.toList) = true := beq_iff_eq.mpr c71
        have c71b1 : (t1010.toList != a0.toList) = false := bne_eq_false_iff_eq.mpr c71
        clear c71
        simp only [Option.some.injEq, Prod.mk.injEq] at H
        obtain ⟨rfl, rfl, rfl, rfl⟩ := H
        go_enter Tryz.func75, Tryz.ntmps75
        try go_wp2_with (first | (refine gB 2 #[.int .i64 0, .int .i64 0, .bool false] 28 ?_; intro gb1000 hg w72 BK1000 hb; have GW1000 := bG HB hg; replace HB := bS HB hb; clear hb hg))
        replace BK1000 := Aside0.mk (blk_drew BK1000.out)
        replace HB := Aside0.mk (below_drew1 HB.out)
        have p4 : 0 ≤ (0 : Int) := (by omega)
        have q4 : 0 < a0.size := (by have : (0 : Int) < (a0.size : Int) := aQ; omega)
        have hx4 : ∀ h : 0 < a0.size, ((a0[0]'h).toNat : Int) = bt a0 0 := bt_at a0 0
        clear p4
        have qi4 : (0 < (a0.size : Int)) = True := eq_true aQ
        replace q4 := eq_true q4
        have p6 : 0 ≤ (1 : Int) := (by omega)
        have q6 : 1 < a0.size := (by have : (1 : Int) < (a0.size : Int) := aQ; omega)
        have hx6 : ∀ h : 1 < a0.size, ((a0[1]'h).toNat : Int) = bt a0 1 := bt_at a0 1
        clear p6
        have qi6 : (1 < (a0.size : Int)) = True := eq_true aQ
        replace q6 := eq_true q6
        refine start_ (n := 12) (S := fun w' => True) (ds := []) #[false, false, false, false, false, false, false, false, false, false, false, false] (by kernel_rfl) rfl rfl trivial (fun hHeld => ?_); refine with_tabW impl_ReadPoint.tab3 impl_ReadPoint.bits3 (fun HT_ HW_ => ?_)
        generalize w72.drew = w73 at BK1000 HB hHeld ⊢
        refine pI 0 (some 9) HT_.out ?_
        refine pI 4 (some 13) HT_.out ?_
        refine take_ (i := 1) (N := some 10) (v := ?_) (a' := ?_) #[true, true, false, false, true, false, false, false, false, false, false, false] rfl rfl (take_ofW HT_.out HW_.out (by kernel_rfl)) (fun _ _ _ h => h) (Or.inl ⟨by rfl, ?_⟩) hHeld ?_ ?_
        rotate_left
        ·intro w' _
         go_simp
         with_reducible rfl
        rotate_left
        ·simp only [Act.put, List.setIfInBounds_toArray, List.set_cons_zero, List.set_cons_succ, i64_w, i32_w]
         rfl
        refine pI 2 (some 11) HT_.out ?_
        refine pI 3 (some 12) HT_.out ?_
        refine take_ (i := 5) (N := some 14) (v := ?_) (a' := ?_) #[true, true, true, true, true, true, false, false, false, false, false, false] rfl rfl (take_ofW HT_.out HW_.out (by kernel_rfl)) (fun _ _ _ h => h) (Or.inl ⟨by rfl, ?_⟩) hHeld ?_ ?_
        rotate_left
        ·intro w' _
         go_simp
         with_reducible rfl
        rotate_left
        ·simp only [Act.put, List.setIfInBounds_toArray, List.set_cons_zero, List.set_cons_succ, i64_w, i32_w]
         rfl
        refine pI 6 (some 15) HT_.out ?_
        refine pI 7 (some 16) HT_.out ?_
        refine pI 8 (some 17) HT_.out ?_
        refine pI 9 (some 18) HT_.out ?_
        refine oI 10 (some 4) HT_.out (fun K hK => ?_)
        refine box_step ?hg (N := 4) ?hd (cs := #[.int .i64 0, .int .i64 0, .bool false]) (t := 28) ?hr ?_; (case hd => rfl); (case hg => rfl); (case hr => first | (go_simp; done) | (go_simp; rfl))
        intro gb1001 hg w74 hbox hb
        have BK1001 := Aside0.mk (hbox)
        have GW1001 := bG HB hg
        replace HB := bS HB hb
        have NB1000_1001 := bL BK1000 hg
        have NB1001_1000 := bR BK1000 hg
        replace BK1000 := bB BK1000 hb
        clear hb hbox hg
        refine hK.out _ _ trivial (fun hHeld => ?_)
        clear hK K
        refine nO (some 4) ?_
        refine oI 11 (none) HT_.out (fun K hK => ?_)
        have hs75 : w74.cell? ⟨gb1001, 0, none⟩ = some (.int .i64 0) := bc BK1001 0
        have hfs75 := blk_frozen BK1001.out 0
        obtain ⟨hns75_0, hms75_0⟩ := nB NB1000_1001
        have hs76 : w74.cell? ⟨gb1001, 1, none⟩ = some (.int .i64 0) := bc BK1001 1
        have hfs76 := blk_frozen BK1001.out 1
        obtain ⟨hns76_0, hms76_0⟩ := nB NB1000_1001
        have hs77 : w74.cell? ⟨gb1001, 2, none⟩ = some (.bool false) := bc BK1001 2
        have hfs77 := blk_frozen BK1001.out 2
        obtain ⟨hns77_0, hms77_0⟩ := nB NB1000_1001
        refine skip_ (w1 := ?_) (by rfl) rfl ?_ ?_
        rotate_left
        ·go_simp
         rfl
        refine hK.out _ _ trivial (fun hHeld => ?_)
        clear hK K
        refine done_ (done_of HT_.out (by kernel_rfl)) ?_
        obtain ⟨hnb78, hnc78⟩ := nB NB1001_1000
        obtain ⟨hcz79_0, hcz79_1, hcz79_2, hfz79_0, hfz79_1, hfz79_2⟩ := bK3 (w := w74) BK1001
        have q1_ : Aside0 ((((w74.setCell ⟨gb1001, 0, none⟩ (.int .i64 (wrap64 ((wrap64 ((wrap64 ((wrap64 (bt a0 0)) * 256)) + (wrap64 (bt a0 1)))) - 1)))).setCell ⟨gb1001, 1, none⟩ (.int .i64 0)).setCell ⟨gb1001, 2, none⟩ (.bool false)).heap[gb1001]? = some (.cells #[.int .i64 (wrap64 ((wrap64 ((wrap64 ((wrap64 (bt a0 0)) * 256)) + (wrap64 (bt a0 1)))) - 1)), .int .i64 0, .bool false] 28 (0, 0))) := ⟨by refine blk_put (cs := #[.int .i64 (wrap64 ((wrap64 ((wrap64 ((wrap64 (bt a0 0)) * 256)) + (wrap64 (bt a0 1)))) - 1)), .int .i64 0, .bool false]) ?_ 2 _ rfl; refine blk_put (cs := #[.int .i64 (wrap64 ((wrap64 ((wrap64 ((wrap64 (bt a0 0)) * 256)) + (wrap64 (bt a0 1)))) - 1)), .int .i64 0, .bool false]) ?_ 1 _ rfl; refine blk_put (cs := #[.int .i64 0, .int .i64 0, .bool false]) ?_ 0 _ rfl; exact BK1001.out⟩
        have q2_ : Aside0 ((((w74.setCell ⟨gb1001, 0, none⟩ (.int .i64 (wrap64 ((wrap64 ((wrap64 ((wrap64 (bt a0 0)) * 256)) + (wrap64 (bt a0 1)))) - 1)))).setCell ⟨gb1001, 1, none⟩ (.int .i64 0)).setCell ⟨gb1001, 2, none⟩ (.bool false)).heap[gb1000]? = some (.cells #[.int .i64 0, .int .i64 0, .bool false] 28 (0, 0))) := ⟨by refine blk_far ?_ NB1000_1001.out _; refine blk_far ?_ NB1000_1001.out _; refine blk_far ?_ NB1000_1001.out _; exact BK1000.out⟩
        have q3_ : Aside0 (Below w.heap.size w (((w74.setCell ⟨gb1001, 0, none⟩ (.int .i64 (wrap64 ((wrap64 ((wrap64 ((wrap64 (bt a0 0)) * 256)) + (wrap64 (bt a0 1)))) - 1)))).setCell ⟨gb1001, 1, none⟩ (.int .i64 0)).setCell ⟨gb1001, 2, none⟩ (.bool false))) := ⟨bZ HB⟩
        generalize (((w74.setCell ⟨gb1001, 0, none⟩ (.int .i64 (wrap64 ((wrap64 ((wrap64 ((wrap64 (bt a0 0)) * 256)) + (wrap64 (bt a0 1)))) - 1)))).setCell ⟨gb1001, 1, none⟩ (.int .i64 0)).setCell ⟨gb1001, 2, none⟩ (.bool false)) = wq_ at q1_ q2_ q3_ ⊢
        clear BK1001 BK1000 HB
        have BK1001 := q1_
        have BK1000 := q2_
        have HB := q3_
        clear q1_ q2_ q3_
        have hq1001_0 : wq_.cell? ⟨gb1001, 0, none⟩ = some (.int .i64 (wrap64 ((wrap64 ((wrap64 ((wrap64 (bt a0 0)) * 256)) + (wrap64 (bt a0 1)))) - 1))) := bc BK1001 0
        have hr1001_0 := blk_frozen BK1001.out 0
        have hq1001_1 : wq_.cell? ⟨gb1001, 1, none⟩ = some (.int .i64 0) := bc BK1001 1
        have hr1001_1 := blk_frozen BK1001.out 1
        have hq1001_2 : wq_.cell? ⟨gb1001, 2, none⟩ = some (.bool false) := bc BK1001 2
        have hr1001_2 := blk_frozen BK1001.out 2
        have hq1000_0 : wq_.cell? ⟨gb1000, 0, none⟩ = some (.int .i64 0) := bc BK1000 0
        have hr1000_0 := blk_frozen BK1000.out 0
        have hq1000_1 : wq_.cell? ⟨gb1000, 1, none⟩ = some (.int .i64 0) := bc BK1000 1
        have hr1000_1 := blk_frozen BK1000.out 1
        have hq1000_2 : wq_.cell? ⟨gb1000, 2, none⟩ = some (.bool false) := bc BK1000 2
        have hr1000_2 := blk_frozen BK1000.out 2
        try go_wp2_with (first | (refine gC (some 26) Tryz.func58 #[.int .i64 (wrap64 ((wrap64 ((wrap64 ((wrap64 (bt a0 0)) * 256)) + (wrap64 (bt a0 1)))) - 1))] ?_; (with_reducible refine (impl_curveAt.calls (wrap64 ((wrap64 ((wrap64 ((wrap64 (bt a0 0)) * 256)) + (wrap64 (bt a0 1)))) - 1)) t1003 _ A31.out).mono ?_); rintro e w' ⟨rfl, ⟨nd, rfl⟩⟩; refine ⟨_, rfl, ?_⟩) | (refine gC (some 27) Tryz.func57 #[.int .i64 t1003] ?_; (with_reducible refine (impl_FpRoot.calls k t1003 t1004 t1005 _ A32.out).mono ?_); rintro e w80 ⟨rfl, hb⟩; refine ⟨_, rfl, ?_⟩; replace BK1000 := bB BK1000 hb; replace BK1001 := bB BK1001 hb; replace HB := bS HB hb; (try clear hb); obtain ⟨hcz81_0, hcz81_1, hcz81_2, hfz81_0, hfz81_1, hfz81_2⟩ := bK3 (w := w80) BK1001))
        obtain ⟨w82, hW_⟩ : ∃ W_ : World, W_ = (w80.setCell ⟨gb1001, 1, none⟩ (.int .i64 t1004)) := ⟨_, rfl⟩
        replace BK1000 := bW hW_ BK1000
        replace BK1001 := bX hW_ 28 #[.int .i64 (wrap64 ((wrap64 ((wrap64 ((wrap64 (bt a0 0)) * 256)) + (wrap64 (bt a0 1)))) - 1)), .int .i64 t1004, .bool false] BK1001
        replace HB := zW hW_ HB
        rw [← hW_]
        clear hW_
        replace BK1000 := Aside0.mk (blk_drew BK1000.out)
        replace BK1001 := Aside0.mk (blk_drew BK1001.out)
        replace HB := Aside0.mk (below_drew1 HB.out)
        have p34 : 0 ≤ (2 : Int) := (by omega)
        have q34 : 2 < a0.size := (by have : (2 : Int) < (a0.size : Int) := aQ; omega)
        have hx34 : ∀ h : 2 < a0.size, ((a0[2]'h).toNat : Int) = bt a0 2 := bt_at a0 2
        clear p34
        have qi34 : (2 < (a0.size : Int)) = True := eq_true aQ
        replace q34 := eq_true q34
        refine start_ (n := 7) (S := fun w' => w'.cell? ⟨gb1001, 0, none⟩ = some (.int .i64 (wrap64 ((wrap64 ((wrap64 ((wrap64 (bt a0 0)) * 256)) + (wrap64 (bt a0 1)))) - 1))) ∧ w'.cell? ⟨gb1001, 1, none⟩ = some (.int .i64 t1004) ∧ w'.cell? ⟨gb1001, 2, none⟩ = some (.bool false)) (ds := []) #[false, false, false, false, false, false, false] (by kernel_rfl) rfl rfl (bT3 BK1001) (fun hHeld => ?_)
        generalize w82.drew = w83 at BK1000 BK1001 HB hHeld ⊢
        refine pJ 0 (some 31) ?_
        refine pJ 3 (some 34) ?_
        refine tJ 1 (some 32) hHeld ?_
        refine pJ 2 (some 33) ?_
        refine tJ 4 (some 35) hHeld ?_
        refine pJ 5 (some 36) ?_
        refine pJ 6 (some 37) ?_
        refine done_ (by kernel_rfl) ?_
        obtain ⟨hcz84_0, hcz84_1, hcz84_2, hfz84_0, hfz84_1, hfz84_2⟩ := bK3 (w := w83) BK1001
        try go_wp2_with (first | (refine gC (some 39) Tryz.func124 #[.agg #[.int .i64 (wrap64 ((wrap64 ((wrap64 ((wrap64 (bt a0 0)) * 256)) + (wrap64 (bt a0 1)))) - 1)), .int .i64 t1004, .bool false]] ?_; (with_reducible refine (impl_PointNeg.calls (wrap64 ((wrap64 ((wrap64 ((wrap64 (bt a0 0)) * 256)) + (wrap64 (bt a0 1)))) - 1)) t1004 false t1007 t1008 t1009 _ A69.out).mono ?_); rintro e w85 ⟨rfl, hb⟩; refine ⟨_, rfl, ?_⟩; replace BK1000 := bB BK1000 hb; replace BK1001 := bB BK1001 hb; replace HB := bS HB hb; (try clear hb); obtain ⟨hcz86_0, hcz86_1, hcz86_2, hfz86_0, hfz86_1, hfz86_2⟩ := bK3 (w := w85) BK1001) | (refine gC (some 41) Tryz.func71 #[.agg #[.int .i64 t1007, .int .i64 t1008, .bool t1009]] ?_; (with_reducible refine (impl_PointText.calls t1007 t1008 t1009 t1010 _ A70.out).mono ?_); rintro e w87 ⟨rfl, hb⟩; refine ⟨_, rfl, ?_⟩; replace BK1000 := bB BK1000 hb; replace BK1001 := bV 28 #[.int .i64 t1007, .int .i64 t1008, .bool t1009] BK1001 hb; replace HB := bS HB hb; (try clear hb); obtain ⟨hcz88_0, hcz88_1, hcz88_2, hfz88_0, hfz88_1, hfz88_2⟩ := bK3 (w := w87) BK1001; obtain ⟨hcz89_0, hcz89_1, hcz89_2, hfz89_0, hfz89_1, hfz89_2⟩ := bK3 (w := w87) BK1000))
        refine bodyPost_ret (results_ct rfl _ _ gb1000 28 #[.int .i64 t1007, .int .i64 t1008, .bool t1009] (0, 0) _ rfl (bU BK1000) Tryz.underlying28 rfl (by kernel_rfl)) rfl ?_
        exact ⟨rR, bZ HB⟩
       ·rw [if_neg c71] at H
        have c71b0 : (t1010.toList == a0.toList) = false := beq_eq_false_iff_ne.mpr c71
        have c71b1 : (t1010.toList != a0.toList) = true := bne_iff_ne.mpr c71
        simp only [Option.some.injEq, Prod.mk.injEq] at H
        obtain ⟨rfl, rfl, rfl, rfl⟩ := H
        go_enter Tryz.func75, Tryz.ntmps75
        try go_wp2_with (first | (refine gB 2 #[.int .i64 0, .int .i64 0, .bool false] 28 ?_; intro gb1000 hg w90 BK1000 hb; have GW1000 := bG HB hg; replace HB := bS HB hb; clear hb hg))
        replace BK1000 := Aside0.mk (blk_drew BK1000.out)
        replace HB := Aside0.mk (below_drew1 HB.out)
        have p4 : 0 ≤ (0 : Int) := (by omega)
        have q4 : 0 < a0.size := (by have : (0 : Int) < (a0.size : Int) := aQ; omega)
        have hx4 : ∀ h : 0 < a0.size, ((a0[0]'h).toNat : Int) = bt a0 0 := bt_at a0 0
        clear p4
        have qi4 : (0 < (a0.size : Int)) = True := eq_true aQ
        replace q4 := eq_true q4
        have p6 : 0 ≤ (1 : Int) := (by omega)
        have q6 : 1 < a0.size := (by have : (1 : Int) < (a0.size : Int) := aQ; omega)
        have hx6 : ∀ h : 1 < a0.size, ((a0[1]'h).toNat : Int) = bt a0 1 := bt_at a0 1
        clear p6
        have qi6 : (1 < (a0.size : Int)) = True := eq_true aQ
        replace q6 := eq_true q6
        refine start_ (n := 12) (S := fun w' => True) (ds := []) #[false, false, false, false, false, false, false, false, false, false, false, false] (by kernel_rfl) rfl rfl trivial (fun hHeld => ?_); refine with_tabW impl_ReadPoint.tab3 impl_ReadPoint.bits3 (fun HT_ HW_ => ?_)
        generalize w90.drew = w91 at BK1000 HB hHeld ⊢
        refine pI 0 (some 9) HT_.out ?_
        refine pI 4 (some 13) HT_.out ?_
        refine take_ (i := 1) (N := some 10) (v := ?_) (a' := ?_) #[true, true, false, false, true, false, false, false, false, false, false, false] rfl rfl (take_ofW HT_.out HW_.out (by kernel_rfl)) (fun _ _ _ h => h) (Or.inl ⟨by rfl, ?_⟩) hHeld ?_ ?_
        rotate_left
        ·intro w' _
         go_simp
         with_reducible rfl
        rotate_left
        ·simp only [Act.put, List.setIfInBounds_toArray, List.set_cons_zero, List.set_cons_succ, i64_w, i32_w]
         rfl
        refine pI 2 (some 11) HT_.out ?_
        refine pI 3 (some 12) HT_.out ?_
        refine take_ (i := 5) (N := some 14) (v := ?_) (a' := ?_) #[true, true, true, true, true, true, false, false, false, false, false, false] rfl rfl (take_ofW HT_.out HW_.out (by kernel_rfl)) (fun _ _ _ h => h) (Or.inl ⟨by rfl, ?_⟩) hHeld ?_ ?_
        rotate_left
        ·intro w' _
         go_simp
         with_reducible rfl
        rotate_left
        ·simp only [Act.put, List.setIfInBounds_toArray, List.set_cons_zero, List.set_cons_succ, i64_w, i32_w]
         rfl
        refine pI 6 (some 15) HT_.out ?_
        refine pI 7 (some 16) HT_.out ?_
        refine pI 8 (some 17) HT_.out ?_
        refine pI 9 (some 18) HT_.out ?_
        refine oI 10 (some 4) HT_.out (fun K hK => ?_)
        refine box_step ?hg (N := 4) ?hd (cs := #[.int .i64 0, .int .i64 0, .bool false]) (t := 28) ?hr ?_; (case hd => rfl); (case hg => rfl); (case hr => first | (go_simp; done) | (go_simp; rfl))
        intro gb1001 hg w92 hbox hb
        have BK1001 := Aside0.mk (hbox)
        have GW1001 := bG HB hg
        replace HB := bS HB hb
        have NB1000_1001 := bL BK1000 hg
        have NB1001_1000 := bR BK1000 hg
        replace BK1000 := bB BK1000 hb
        clear hb hbox hg
        refine hK.out _ _ trivial (fun hHeld => ?_)
        clear hK K
        refine nO (some 4) ?_
        refine oI 11 (none) HT_.out (fun K hK => ?_)
        have hs93 : w92.cell? ⟨gb1001, 0, none⟩ = some (.int .i64 0) := bc BK1001 0
        have hfs93 := blk_frozen BK1001.out 0
        obtain ⟨hns93_0, hms93_0⟩ := nB NB1000_1001
        have hs94 : w92.cell? ⟨gb1001, 1, none⟩ = some (.int .i64 0) := bc BK1001 1
        have hfs94 := blk_frozen BK1001.out 1
        obtain ⟨hns94_0, hms94_0⟩ := nB NB1000_1001
        have hs95 : w92.cell? ⟨gb1001, 2, none⟩ = some (.bool false) := bc BK1001 2
        have hfs95 := blk_frozen BK1001.out 2
        obtain ⟨hns95_0, hms95_0⟩ := nB NB1000_1001
        refine skip_ (w1 := ?_) (by rfl) rfl ?_ ?_
        rotate_left
        ·go_simp
         rfl
        refine hK.out _ _ trivial (fun hHeld => ?_)
        clear hK K
        refine done_ (done_of HT_.out (by kernel_rfl)) ?_
        obtain ⟨hnb96, hnc96⟩ := nB NB1001_1000
        obtain ⟨hcz97_0, hcz97_1, hcz97_2, hfz97_0, hfz97_1, hfz97_2⟩ := bK3 (w := w92) BK1001
        have q1_ : Aside0 ((((w92.setCell ⟨gb1001, 0, none⟩ (.int .i64 (wrap64 ((wrap64 ((wrap64 ((wrap64 (bt a0 0)) * 256)) + (wrap64 (bt a0 1)))) - 1)))).setCell ⟨gb1001, 1, none⟩ (.int .i64 0)).setCell ⟨gb1001, 2, none⟩ (.bool false)).heap[gb1001]? = some (.cells #[.int .i64 (wrap64 ((wrap64 ((wrap64 ((wrap64 (bt a0 0)) * 256)) + (wrap64 (bt a0 1)))) - 1)), .int .i64 0, .bool false] 28 (0, 0))) := ⟨by refine blk_put (cs := #[.int .i64 (wrap64 ((wrap64 ((wrap64 ((wrap64 (bt a0 0)) * 256)) + (wrap64 (bt a0 1)))) - 1)), .int .i64 0, .bool false]) ?_ 2 _ rfl; refine blk_put (cs := #[.int .i64 (wrap64 ((wrap64 ((wrap64 ((wrap64 (bt a0 0)) * 256)) + (wrap64 (bt a0 1)))) - 1)), .int .i64 0, .bool false]) ?_ 1 _ rfl; refine blk_put (cs := #[.int .i64 0, .int .i64 0, .bool false]) ?_ 0 _ rfl; exact BK1001.out⟩
        have q2_ : Aside0 ((((w92.setCell ⟨gb1001, 0, none⟩ (.int .i64 (wrap64 ((wrap64 ((wrap64 ((wrap64 (bt a0 0)) * 256)) + (wrap64 (bt a0 1)))) - 1)))).setCell ⟨gb1001, 1, none⟩ (.int .i64 0)).setCell ⟨gb1001, 2, none⟩ (.bool false)).heap[gb1000]? = some (.cells #[.int .i64 0, .int .i64 0, .bool false] 28 (0, 0))) := ⟨by refine blk_far ?_ NB1000_1001.out _; refine blk_far ?_ NB1000_1001.out _; refine blk_far ?_ NB1000_1001.out _; exact BK1000.out⟩
        have q3_ : Aside0 (Below w.heap.size w (((w92.setCell ⟨gb1001, 0, none⟩ (.int .i64 (wrap64 ((wrap64 ((wrap64 ((wrap64 (bt a0 0)) * 256)) + (wrap64 (bt a0 1)))) - 1)))).setCell ⟨gb1001, 1, none⟩ (.int .i64 0)).setCell ⟨gb1001, 2, none⟩ (.bool false))) := ⟨bZ HB⟩
        generalize (((w92.setCell ⟨gb1001, 0, none⟩ (.int .i64 (wrap64 ((wrap64 ((wrap64 ((wrap64 (bt a0 0)) * 256)) + (wrap64 (bt a0 1)))) - 1)))).setCell ⟨gb1001, 1, none⟩ (.int .i64 0)).setCell ⟨gb1001, 2, none⟩ (.bool false)) = wq_ at q1_ q2_ q3_ ⊢
        clear BK1001 BK1000 HB
        have BK1001 := q1_
        have BK1000 := q2_
        have HB := q3_
        clear q1_ q2_ q3_
        have hq1001_0 : wq_.cell? ⟨gb1001, 0, none⟩ = some (.int .i64 (wrap64 ((wrap64 ((wrap64 ((wrap64 (bt a0 0)) * 256)) + (wrap64 (bt a0 1)))) - 1))) := bc BK1001 0
        have hr1001_0 := blk_frozen BK1001.out 0
        have hq1001_1 : wq_.cell? ⟨gb1001, 1, none⟩ = some (.int .i64 0) := bc BK1001 1
        have hr1001_1 := blk_frozen BK1001.out 1
        have hq1001_2 : wq_.cell? ⟨gb1001, 2, none⟩ = some (.bool false) := bc BK1001 2
        have hr1001_2 := blk_frozen BK1001.out 2
        have hq1000_0 : wq_.cell? ⟨gb1000, 0, none⟩ = some (.int .i64 0) := bc BK1000 0
        have hr1000_0 := blk_frozen BK1000.out 0
        have hq1000_1 : wq_.cell? ⟨gb1000, 1, none⟩ = some (.int .i64 0) := bc BK1000 1
        have hr1000_1 := blk_frozen BK1000.out 1
        have hq1000_2 : wq_.cell? ⟨gb1000, 2, none⟩ = some (.bool false) := bc BK1000 2
        have hr1000_2 := blk_frozen BK1000.out 2
        try go_wp2_with (first | (refine gC (some 26) Tryz.func58 #[.int .i64 (wrap64 ((wrap64 ((wrap64 ((wrap64 (bt a0 0)) * 256)) + (wrap64 (bt a0 1)))) - 1))] ?_; (with_reducible refine (impl_curveAt.calls (wrap64 ((wrap64 ((wrap64 ((wrap64 (bt a0 0)) * 256)) + (wrap64 (bt a0 1)))) - 1)) t1003 _ A31.out).mono ?_); rintro e w' ⟨rfl, ⟨nd, rfl⟩⟩; refine ⟨_, rfl, ?_⟩) | (refine gC (some 27) Tryz.func57 #[.int .i64 t1003] ?_; (with_reducible refine (impl_FpRoot.calls k t1003 t1004 t1005 _ A32.out).mono ?_); rintro e w98 ⟨rfl, hb⟩; refine ⟨_, rfl, ?_⟩; replace BK1000 := bB BK1000 hb; replace BK1001 := bB BK1001 hb; replace HB := bS HB hb; (try clear hb); obtain ⟨hcz99_0, hcz99_1, hcz99_2, hfz99_0, hfz99_1, hfz99_2⟩ := bK3 (w := w98) BK1001))
        obtain ⟨w100, hW_⟩ : ∃ W_ : World, W_ = (w98.setCell ⟨gb1001, 1, none⟩ (.int .i64 t1004)) := ⟨_, rfl⟩
        replace BK1000 := bW hW_ BK1000
        replace BK1001 := bX hW_ 28 #[.int .i64 (wrap64 ((wrap64 ((wrap64 ((wrap64 (bt a0 0)) * 256)) + (wrap64 (bt a0 1)))) - 1)), .int .i64 t1004, .bool false] BK1001
        replace HB := zW hW_ HB
        rw [← hW_]
        clear hW_
        replace BK1000 := Aside0.mk (blk_drew BK1000.out)
        replace BK1001 := Aside0.mk (blk_drew BK1001.out)
        replace HB := Aside0.mk (below_drew1 HB.out)
        have p34 : 0 ≤ (2 : Int) := (by omega)
        have q34 : 2 < a0.size := (by have : (2 : Int) < (a0.size : Int) := aQ; omega)
        have hx34 : ∀ h : 2 < a0.size, ((a0[2]'h).toNat : Int) = bt a0 2 := bt_at a0 2
        clear p34
        have qi34 : (2 < (a0.size : Int)) = True := eq_true aQ
        replace q34 := eq_true q34
        refine start_ (n := 7) (S := fun w' => w'.cell? ⟨gb1001, 0, none⟩ = some (.int .i64 (wrap64 ((wrap64 ((wrap64 ((wrap64 (bt a0 0)) * 256)) + (wrap64 (bt a0 1)))) - 1))) ∧ w'.cell? ⟨gb1001, 1, none⟩ = some (.int .i64 t1004) ∧ w'.cell? ⟨gb1001, 2, none⟩ = some (.bool false)) (ds := []) #[false, false, false, false, false, false, false] (by kernel_rfl) rfl rfl (bT3 BK1001) (fun hHeld => ?_)
        generalize w100.drew = w101 at BK1000 BK1001 HB hHeld ⊢
        refine pJ 0 (some 31) ?_
        refine pJ 3 (some 34) ?_
        refine tJ 1 (some 32) hHeld ?_
        refine pJ 2 (some 33) ?_
        refine tJ 4 (some 35) hHeld ?_
        refine pJ 5 (some 36) ?_
        refine pJ 6 (some 37) ?_
        refine done_ (by kernel_rfl) ?_
        obtain ⟨hcz102_0, hcz102_1, hcz102_2, hfz102_0, hfz102_1, hfz102_2⟩ := bK3 (w := w101) BK1001
        try go_wp2_with (first | (refine gC (some 39) Tryz.func124 #[.agg #[.int .i64 (wrap64 ((wrap64 ((wrap64 ((wrap64 (bt a0 0)) * 256)) + (wrap64 (bt a0 1)))) - 1)), .int .i64 t1004, .bool false]] ?_; (with_reducible refine (impl_PointNeg.calls (wrap64 ((wrap64 ((wrap64 ((wrap64 (bt a0 0)) * 256)) + (wrap64 (bt a0 1)))) - 1)) t1004 false t1007 t1008 t1009 _ A69.out).mono ?_); rintro e w103 ⟨rfl, hb⟩; refine ⟨_, rfl, ?_⟩; replace BK1000 := bB BK1000 hb; replace BK1001 := bB BK1001 hb; replace HB := bS HB hb; (try clear hb); obtain ⟨hcz104_0, hcz104_1, hcz104_2, hfz104_0, hfz104_1, hfz104_2⟩ := bK3 (w := w103) BK1001) | (refine gC (some 41) Tryz.func71 #[.agg #[.int .i64 t1007, .int .i64 t1008, .bool t1009]] ?_; (with_reducible refine (impl_PointText.calls t1007 t1008 t1009 t1010 _ A70.out).mono ?_); rintro e w105 ⟨rfl, hb⟩; refine ⟨_, rfl, ?_⟩; replace BK1000 := bB BK1000 hb; replace BK1001 := bV 28 #[.int .i64 t1007, .int .i64 t1008, .bool t1009] BK1001 hb; replace HB := bS HB hb; (try clear hb); obtain ⟨hcz106_0, hcz106_1, hcz106_2, hfz106_0, hfz106_1, hfz106_2⟩ := bK3 (w := w105) BK1000))
        refine bodyPost_ret (results_ct rfl _ _ gb1000 28 #[.int .i64 0, .int .i64 0, .bool false] (0, 0) _ rfl (bU BK1000) Tryz.underlying28 rfl (by kernel_rfl)) rfl ?_
        exact ⟨rR, bZ HB⟩
     ·rw [if_neg c33] at H
      exact absurd H (by simp)
   ·rw [if_neg c5] at H
    exact absurd H (by simp)
  ·rw [if_neg c3] at H
   exact absurd H (by simp)
 ·rw [if_neg c2] at H
  have c2b0 : ((a0.size : Int) == 3) = false := beq_eq_false_iff_ne.mpr c2
  have c2b1 : ((a0.size : Int) != 3) = true := bne_iff_ne.mpr c2
  simp only [Option.some.injEq, Prod.mk.injEq] at H
  obtain ⟨rfl, rfl, rfl, rfl⟩ := H
  go_enter Tryz.func75, Tryz.ntmps75
  go_wp2_with (first | (refine gB 2 #[.int .i64 0, .int .i64 0, .bool false] 28 ?_; intro gb1000 hg w107 BK1000 hb; have GW1000 := bG HB hg; replace HB := bS HB hb; clear hb hg; obtain ⟨hcz108_0, hcz108_1, hcz108_2, hfz108_0, hfz108_1, hfz108_2⟩ := bK3 (w := w107) BK1000))
  refine bodyPost_ret (results_ct rfl _ _ gb1000 28 #[.int .i64 0, .int .i64 0, .bool false] (0, 0) _ rfl (bU BK1000) Tryz.underlying28 rfl (by kernel_rfl)) rfl ?_
  exact ⟨rR, bZ HB⟩
def impl_ReadCommittee.l0 : Nat → ByteArray → Int → List (S28) → Option ((List (S28)) × Bool)
 | 0, _, _, _ => none
 | k + 1, x0, x14, x1013000 => if x14 < 8 then (if 0 ≤ (wrap64 (3 * x14)) then (if (wrap64 (3 * x14)) ≤ (wrap64 ((wrap64 (3 * x14)) + 3)) then (if (wrap64 ((wrap64 (3 * x14)) + 3)) ≤ (x0.size : Int) then ((impl_ReadPoint.f k (x0.extract ((wrap64 (3 * x14)) : Int).toNat ((wrap64 ((wrap64 (3 * x14)) + 3)) : Int).toNat)).bind fun bt1013 => (if bt1013.2.2.2 = true then (if x1013000.length < 5864062014805 then (impl_ReadCommittee.l0 k x0 (wrap64 (x14 + 1)) (x1013000 ++ [(⟨bt1013.1, bt1013.2.1, bt1013.2.2.1⟩ : S28)])) else (none)) else (some (([] : List (S28)), false)))) else (none)) else (none)) else (none)) else ((impl_CommitteeText.f k x1013000).bind fun bt1021 => (if bt1021.2 = true then (if bt1021.1.toList = x0.toList then (some (x1013000, true)) else (some (([] : List (S28)), false))) else (some (([] : List (S28)), false))))
def impl_ReadCommittee.f (k : Nat) (a0 : ByteArray) : Option ((List (S28)) × Bool) := if (a0.size : Int) = 27 then (impl_ReadCommittee.l0 k a0 0 ([] : List (S28))) else (some (([] : List (S28)), false))
theorem impl_ReadCommittee.calls (k : Nat) (a0 : ByteArray) (r1 : List (S28)) (r2 : Bool) (w : World) (h : impl_ReadCommittee.f k a0 = some (r1, r2)) :
  Calls Tryz.prog 28 #[.string a0] w fun e w' => ∃ v0_ : Value, e = .returned (.tuple #[.agg #[v0_], .bool r2]) ∧ Kd.R k28 28 w' w.heap.size (fun _ => True) v0_ r1 ∧ Below w.heap.size w w' := by
 have hu46 := Tryz.underlying46
 have hu28 := Tryz.underlying28
 have HB := Aside0.mk (Below.refl w.heap.size w)
 unfold impl_ReadCommittee.f at h
 have H := h
 clear h
 by_cases c2 : (a0.size : Int) = 27
 ·rw [if_pos c2] at H
  have c2b0 : ((a0.size : Int) == 27) = true := beq_iff_eq.mpr c2
  have c2b1 : ((a0.size : Int) != 27) = false := bne_eq_false_iff_eq.mpr c2
  clear c2
  have H' := Aside0.mk H
  clear H
  go_enter Tryz.func28, Tryz.ntmps28
  go_wp2_with (first | (refine gB 2 #[.slice none 0 0] 46 ?_; intro gb1011 hg w3 BK1011 hb; have GW1011 := bG HB hg; replace HB := bS HB hb; clear hb hg) | (refine gB 4 #[.slice none 0 0] 46 ?_; intro gb1012 hg w4 BK1012 hb; have GW1012 := bG HB hg; replace HB := bS HB hb; obtain ⟨NB1011_1012, NB1012_1011⟩ := bN BK1011 hg; replace BK1011 := bB BK1011 hb; clear hb hg))
  go_loopg [14] k (fun kq v14 w' => ∃ (x14_1 : Int) (x1013000_1 : List (S28)) (u1013000 : Value), v14 = .int .i64 x14_1 ∧ Aside0 (impl_ReadCommittee.l0 kq a0 x14_1 x1013000_1 = some (r1, r2)) ∧ Aside0 (kq ≤ k) ∧ Aside0 (Kd.R k28 28 w' w.heap.size (fun _ => True) u1013000 x1013000_1) ∧ Aside0 (w'.heap[gb1011]? = some (.cells #[(.slice none 0 0)] 46 (0, 0))) ∧ Aside0 (w'.heap[gb1012]? = some (.cells #[u1013000] 46 (0, 0))) ∧ Aside0 (Below w.heap.size w w'))
  case atStart => exact ⟨(0), (([] : List (S28))), (.slice none 0 0), rS, H', ⟨Nat.le_refl _⟩, ⟨by first | exact Kd.R_nil _ _ _ _ _ | exact Kd.N_nil _ _ _ _ _ | exact Kd.V_nil _ _ _ _ _ | exact Kd.Q_nil _ _ _ _ _ | exact Kd.S_nil _ _ _ _ _⟩, ⟨bP BK1011⟩, ⟨bP BK1012⟩, ⟨bZ HB⟩⟩
  case round =>
   clear H'
   try clear c2
   try clear c2b0
   try clear c2b1
   try clear p2
   obtain ⟨x14_1, x1013000_1, u1013000, rfl, HA, HK1, HO_1013000, BK1011, BK1012, HB⟩ := hrel
   cases gk with
   | zero => exact absurd HA.out (by simp [impl_ReadCommittee.l0])
   | succ k1 =>
    have H := HA.out
    clear HA
    simp only [impl_ReadCommittee.l0] at H
    by_cases c5 : x14_1 < 8
    ·rw [if_pos c5] at H
     have c5b0 := decide_eq_true c5
     clear c5
     obtain ⟨ji6, hji6⟩ : ∃ j_ : Int, (wrap64 (3 * x14_1)) = j_ := ⟨_, rfl⟩
     replace H : (if 0 ≤ (ji6) then (if (ji6) ≤ (wrap64 ((ji6) + 3)) then (if (wrap64 ((ji6) + 3)) ≤ (a0.size : Int) then ((impl_ReadPoint.f k1 (a0.extract ((ji6) : Int).toNat ((wrap64 ((ji6) + 3)) : Int).toNat)).bind fun bt1013 => (if bt1013.2.2.2 = true then (if x1013000_1.length < 5864062014805 then (impl_ReadCommittee.l0 k1 a0 (wrap64 (x14_1 + 1)) (x1013000_1 ++ [(⟨bt1013.1, bt1013.2.1, bt1013.2.2.1⟩ : S28)])) else (none)) else (some (([] : List (S28)), false)))) else (none)) else (none)) else (none)) = some (r1, r2) := jR hji6 H
     have hji6w : (IntKind.i64.wrap (3 * x14_1)) = ji6 := (i64_w _).trans hji6
     by_cases c7 : 0 ≤ (ji6)
     ·rw [if_pos c7] at H
      have c7b0 := eq_true c7
      have c7b1 := decide_eq_true c7
      clear c7
      by_cases c8 : (ji6) ≤ (wrap64 ((ji6) + 3))
      ·rw [if_pos c8] at H
       have c8b0 := eq_true c8
       have c8b1 := decide_eq_true c8
       by_cases c9 : (wrap64 ((ji6) + 3)) ≤ (a0.size : Int)
       ·rw [if_pos c9] at H
        have c9b0 := eq_true c9
        have c9b1 := decide_eq_true c9
        obtain ⟨⟨t1013, t1014, t1015, t1016⟩, A10, H⟩ := oB H
        by_cases c11 : t1016 = true
        ·subst c11
         rw [if_pos rfl] at H
         by_cases c12 : x1013000_1.length < 5864062014805
         ·rw [if_pos c12] at H
          have LMc12 := Aside0.mk c12
          clear c12
          obtain ⟨y1018, hy1018⟩ : ∃ y_ : List (S28), y_ = (x1013000_1 ++ [(⟨t1013, t1014, t1015⟩ : S28)]) := ⟨_, rfl⟩
          replace H : (impl_ReadCommittee.l0 k1 a0 (wrap64 (x14_1 + 1)) y1018) = some (r1, r2) := yR hy1018 H
          have Ny1018 := Aside0.mk hy1018
          clear hy1018
          have H' := Aside0.mk H
          clear H
          go_wp2_with (first | ((with_reducible refine gate_callee (f := 75) rfl ?_); refine goesL_ (some 25) rfl rfl Tryz.func75 (by kernel_rfl) rfl #[.string (a0.extract ((ji6) : Int).toNat ((wrap64 ((ji6) + 3)) : Int).toNat)] rfl (by (try simp only [List.map_toArray, List.map_cons, List.map_nil]); first | done | (simp only [hji6]; rfl) | rfl | (simp only [List.length_drop, List.length_take]; rfl)) ?_; (with_reducible refine (impl_ReadPoint.calls k1 (a0.extract ((ji6) : Int).toNat ((wrap64 ((ji6) + 3)) : Int).toNat) t1013 t1014 t1015 true _ A10.out).mono ?_); rintro e w13 ⟨rfl, hb⟩; refine ⟨_, rfl, ?_⟩; replace HO_1013000 := Aside0.mk (Kd.R_below (rP HO_1013000) hb); replace BK1011 := bB BK1011 hb; replace BK1012 := bB BK1012 hb; replace HB := bS HB hb; (try clear hb)) | ((with_reducible refine gate_dst (N := 6) rfl ?_); refine bE 6 #[.int .i64 0, .int .i64 0, .bool false] 28 ?_; intro gb1017 hg w14 hbox hb; replace HO_1013000 := Aside0.mk (Kd.R_below (Kd.R_elderB (rP HO_1013000) gb1017 (Nat.le_of_eq hg.symm)) hb); have BK1017 := Aside0.mk (hbox); have GW1017 := bG HB hg; replace HB := bS HB hb; obtain ⟨NB1011_1017, NB1017_1011⟩ := bN BK1011 hg; replace BK1011 := bB BK1011 hb; obtain ⟨NB1012_1017, NB1017_1012⟩ := bN BK1012 hg; replace BK1012 := bB BK1012 hb; clear hb hbox hg; obtain ⟨hnb15, hnc15⟩ := nB NB1017_1011; obtain ⟨hnb16, hnc16⟩ := nB NB1017_1012; obtain ⟨hcz17_0, hcz17_1, hcz17_2, hfz17_0, hfz17_1, hfz17_2⟩ := bK3 (w := w14) BK1017; obtain ⟨hnb18, hnc18⟩ := nB NB1012_1011; obtain ⟨hcz19_0, hfz19_0⟩ := bK1 (w := w14) BK1012) | ((with_reducible refine gate_builtin (b := .append) (xs := #[.tmp 32, .tmp 34]) rfl ?_); at_builtin; refine Kd.R_append k28 (w0 := w) w.heap.size rfl (.tmp 32) (.tmp 34) 26 28 (.agg #[(.int .i64 0), (.int .i64 0), (.bool false)]) 24 rfl Tryz.underlying26 info28 rfl (by decide) (by omega) u1013000 x1013000_1 (⟨t1013, t1014, t1015⟩ : S28) [.int .i64 t1013, .int .i64 t1014, .bool t1015] (fun k_ => k_ ≠ gb1017) (fun _ => False) rfl (by first | (go_simp; done) | (go_simp; rfl)) ?aP (fun _ hk => hk.elim) ?aF ?aO ?aB ?aS ?aL ?_; (case aP => exact k28_mkM _ _ _ (⟨t1013, t1014, t1015⟩ : S28)); (case aB => exact (bZ HB)); (case aF => exact (fun k_ hk => Kd.freshB (g := gb1017) (o := .cells #[.int .i64 t1013, .int .i64 t1014, .bool t1015] 28 (0, 0)) (bU BK1017) k_ hk)); (case aO => exact (by (with_reducible repeat (first | apply Kd.R_alloc | apply Kd.R_drewN | apply Kd.R_drew)); exact Kd.R_mono (Kd.R_far (p := ⟨gb1017, 2, none⟩) (Kd.R_far (p := ⟨gb1017, 1, none⟩) (Kd.R_far (p := ⟨gb1017, 0, none⟩) (Kd.R_mono HO_1013000.out (fun k_ hk => (⟨hk, hk.2⟩ : _ ∧ k_ ≠ gb1017))) (fun _ hk => hk.2) (.int .i64 t1013)) (fun _ hk => hk.2) (.int .i64 t1014)) (fun _ hk => hk.2) (.bool t1015)) (fun _ hk => hk.1.2))); (case aS => exact (below_size (bZ HB))); (case aL => have := LMc12.out; omega); intro v1019 w20 ho hb hg hat; rw [← Ny1018.out] at ho; replace BK1011 := Aside0.mk (blk_grown (bP BK1011) hg (Kd.R_ne HO_1013000.out BK1011.out (by decide))); replace BK1012 := Aside0.mk (blk_grown (bP BK1012) hg (Kd.R_ne HO_1013000.out BK1012.out (by decide))); replace BK1017 := Aside0.mk (blk_grown (g := gb1017) (o := .cells #[.int .i64 t1013, .int .i64 t1014, .bool t1015] 28 (0, 0)) (bU BK1017) hg (Kd.R_away HO_1013000.out (fun _ hk => hk.2))); replace HB := Aside0.mk (hb); have HO1020 := Aside0.mk (ho); clear HO_1013000; clear ho hb hg hat; obtain ⟨Ao21, co21, eo21⟩ := Kd.R_slice HO1020.out; subst eo21; obtain ⟨hcz22_0, hfz22_0⟩ := bK1 (w := w20) BK1012))
          go_roundg k1
          case measure => have := HK1.out; omega
          case rel => exact ⟨(wrap64 (x14_1 + 1)), (y1018), (.slice Ao21 y1018.length co21), rS, H', ⟨by have := HK1.out; omega⟩, ⟨by (with_reducible repeat (first | apply Kd.R_alloc | apply Kd.R_drewN | apply Kd.R_drew)); exact Kd.R_mono (Kd.R_far (p := ⟨gb1012, 0, none⟩) (Kd.R_types HO1020.out BK1012.out (by decide)) (fun _ hk => hk.2) (.slice Ao21 y1018.length co21)) (fun _ hk => trivial)⟩, ⟨bP BK1011⟩, ⟨bU BK1012⟩, ⟨bZ HB⟩⟩
         ·rw [if_neg c12] at H
          exact absurd H (by simp)
        ·replace c11 := Bool.eq_false_iff.mpr c11
         subst c11
         rw [if_neg (show ¬ (false = true) by decide)] at H
         simp only [Option.some.injEq, Prod.mk.injEq] at H
         obtain ⟨rfl, rfl⟩ := H
         go_wp2_with (first | ((with_reducible refine gate_callee (f := 75) rfl ?_); refine goesL_ (some 25) rfl rfl Tryz.func75 (by kernel_rfl) rfl #[.string (a0.extract ((ji6) : Int).toNat ((wrap64 ((ji6) + 3)) : Int).toNat)] rfl (by (try simp only [List.map_toArray, List.map_cons, List.map_nil]); first | done | (simp only [hji6]; rfl) | rfl | (simp only [List.length_drop, List.length_take]; rfl)) ?_; (with_reducible refine (impl_ReadPoint.calls k1 (a0.extract ((ji6) : Int).toNat ((wrap64 ((ji6) + 3)) : Int).toNat) t1013 t1014 t1015 false _ A10.out).mono ?_); rintro e w23 ⟨rfl, hb⟩; refine ⟨_, rfl, ?_⟩; replace HO_1013000 := Aside0.mk (Kd.R_below (rP HO_1013000) hb); replace BK1011 := bB BK1011 hb; replace BK1012 := bB BK1012 hb; replace HB := bS HB hb; (try clear hb)) | ((with_reducible refine gate_dst (N := 6) rfl ?_); refine bE 6 #[.int .i64 0, .int .i64 0, .bool false] 28 ?_; intro gb1017 hg w24 hbox hb; replace HO_1013000 := Aside0.mk (Kd.R_below (Kd.R_elderB (rP HO_1013000) gb1017 (Nat.le_of_eq hg.symm)) hb); have BK1017 := Aside0.mk (hbox); have GW1017 := bG HB hg; replace HB := bS HB hb; obtain ⟨NB1011_1017, NB1017_1011⟩ := bN BK1011 hg; replace BK1011 := bB BK1011 hb; obtain ⟨NB1012_1017, NB1017_1012⟩ := bN BK1012 hg; replace BK1012 := bB BK1012 hb; clear hb hbox hg; obtain ⟨hnb25, hnc25⟩ := nB NB1017_1011; obtain ⟨hnb26, hnc26⟩ := nB NB1017_1012; obtain ⟨hcz27_0, hcz27_1, hcz27_2, hfz27_0, hfz27_1, hfz27_2⟩ := bK3 (w := w24) BK1017; obtain ⟨hnb28, hnc28⟩ := nB NB1011_1012; obtain ⟨hcz29_0, hfz29_0⟩ := bK1 (w := w24) BK1011))
         refine bodyPost_ret (results_ct rfl _ _ gb1011 46 #[.slice none 0 0] (0, 0) _ rfl (bU BK1011) Tryz.underlying46 rfl (by kernel_rfl)) rfl ?_
         exact ⟨_, by first | rfl | (simp [errW_none, errW_some] <;> rfl) | (simp only [← hji6]; first | rfl | (simp [errW_none, errW_some] <;> rfl)) | (simp [*, errW_none, errW_some] <;> rfl), by first | exact Kd.R_nil _ _ _ _ _ | exact Kd.N_nil _ _ _ _ _ | exact Kd.V_nil _ _ _ _ _ | exact Kd.Q_nil _ _ _ _ _ | exact Kd.S_nil _ _ _ _ _, bZ HB⟩
       ·rw [if_neg c9] at H
        exact absurd H (by simp)
      ·rw [if_neg c8] at H
       exact absurd H (by simp)
     ·rw [if_neg c7] at H
      exact absurd H (by simp)
    ·rw [if_neg c5] at H
     have c5b0 := decide_eq_false c5
     clear c5
     obtain ⟨⟨t1021, t1022⟩, A30, H⟩ := oB H
     by_cases c31 : t1022 = true
     ·subst c31
      rw [if_pos rfl] at H
      by_cases c32 : t1021.toList = a0.toList
      ·rw [if_pos c32] at H
       have c32b0 : (t1021.toList == a0.toList) = true := beq_iff_eq.mpr c32
       have c32b1 : (t1021.toList != a0.toList) = false := bne_eq_false_iff_eq.mpr c32
       clear c32
       simp only [Option.some.injEq, Prod.mk.injEq] at H
       obtain ⟨rfl, rfl⟩ := H
       obtain ⟨hnb33, hnc33⟩ := nB NB1012_1011
       obtain ⟨hcz34_0, hfz34_0⟩ := bK1 (w := wr) BK1012
       obtain ⟨Ao35, co35, eo35⟩ := Kd.R_slice HO_1013000.out
       subst eo35
       go_wp2_with (first | (refine gC (some 40) Tryz.func25 #[.agg #[.slice Ao35 x1013000_1.length co35]] ?_; (with_reducible refine (impl_CommitteeText.calls k1 _ _ x1013000_1 t1021 true _ ?side1 ?side2 A30.out).mono ?_); (case side1 => exact cP ((Kd.R_reads' HO_1013000.out).2.2)); (case side2 => exact (Kd.R_reads' HO_1013000.out).2.1); rintro e w36 ⟨rfl, hb⟩; refine ⟨_, rfl, ?_⟩; replace HO_1013000 := Aside0.mk (Kd.R_below (rP HO_1013000) hb); replace BK1011 := bB BK1011 hb; replace BK1012 := bB BK1012 hb; replace HB := bS HB hb; (try clear hb); obtain ⟨hcz37_0, hfz37_0⟩ := bK1 (w := w36) BK1012; obtain ⟨hcz38_0, hfz38_0⟩ := bK1 (w := w36) BK1011))
       refine bodyPost_ret (results_ct rfl _ _ gb1011 46 #[.slice Ao35 x1013000_1.length co35] (0, 0) _ rfl (bU BK1011) Tryz.underlying46 rfl (by kernel_rfl)) rfl ?_
       exact ⟨_, by first | rfl | (simp [errW_none, errW_some] <;> rfl) | (simp [*, errW_none, errW_some] <;> rfl), by (with_reducible repeat (first | apply Kd.R_alloc | apply Kd.R_drewN | apply Kd.R_drew)); exact Kd.R_mono (Kd.R_far (p := ⟨gb1011, 0, none⟩) (Kd.R_types HO_1013000.out BK1011.out (by decide)) (fun _ hk => hk.2) (.slice Ao35 x1013000_1.length co35)) (fun _ hk => trivial), bZ HB⟩
      ·rw [if_neg c32] at H
       have c32b0 : (t1021.toList == a0.toList) = false := beq_eq_false_iff_ne.mpr c32
       have c32b1 : (t1021.toList != a0.toList) = true := bne_iff_ne.mpr c32
       simp only [Option.some.injEq, Prod.mk.injEq] at H
       obtain ⟨rfl, rfl⟩ := H
       obtain ⟨hnb39, hnc39⟩ := nB NB1012_1011
       obtain ⟨hcz40_0, hfz40_0⟩ := bK1 (w := wr) BK1012
       obtain ⟨Ao41, co41, eo41⟩ := Kd.R_slice HO_1013000.out
       subst eo41
       go_wp2_with (first | (refine gC (some 40) Tryz.func25 #[.agg #[.slice Ao41 x1013000_1.length co41]] ?_; (with_reducible refine (impl_CommitteeText.calls k1 _ _ x1013000_1 t1021 true _ ?side1 ?side2 A30.out).mono ?_); (case side1 => exact cP ((Kd.R_reads' HO_1013000.out).2.2)); (case side2 => exact (Kd.R_reads' HO_1013000.out).2.1); rintro e w42 ⟨rfl, hb⟩; refine ⟨_, rfl, ?_⟩; replace HO_1013000 := Aside0.mk (Kd.R_below (rP HO_1013000) hb); replace BK1011 := bB BK1011 hb; replace BK1012 := bB BK1012 hb; replace HB := bS HB hb; (try clear hb); obtain ⟨hcz43_0, hfz43_0⟩ := bK1 (w := w42) BK1011))
       refine bodyPost_ret (results_ct rfl _ _ gb1011 46 #[.slice none 0 0] (0, 0) _ rfl (bU BK1011) Tryz.underlying46 rfl (by kernel_rfl)) rfl ?_
       exact ⟨_, by first | rfl | (simp [errW_none, errW_some] <;> rfl) | (simp [*, errW_none, errW_some] <;> rfl), by first | exact Kd.R_nil _ _ _ _ _ | exact Kd.N_nil _ _ _ _ _ | exact Kd.V_nil _ _ _ _ _ | exact Kd.Q_nil _ _ _ _ _ | exact Kd.S_nil _ _ _ _ _, bZ HB⟩
     ·replace c31 := Bool.eq_false_iff.mpr c31
      subst c31
      rw [if_neg (show ¬ (false = true) by decide)] at H
      simp only [Option.some.injEq, Prod.mk.injEq] at H
      obtain ⟨rfl, rfl⟩ := H
      obtain ⟨hnb44, hnc44⟩ := nB NB1012_1011
      obtain ⟨hcz45_0, hfz45_0⟩ := bK1 (w := wr) BK1012
      obtain ⟨Ao46, co46, eo46⟩ := Kd.R_slice HO_1013000.out
      subst eo46
      go_wp2_with (first | (refine gC (some 40) Tryz.func25 #[.agg #[.slice Ao46 x1013000_1.length co46]] ?_; (with_reducible refine (impl_CommitteeText.calls k1 _ _ x1013000_1 t1021 false _ ?side1 ?side2 A30.out).mono ?_); (case side1 => exact cP ((Kd.R_reads' HO_1013000.out).2.2)); (case side2 => exact (Kd.R_reads' HO_1013000.out).2.1); rintro e w47 ⟨rfl, hb⟩; refine ⟨_, rfl, ?_⟩; replace HO_1013000 := Aside0.mk (Kd.R_below (rP HO_1013000) hb); replace BK1011 := bB BK1011 hb; replace BK1012 := bB BK1012 hb; replace HB := bS HB hb; (try clear hb); obtain ⟨hcz48_0, hfz48_0⟩ := bK1 (w := w47) BK1011))
      refine bodyPost_ret (results_ct rfl _ _ gb1011 46 #[.slice none 0 0] (0, 0) _ rfl (bU BK1011) Tryz.underlying46 rfl (by kernel_rfl)) rfl ?_
      exact ⟨_, by first | rfl | (simp [errW_none, errW_some] <;> rfl) | (simp [*, errW_none, errW_some] <;> rfl), by first | exact Kd.R_nil _ _ _ _ _ | exact Kd.N_nil _ _ _ _ _ | exact Kd.V_nil _ _ _ _ _ | exact Kd.Q_nil _ _ _ _ _ | exact Kd.S_nil _ _ _ _ _, bZ HB⟩
 ·rw [if_neg c2] at H
  have c2b0 : ((a0.size : Int) == 27) = false := beq_eq_false_iff_ne.mpr c2
  have c2b1 : ((a0.size : Int) != 27) = true := bne_iff_ne.mpr c2
  simp only [Option.some.injEq, Prod.mk.injEq] at H
  obtain ⟨rfl, rfl⟩ := H
  go_enter Tryz.func28, Tryz.ntmps28
  go_wp2_with (first | (refine gB 2 #[.slice none 0 0] 46 ?_; intro gb1011 hg w49 BK1011 hb; have GW1011 := bG HB hg; replace HB := bS HB hb; clear hb hg; obtain ⟨hcz50_0, hfz50_0⟩ := bK1 (w := w49) BK1011))
  refine bodyPost_ret (results_ct rfl _ _ gb1011 46 #[.slice none 0 0] (0, 0) _ rfl (bU BK1011) Tryz.underlying46 rfl (by kernel_rfl)) rfl ?_
  exact ⟨_, by first | rfl | (simp [errW_none, errW_some] <;> rfl) | (simp [*, errW_none, errW_some] <;> rfl), by first | exact Kd.R_nil _ _ _ _ _ | exact Kd.N_nil _ _ _ _ _ | exact Kd.V_nil _ _ _ _ _ | exact Kd.Q_nil _ _ _ _ _ | exact Kd.S_nil _ _ _ _ _, bZ HB⟩
def spec_ReadPoint.j0 : Nat → ByteArray → Int → Bool → Option (Int × Int × Bool × Bool)
 | 0, _, _, _ => none
 | k + 1, x0, x4, x31 => if x31 = true then (some (0, 0, false, false)) else ((spec_l07Right.f x4).bind fun t1028 => ((spec_FpRoot.f k t1028).bind fun bt1029 => (if bt1029.2 = true then (if 2 < (x0.size : Int) then (if (Int.tmod bt1029.1 2) = (wrap64 (bt x0 2)) then ((spec_PointText.f x4 bt1029.1 false).bind fun t1032 => (if t1032.toList = x0.toList then (some (x4, bt1029.1, false, true)) else (some (0, 0, false, false)))) else ((spec_FpSub.f 0 bt1029.1).bind fun t1033 => ((spec_PointText.f x4 t1033 false).bind fun t1035 => (if t1035.toList = x0.toList then (some (x4, t1033, false, true)) else (some (0, 0, false, false)))))) else (none)) else (some (0, 0, false, false)))))
def spec_ReadPoint.f (k : Nat) (a0 : ByteArray) : Option (Int × Int × Bool × Bool) := if (a0.size : Int) = 3 then (if a0.toList = ([0, 0, 0] : List UInt8) then ((spec_l07Zero.f).bind fun bt1024 => (some (bt1024.1, bt1024.2.1, bt1024.2.2, true))) else (if 0 < (a0.size : Int) then (if 1 < (a0.size : Int) then ((spec_FpOk.f (wrap64 ((wrap64 ((wrap64 ((wrap64 (bt a0 0)) * 256)) + (wrap64 (bt a0 1)))) - 1))).bind fun t1027 => (if t1027 = true then (if 2 < (a0.size : Int) then (spec_ReadPoint.j0 k a0 (wrap64 ((wrap64 ((wrap64 ((wrap64 (bt a0 0)) * 256)) + (wrap64 (bt a0 1)))) - 1)) (decide ((bt a0 2) > 1))) else (none)) else (spec_ReadPoint.j0 k a0 (wrap64 ((wrap64 ((wrap64 ((wrap64 (bt a0 0)) * 256)) + (wrap64 (bt a0 1)))) - 1)) true))) else (none)) else (none))) else (some (0, 0, false, false))
theorem spec_ReadPoint.calls (k : Nat) (a0 : ByteArray) (r1 : Int) (r2 : Int) (r3 : Bool) (r4 : Bool) (w : World) (h : spec_ReadPoint.f k a0 = some (r1, r2, r3, r4)) :
  Calls Tryz.prog 76 #[.string a0] w fun e w' => e = .returned (.tuple #[.agg #[.int .i64 r1, .int .i64 r2, .bool r3], .bool r4]) ∧ Below w.heap.size w w' := by
 have hu28 := Tryz.underlying28
 have HB := Aside0.mk (Below.refl w.heap.size w)
 unfold spec_ReadPoint.f at h
 have H := h
 clear h
 by_cases c2 : (a0.size : Int) = 3
 ·rw [if_pos c2] at H
  have c2b0 : ((a0.size : Int) == 3) = true := beq_iff_eq.mpr c2
  have c2b1 : ((a0.size : Int) != 3) = false := bne_eq_false_iff_eq.mpr c2
  clear c2
  by_cases c3 : a0.toList = ([0, 0, 0] : List UInt8)
  ·rw [if_pos c3] at H
   have c3b0 : (a0.toList == ([0, 0, 0] : List UInt8)) = true := beq_iff_eq.mpr c3
   have c3b1 : (a0.toList != ([0, 0, 0] : List UInt8)) = false := bne_eq_false_iff_eq.mpr c3
   clear c3
   obtain ⟨⟨t1024, t1025, t1026⟩, A4, H⟩ := oB H
   simp only [Option.some.injEq, Prod.mk.injEq] at H
   obtain ⟨rfl, rfl, rfl, rfl⟩ := H
   go_enter Tryz.func76, Tryz.ntmps76
   go_wp2_with (first | (refine gB 2 #[.int .i64 0, .int .i64 0, .bool false] 28 ?_; intro gb1023 hg w5 BK1023 hb; have GW1023 := bG HB hg; replace HB := bS HB hb; clear hb hg) | (go_at_call 81; (with_reducible refine (spec_l07Zero.calls  t1024 t1025 t1026 _ A4.out).mono ?_); rintro e w6 ⟨rfl, hb⟩; replace BK1023 := bB BK1023 hb; replace HB := bS HB hb; (try clear hb); obtain ⟨hcz7_0, hcz7_1, hcz7_2, hfz7_0, hfz7_1, hfz7_2⟩ := bK3 (w := w6) BK1023))
   repeat (go_quiet (first | (refine gB 2 #[.int .i64 0, .int .i64 0, .bool false] 28 ?_; intro gb1023 hg w5 BK1023 hb; have GW1023 := bG HB hg; replace HB := bS HB hb; clear hb hg) | (go_at_call 81; (with_reducible refine (spec_l07Zero.calls  t1024 t1025 t1026 _ A4.out).mono ?_); rintro e w6 ⟨rfl, hb⟩; replace BK1023 := bB BK1023 hb; replace HB := bS HB hb; (try clear hb); obtain ⟨hcz7_0, hcz7_1, hcz7_2, hfz7_0, hfz7_1, hfz7_2⟩ := bK3 (w := w6) BK1023)); try go_wp2)
   refine bodyPost_ret (results_ct rfl _ _ gb1023 28 #[.int .i64 t1024, .int .i64 t1025, .bool t1026] (0, 0) _ rfl (bU BK1023) Tryz.underlying28 rfl (by kernel_rfl)) rfl ?_
   exact ⟨rR, bZ HB⟩
  ·rw [if_neg c3] at H
   have c3b0 : (a0.toList == ([0, 0, 0] : List UInt8)) = false := beq_eq_false_iff_ne.mpr c3
   have c3b1 : (a0.toList != ([0, 0, 0] : List UInt8)) = true := bne_iff_ne.mpr c3
   by_cases c8 : 0 < (a0.size : Int)
   ·rw [if_pos c8] at H
    have c8b0 := decide_eq_true c8
    have c8b1 : decide (0 < a0.size) = true := decide_eq_true (by omega)
    clear c8
    by_cases c10 : 1 < (a0.size : Int)
    ·rw [if_pos c10] at H
     have c10b0 := decide_eq_true c10
     have c10b1 : decide (1 < a0.size) = true := decide_eq_true (by omega)
     clear c10
     have HC12 := Aside0.mk H
     clear H
     go_enter Tryz.func76, Tryz.ntmps76
     go_upto_region 6 with (first | (refine gB 2 #[.int .i64 0, .int .i64 0, .bool false] 28 ?_; intro gb1023 hg w13 BK1023 hb; have GW1023 := bG HB hg; replace HB := bS HB hb; clear hb hg; obtain ⟨q9, hx9, qi9⟩ := sX a0 0 0; obtain ⟨q11, hx11, qi11⟩ := sX a0 1 1))
     repeat (go_quiet (first | (refine gB 2 #[.int .i64 0, .int .i64 0, .bool false] 28 ?_; intro gb1023 hg w13 BK1023 hb; have GW1023 := bG HB hg; replace HB := bS HB hb; clear hb hg; obtain ⟨q9, hx9, qi9⟩ := sX a0 0 0; obtain ⟨q11, hx11, qi11⟩ := sX a0 1 1)); go_upto_region 6 with (first | (refine gB 2 #[.int .i64 0, .int .i64 0, .bool false] 28 ?_; intro gb1023 hg w13 BK1023 hb; have GW1023 := bG HB hg; replace HB := bS HB hb; clear hb hg; obtain ⟨q9, hx9, qi9⟩ := sX a0 0 0; obtain ⟨q11, hx11, qi11⟩ := sX a0 1 1)))
     (try simp only [Act.put, List.setIfInBounds_toArray, List.set_cons_zero, List.set_cons_succ])
     go_cut [31] (fun v31 wc => ∃ (kq : Nat) (x31_11 : Bool), v31 = .bool x31_11 ∧ Aside0 (spec_ReadPoint.j0 kq a0 (wrap64 ((wrap64 ((wrap64 ((wrap64 (bt a0 0)) * 256)) + (wrap64 (bt a0 1)))) - 1)) x31_11 = some (r1, r2, r3, r4)) ∧ Aside0 (kq ≤ k) ∧ Aside0 (wc.heap[gb1023]? = some (.cells #[.int .i64 0, .int .i64 0, .bool false] 28 (0, 0))) ∧ Aside0 (Below w.heap.size w wc))
     case first =>
      have H := HC12.out
      clear HC12
      obtain ⟨t1027, A14, H⟩ := oB H
      by_cases c15 : t1027 = true
      ·subst c15
       rw [if_pos rfl] at H
       by_cases c16 : 2 < (a0.size : Int)
       ·rw [if_pos c16] at H
        have c16b0 := decide_eq_true c16
        have c16b1 : decide (2 < a0.size) = true := decide_eq_true (by omega)
        clear c16
        (first | rw [c16b0] | (simp only [i64_w, i32_w]; rw [c16b0]) | rw [c16b1] | skip)
        have H' := Aside0.mk H
        clear H
        go_wp2_with (first | (go_at_call 125; (with_reducible refine (spec_FpOk.calls (wrap64 ((wrap64 ((wrap64 ((wrap64 (bt a0 0)) * 256)) + (wrap64 (bt a0 1)))) - 1)) true _ A14.out).mono ?_); rintro e w' ⟨rfl, ⟨nd, rfl⟩⟩; (try exact tD); obtain ⟨q17, hx17, qi17⟩ := sX a0 2 2))
        repeat (go_quiet (first | (go_at_call 125; (with_reducible refine (spec_FpOk.calls (wrap64 ((wrap64 ((wrap64 ((wrap64 (bt a0 0)) * 256)) + (wrap64 (bt a0 1)))) - 1)) true _ A14.out).mono ?_); rintro e w' ⟨rfl, ⟨nd, rfl⟩⟩; (try exact tD); obtain ⟨q17, hx17, qi17⟩ := sX a0 2 2)); try go_wp2)
        go_meet
        case rel => exact ⟨_, (decide ((bt a0 2) > 1)), rS, H', ⟨by first | omega | exact Nat.le_refl _⟩, ⟨bP BK1023⟩, ⟨bZ HB⟩⟩
       ·rw [if_neg c16] at H
        exact absurd H (by simp)
      ·replace c15 := Bool.eq_false_iff.mpr c15
       subst c15
       rw [if_neg (show ¬ (false = true) by decide)] at H
       have H' := Aside0.mk H
       clear H
       go_wp2_with (first | (go_at_call 125; (with_reducible refine (spec_FpOk.calls (wrap64 ((wrap64 ((wrap64 ((wrap64 (bt a0 0)) * 256)) + (wrap64 (bt a0 1)))) - 1)) false _ A14.out).mono ?_); rintro e w' ⟨rfl, ⟨nd, rfl⟩⟩; (try exact tD)))
       repeat (go_quiet (first | (go_at_call 125; (with_reducible refine (spec_FpOk.calls (wrap64 ((wrap64 ((wrap64 ((wrap64 (bt a0 0)) * 256)) + (wrap64 (bt a0 1)))) - 1)) false _ A14.out).mono ?_); rintro e w' ⟨rfl, ⟨nd, rfl⟩⟩; (try exact tD))); try go_wp2)
       go_meet
       case rel => exact ⟨_, (true), rS, H', ⟨by first | omega | exact Nat.le_refl _⟩, ⟨bP BK1023⟩, ⟨bZ HB⟩⟩
     case rest =>
      clear HC12
      try clear c1
      try clear p1
      try clear q1
      try clear hx1
      try clear qi1
      try clear c2
      try clear c2b0
      try clear c2b1
      try clear p2
      try clear c3
      try clear c3b0
      try clear c3b1
      try clear p6
      try clear c7
      try clear c8
      try clear c8b0
      try clear c8b1
      try clear p9
      try clear q9
      try clear hx9
      try clear qi9
      try clear c10
      try clear c10b0
      try clear c10b1
      try clear p11
      try clear q11
      try clear hx11
      try clear qi11
      try clear c15
      try clear c16
      try clear c16b0
      try clear c16b1
      try clear p17
      try clear q17
      try clear hx17
      try clear qi17
      try clear hcz7_0
      try clear hcz7_1
      try clear hcz7_2
      try clear hfz7_0
      try clear hfz7_1
      try clear hfz7_2
      try clear p11
      try clear p17
      try clear p9
      try clear q11
      try clear q17
      try clear q9
      obtain ⟨kq, x31_11, rfl, HA, HJ11, BK1023, HB⟩ := hcut
      cases kq with
      | zero => exact absurd HA.out (by simp [spec_ReadPoint.j0])
      | succ kj11 =>
       have H := HA.out
       clear HA
       simp only [spec_ReadPoint.j0] at H
       by_cases c18 : x31_11 = true
       ·subst c18
        rw [if_pos rfl] at H
        simp only [Option.some.injEq, Prod.mk.injEq] at H
        obtain ⟨rfl, rfl, rfl, rfl⟩ := H
        obtain ⟨hcz19_0, hcz19_1, hcz19_2, hfz19_0, hfz19_1, hfz19_2⟩ := bK3 (w := wc) BK1023
        go_wp2
        repeat (go_quiet (fail); try go_wp2)
        refine bodyPost_ret (results_ct rfl _ _ gb1023 28 #[.int .i64 0, .int .i64 0, .bool false] (0, 0) _ rfl (bU BK1023) Tryz.underlying28 rfl (by kernel_rfl)) rfl ?_
        exact ⟨rR, bZ HB⟩
       ·replace c18 := Bool.eq_false_iff.mpr c18
        subst c18
        rw [if_neg (show ¬ (false = true) by decide)] at H
        obtain ⟨t1028, A20, H⟩ := oB H
        obtain ⟨⟨t1029, t1030⟩, A21, H⟩ := oB H
        by_cases c22 : t1030 = true
        ·subst c22
         rw [if_pos rfl] at H
         by_cases c23 : 2 < (a0.size : Int)
         ·rw [if_pos c23] at H
          have c23b0 := decide_eq_true c23
          have c23b1 : decide (2 < a0.size) = true := decide_eq_true (by omega)
          clear c23
          by_cases c25 : (Int.tmod t1029 2) = (wrap64 (bt a0 2))
          ·rw [if_pos c25] at H
           have c25b0 : ((Int.tmod t1029 2) == (wrap64 (bt a0 2))) = true := beq_iff_eq.mpr c25
           have c25b1 : ((Int.tmod t1029 2) != (wrap64 (bt a0 2))) = false := bne_eq_false_iff_eq.mpr c25
           clear c25
           obtain ⟨t1032, A26, H⟩ := oB H
           by_cases c27 : t1032.toList = a0.toList
           ·rw [if_pos c27] at H
            have c27b0 : (t1032.toList == a0.toList) = true := beq_iff_eq.mpr c27
            have c27b1 : (t1032.toList != a0.toList) = false := bne_eq_false_iff_eq.mpr c27
            clear c27
            simp only [Option.some.injEq, Prod.mk.injEq] at H
            obtain ⟨rfl, rfl, rfl, rfl⟩ := H
            go_wp2_with (first | (go_at_call 64; (with_reducible refine (spec_l07Right.calls (wrap64 ((wrap64 ((wrap64 ((wrap64 (bt a0 0)) * 256)) + (wrap64 (bt a0 1)))) - 1)) t1028 _ A20.out).mono ?_); rintro e w' ⟨rfl, ⟨nd, rfl⟩⟩; (try exact tD)) | (go_at_call 63; (with_reducible refine (spec_FpRoot.calls kj11 t1028 t1029 true _ A21.out).mono ?_); rintro e w' ⟨rfl, ⟨nd, rfl⟩⟩; (try exact tD); obtain ⟨q24, hx24, qi24⟩ := sX a0 2 2) | (refine gB 7 #[.int .i64 0, .int .i64 0, .bool false] 28 ?_; intro gb1031 hg w28 BK1031 hb; have GW1031 := bG HB hg; replace HB := bS HB hb; obtain ⟨NB1023_1031, NB1031_1023⟩ := bN BK1023 hg; replace BK1023 := bB BK1023 hb; clear hb hg; obtain ⟨hnb29, hnc29⟩ := nB NB1031_1023; obtain ⟨hcz30_0, hcz30_1, hcz30_2, hfz30_0, hfz30_1, hfz30_2⟩ := bK3 (w := w28) BK1031) | (go_at_call 73; (with_reducible refine (spec_PointText.calls (wrap64 ((wrap64 ((wrap64 ((wrap64 (bt a0 0)) * 256)) + (wrap64 (bt a0 1)))) - 1)) t1029 false t1032 _ A26.out).mono ?_); rintro e w31 ⟨rfl, hb⟩; replace BK1023 := bB BK1023 hb; replace BK1031 := bV 28 #[.int .i64 (wrap64 ((wrap64 ((wrap64 ((wrap64 (bt a0 0)) * 256)) + (wrap64 (bt a0 1)))) - 1)), .int .i64 t1029, .bool false] BK1031 hb; replace HB := bS HB hb; (try clear hb); obtain ⟨hcz32_0, hcz32_1, hcz32_2, hfz32_0, hfz32_1, hfz32_2⟩ := bK3 (w := w31) BK1031; obtain ⟨hcz33_0, hcz33_1, hcz33_2, hfz33_0, hfz33_1, hfz33_2⟩ := bK3 (w := w31) BK1023))
            repeat (go_quiet (first | (go_at_call 64; (with_reducible refine (spec_l07Right.calls (wrap64 ((wrap64 ((wrap64 ((wrap64 (bt a0 0)) * 256)) + (wrap64 (bt a0 1)))) - 1)) t1028 _ A20.out).mono ?_); rintro e w' ⟨rfl, ⟨nd, rfl⟩⟩; (try exact tD)) | (go_at_call 63; (with_reducible refine (spec_FpRoot.calls kj11 t1028 t1029 true _ A21.out).mono ?_); rintro e w' ⟨rfl, ⟨nd, rfl⟩⟩; (try exact tD); obtain ⟨q24, hx24, qi24⟩ := sX a0 2 2) | (refine gB 7 #[.int .i64 0, .int .i64 0, .bool false] 28 ?_; intro gb1031 hg w28 BK1031 hb; have GW1031 := bG HB hg; replace HB := bS HB hb; obtain ⟨NB1023_1031, NB1031_1023⟩ := bN BK1023 hg; replace BK1023 := bB BK1023 hb; clear hb hg; obtain ⟨hnb29, hnc29⟩ := nB NB1031_1023; obtain ⟨hcz30_0, hcz30_1, hcz30_2, hfz30_0, hfz30_1, hfz30_2⟩ := bK3 (w := w28) BK1031) | (go_at_call 73; (with_reducible refine (spec_PointText.calls (wrap64 ((wrap64 ((wrap64 ((wrap64 (bt a0 0)) * 256)) + (wrap64 (bt a0 1)))) - 1)) t1029 false t1032 _ A26.out).mono ?_); rintro e w31 ⟨rfl, hb⟩; replace BK1023 := bB BK1023 hb; replace BK1031 := bV 28 #[.int .i64 (wrap64 ((wrap64 ((wrap64 ((wrap64 (bt a0 0)) * 256)) + (wrap64 (bt a0 1)))) - 1)), .int .i64 t1029, .bool false] BK1031 hb; replace HB := bS HB hb; (try clear hb); obtain ⟨hcz32_0, hcz32_1, hcz32_2, hfz32_0, hfz32_1, hfz32_2⟩ := bK3 (w := w31) BK1031; obtain ⟨hcz33_0, hcz33_1, hcz33_2, hfz33_0, hfz33_1, hfz33_2⟩ := bK3 (w := w31) BK1023)); try go_wp2)
            refine bodyPost_ret (results_ct rfl _ _ gb1023 28 #[.int .i64 (wrap64 ((wrap64 ((wrap64 ((wrap64 (bt a0 0)) * 256)) + (wrap64 (bt a0 1)))) - 1)), .int .i64 t1029, .bool false] (0, 0) _ rfl (bU BK1023) Tryz.underlying28 rfl (by kernel_rfl)) rfl ?_
            exact ⟨rR, bZ HB⟩
           ·rw [if_neg c27] at H
            have c27b0 : (t1032.toList == a0.toList) = false := beq_eq_false_iff_ne.mpr c27
            have c27b1 : (t1032.toList != a0.toList) = true := bne_iff_ne.mpr c27
            simp only [Option.some.injEq, Prod.mk.injEq] at H
            obtain ⟨rfl, rfl, rfl, rfl⟩ := H
            go_wp2_with (first | (go_at_call 64; (with_reducible refine (spec_l07Right.calls (wrap64 ((wrap64 ((wrap64 ((wrap64 (bt a0 0)) * 256)) + (wrap64 (bt a0 1)))) - 1)) t1028 _ A20.out).mono ?_); rintro e w' ⟨rfl, ⟨nd, rfl⟩⟩; (try exact tD)) | (go_at_call 63; (with_reducible refine (spec_FpRoot.calls kj11 t1028 t1029 true _ A21.out).mono ?_); rintro e w' ⟨rfl, ⟨nd, rfl⟩⟩; (try exact tD); obtain ⟨q24, hx24, qi24⟩ := sX a0 2 2) | (refine gB 7 #[.int .i64 0, .int .i64 0, .bool false] 28 ?_; intro gb1031 hg w34 BK1031 hb; have GW1031 := bG HB hg; replace HB := bS HB hb; obtain ⟨NB1023_1031, NB1031_1023⟩ := bN BK1023 hg; replace BK1023 := bB BK1023 hb; clear hb hg; obtain ⟨hnb35, hnc35⟩ := nB NB1031_1023; obtain ⟨hcz36_0, hcz36_1, hcz36_2, hfz36_0, hfz36_1, hfz36_2⟩ := bK3 (w := w34) BK1031) | (go_at_call 73; (with_reducible refine (spec_PointText.calls (wrap64 ((wrap64 ((wrap64 ((wrap64 (bt a0 0)) * 256)) + (wrap64 (bt a0 1)))) - 1)) t1029 false t1032 _ A26.out).mono ?_); rintro e w37 ⟨rfl, hb⟩; replace BK1023 := bB BK1023 hb; replace BK1031 := bV 28 #[.int .i64 (wrap64 ((wrap64 ((wrap64 ((wrap64 (bt a0 0)) * 256)) + (wrap64 (bt a0 1)))) - 1)), .int .i64 t1029, .bool false] BK1031 hb; replace HB := bS HB hb; (try clear hb); obtain ⟨hcz38_0, hcz38_1, hcz38_2, hfz38_0, hfz38_1, hfz38_2⟩ := bK3 (w := w37) BK1023))
            repeat (go_quiet (first | (go_at_call 64; (with_reducible refine (spec_l07Right.calls (wrap64 ((wrap64 ((wrap64 ((wrap64 (bt a0 0)) * 256)) + (wrap64 (bt a0 1)))) - 1)) t1028 _ A20.out).mono ?_); rintro e w' ⟨rfl, ⟨nd, rfl⟩⟩; (try exact tD)) | (go_at_call 63; (with_reducible refine (spec_FpRoot.calls kj11 t1028 t1029 true _ A21.out).mono ?_); rintro e w' ⟨rfl, ⟨nd, rfl⟩⟩; (try exact tD); obtain ⟨q24, hx24, qi24⟩ := sX a0 2 2) | (refine gB 7 #[.int .i64 0, .int .i64 0, .bool false] 28 ?_; intro gb1031 hg w34 BK1031 hb; have GW1031 := bG HB hg; replace HB := bS HB hb; obtain ⟨NB1023_1031, NB1031_1023⟩ := bN BK1023 hg; replace BK1023 := bB BK1023 hb; clear hb hg; obtain ⟨hnb35, hnc35⟩ := nB NB1031_1023; obtain ⟨hcz36_0, hcz36_1, hcz36_2, hfz36_0, hfz36_1, hfz36_2⟩ := bK3 (w := w34) BK1031) | (go_at_call 73; (with_reducible refine (spec_PointText.calls (wrap64 ((wrap64 ((wrap64 ((wrap64 (bt a0 0)) * 256)) + (wrap64 (bt a0 1)))) - 1)) t1029 false t1032 _ A26.out).mono ?_); rintro e w37 ⟨rfl, hb⟩; replace BK1023 := bB BK1023 hb; replace BK1031 := bV 28 #[.int .i64 (wrap64 ((wrap64 ((wrap64 ((wrap64 (bt a0 0)) * 256)) + (wrap64 (bt a0 1)))) - 1)), .int .i64 t1029, .bool false] BK1031 hb; replace HB := bS HB hb; (try clear hb); obtain ⟨hcz38_0, hcz38_1, hcz38_2, hfz38_0, hfz38_1, hfz38_2⟩ := bK3 (w := w37) BK1023)); try go_wp2)
            refine bodyPost_ret (results_ct rfl _ _ gb1023 28 #[.int .i64 0, .int .i64 0, .bool false] (0, 0) _ rfl (bU BK1023) Tryz.underlying28 rfl (by kernel_rfl)) rfl ?_
            exact ⟨rR, bZ HB⟩
          ·rw [if_neg c25] at H
           have c25b0 : ((Int.tmod t1029 2) == (wrap64 (bt a0 2))) = false := beq_eq_false_iff_ne.mpr c25
           have c25b1 : ((Int.tmod t1029 2) != (wrap64 (bt a0 2))) = true := bne_iff_ne.mpr c25
           obtain ⟨t1033, A39, H⟩ := oB H
           obtain ⟨t1035, A40, H⟩ := oB H
           by_cases c41 : t1035.toList = a0.toList
           ·rw [if_pos c41] at H
            have c41b0 : (t1035.toList == a0.toList) = true := beq_iff_eq.mpr c41
            have c41b1 : (t1035.toList != a0.toList) = false := bne_eq_false_iff_eq.mpr c41
            clear c41
            simp only [Option.some.injEq, Prod.mk.injEq] at H
            obtain ⟨rfl, rfl, rfl, rfl⟩ := H
            go_wp2_with (first | (go_at_call 64; (with_reducible refine (spec_l07Right.calls (wrap64 ((wrap64 ((wrap64 ((wrap64 (bt a0 0)) * 256)) + (wrap64 (bt a0 1)))) - 1)) t1028 _ A20.out).mono ?_); rintro e w' ⟨rfl, ⟨nd, rfl⟩⟩; (try exact tD)) | (go_at_call 63; (with_reducible refine (spec_FpRoot.calls kj11 t1028 t1029 true _ A21.out).mono ?_); rintro e w' ⟨rfl, ⟨nd, rfl⟩⟩; (try exact tD); obtain ⟨q24, hx24, qi24⟩ := sX a0 2 2) | (go_at_call 113; (with_reducible refine (spec_FpSub.calls 0 t1029 t1033 _ A39.out).mono ?_); rintro e w' ⟨rfl, ⟨nd, rfl⟩⟩; (try exact tD)) | (refine gB 7 #[.int .i64 0, .int .i64 0, .bool false] 28 ?_; intro gb1034 hg w42 BK1034 hb; have GW1034 := bG HB hg; replace HB := bS HB hb; obtain ⟨NB1023_1034, NB1034_1023⟩ := bN BK1023 hg; replace BK1023 := bB BK1023 hb; clear hb hg; obtain ⟨hnb43, hnc43⟩ := nB NB1034_1023; obtain ⟨hcz44_0, hcz44_1, hcz44_2, hfz44_0, hfz44_1, hfz44_2⟩ := bK3 (w := w42) BK1034) | (go_at_call 73; (with_reducible refine (spec_PointText.calls (wrap64 ((wrap64 ((wrap64 ((wrap64 (bt a0 0)) * 256)) + (wrap64 (bt a0 1)))) - 1)) t1033 false t1035 _ A40.out).mono ?_); rintro e w45 ⟨rfl, hb⟩; replace BK1023 := bB BK1023 hb; replace BK1034 := bV 28 #[.int .i64 (wrap64 ((wrap64 ((wrap64 ((wrap64 (bt a0 0)) * 256)) + (wrap64 (bt a0 1)))) - 1)), .int .i64 t1033, .bool false] BK1034 hb; replace HB := bS HB hb; (try clear hb); obtain ⟨hcz46_0, hcz46_1, hcz46_2, hfz46_0, hfz46_1, hfz46_2⟩ := bK3 (w := w45) BK1034; obtain ⟨hcz47_0, hcz47_1, hcz47_2, hfz47_0, hfz47_1, hfz47_2⟩ := bK3 (w := w45) BK1023))
            repeat (go_quiet (first | (go_at_call 64; (with_reducible refine (spec_l07Right.calls (wrap64 ((wrap64 ((wrap64 ((wrap64 (bt a0 0)) * 256)) + (wrap64 (bt a0 1)))) - 1)) t1028 _ A20.out).mono ?_); rintro e w' ⟨rfl, ⟨nd, rfl⟩⟩; (try exact tD)) | (go_at_call 63; (with_reducible refine (spec_FpRoot.calls kj11 t1028 t1029 true _ A21.out).mono ?_); rintro e w' ⟨rfl, ⟨nd, rfl⟩⟩; (try exact tD); obtain ⟨q24, hx24, qi24⟩ := sX a0 2 2) | (go_at_call 113; (with_reducible refine (spec_FpSub.calls 0 t1029 t1033 _ A39.out).mono ?_); rintro e w' ⟨rfl, ⟨nd, rfl⟩⟩; (try exact tD)) | (refine gB 7 #[.int .i64 0, .int .i64 0, .bool false] 28 ?_; intro gb1034 hg w42 BK1034 hb; have GW1034 := bG HB hg; replace HB := bS HB hb; obtain ⟨NB1023_1034, NB1034_1023⟩ := bN BK1023 hg; replace BK1023 := bB BK1023 hb; clear hb hg; obtain ⟨hnb43, hnc43⟩ := nB NB1034_1023; obtain ⟨hcz44_0, hcz44_1, hcz44_2, hfz44_0, hfz44_1, hfz44_2⟩ := bK3 (w := w42) BK1034) | (go_at_call 73; (with_reducible refine (spec_PointText.calls (wrap64 ((wrap64 ((wrap64 ((wrap64 (bt a0 0)) * 256)) + (wrap64 (bt a0 1)))) - 1)) t1033 false t1035 _ A40.out).mono ?_); rintro e w45 ⟨rfl, hb⟩; replace BK1023 := bB BK1023 hb; replace BK1034 := bV 28 #[.int .i64 (wrap64 ((wrap64 ((wrap64 ((wrap64 (bt a0 0)) * 256)) + (wrap64 (bt a0 1)))) - 1)), .int .i64 t1033, .bool false] BK1034 hb; replace HB := bS HB hb; (try clear hb); obtain ⟨hcz46_0, hcz46_1, hcz46_2, hfz46_0, hfz46_1, hfz46_2⟩ := bK3 (w := w45) BK1034; obtain ⟨hcz47_0, hcz47_1, hcz47_2, hfz47_0, hfz47_1, hfz47_2⟩ := bK3 (w := w45) BK1023)); try go_wp2)
            refine bodyPost_ret (results_ct rfl _ _ gb1023 28 #[.int .i64 (wrap64 ((wrap64 ((wrap64 ((wrap64 (bt a0 0)) * 256)) + (wrap64 (bt a0 1)))) - 1)), .int .i64 t1033, .bool false] (0, 0) _ rfl (bU BK1023) Tryz.underlying28 rfl (by kernel_rfl)) rfl ?_
            exact ⟨rR, bZ HB⟩
           ·rw [if_neg c41] at H
            have c41b0 : (t1035.toList == a0.toList) = false := beq_eq_false_iff_ne.mpr c41
            have c41b1 : (t1035.toList != a0.toList) = true := bne_iff_ne.mpr c41
            simp only [Option.some.injEq, Prod.mk.injEq] at H
            obtain ⟨rfl, rfl, rfl, rfl⟩ := H
            go_wp2_with (first | (go_at_call 64; (with_reducible refine (spec_l07Right.calls (wrap64 ((wrap64 ((wrap64 ((wrap64 (bt a0 0)) * 256)) + (wrap64 (bt a0 1)))) - 1)) t1028 _ A20.out).mono ?_); rintro e w' ⟨rfl, ⟨nd, rfl⟩⟩; (try exact tD)) | (go_at_call 63; (with_reducible refine (spec_FpRoot.calls kj11 t1028 t1029 true _ A21.out).mono ?_); rintro e w' ⟨rfl, ⟨nd, rfl⟩⟩; (try exact tD); obtain ⟨q24, hx24, qi24⟩ := sX a0 2 2) | (go_at_call 113; (with_reducible refine (spec_FpSub.calls 0 t1029 t1033 _ A39.out).mono ?_); rintro e w' ⟨rfl, ⟨nd, rfl⟩⟩; (try exact tD)) | (refine gB 7 #[.int .i64 0, .int .i64 0, .bool false] 28 ?_; intro gb1034 hg w48 BK1034 hb; have GW1034 := bG HB hg; replace HB := bS HB hb; obtain ⟨NB1023_1034, NB1034_1023⟩ := bN BK1023 hg; replace BK1023 := bB BK1023 hb; clear hb hg; obtain ⟨hnb49, hnc49⟩ := nB NB1034_1023; obtain ⟨hcz50_0, hcz50_1, hcz50_2, hfz50_0, hfz50_1, hfz50_2⟩ := bK3 (w := w48) BK1034) | (go_at_call 73; (with_reducible refine (spec_PointText.calls (wrap64 ((wrap64 ((wrap64 ((wrap64 (bt a0 0)) * 256)) + (wrap64 (bt a0 1)))) - 1)) t1033 false t1035 _ A40.out).mono ?_); rintro e w51 ⟨rfl, hb⟩; replace BK1023 := bB BK1023 hb; replace BK1034 := bV 28 #[.int .i64 (wrap64 ((wrap64 ((wrap64 ((wrap64 (bt a0 0)) * 256)) + (wrap64 (bt a0 1)))) - 1)), .int .i64 t1033, .bool false] BK1034 hb; replace HB := bS HB hb; (try clear hb); obtain ⟨hcz52_0, hcz52_1, hcz52_2, hfz52_0, hfz52_1, hfz52_2⟩ := bK3 (w := w51) BK1023))
            repeat (go_quiet (first | (go_at_call 64; (with_reducible refine (spec_l07Right.calls (wrap64 ((wrap64 ((wrap64 ((wrap64 (bt a0 0)) * 256)) + (wrap64 (bt a0 1)))) - 1)) t1028 _ A20.out).mono ?_); rintro e w' ⟨rfl, ⟨nd, rfl⟩⟩; (try exact tD)) | (go_at_call 63; (with_reducible refine (spec_FpRoot.calls kj11 t1028 t1029 true _ A21.out).mono ?_); rintro e w' ⟨rfl, ⟨nd, rfl⟩⟩; (try exact tD); obtain ⟨q24, hx24, qi24⟩ := sX a0 2 2) | (go_at_call 113; (with_reducible refine (spec_FpSub.calls 0 t1029 t1033 _ A39.out).mono ?_); rintro e w' ⟨rfl, ⟨nd, rfl⟩⟩; (try exact tD)) | (refine gB 7 #[.int .i64 0, .int .i64 0, .bool false] 28 ?_; intro gb1034 hg w48 BK1034 hb; have GW1034 := bG HB hg; replace HB := bS HB hb; obtain ⟨NB1023_1034, NB1034_1023⟩ := bN BK1023 hg; replace BK1023 := bB BK1023 hb; clear hb hg; obtain ⟨hnb49, hnc49⟩ := nB NB1034_1023; obtain ⟨hcz50_0, hcz50_1, hcz50_2, hfz50_0, hfz50_1, hfz50_2⟩ := bK3 (w := w48) BK1034) | (go_at_call 73; (with_reducible refine (spec_PointText.calls (wrap64 ((wrap64 ((wrap64 ((wrap64 (bt a0 0)) * 256)) + (wrap64 (bt a0 1)))) - 1)) t1033 false t1035 _ A40.out).mono ?_); rintro e w51 ⟨rfl, hb⟩; replace BK1023 := bB BK1023 hb; replace BK1034 := bV 28 #[.int .i64 (wrap64 ((wrap64 ((wrap64 ((wrap64 (bt a0 0)) * 256)) + (wrap64 (bt a0 1)))) - 1)), .int .i64 t1033, .bool false] BK1034 hb; replace HB := bS HB hb; (try clear hb); obtain ⟨hcz52_0, hcz52_1, hcz52_2, hfz52_0, hfz52_1, hfz52_2⟩ := bK3 (w := w51) BK1023)); try go_wp2)
            refine bodyPost_ret (results_ct rfl _ _ gb1023 28 #[.int .i64 0, .int .i64 0, .bool false] (0, 0) _ rfl (bU BK1023) Tryz.underlying28 rfl (by kernel_rfl)) rfl ?_
            exact ⟨rR, bZ HB⟩
         ·rw [if_neg c23] at H
          exact absurd H (by simp)
        ·replace c22 := Bool.eq_false_iff.mpr c22
         subst c22
         rw [if_neg (show ¬ (false = true) by decide)] at H
         simp only [Option.some.injEq, Prod.mk.injEq] at H
         obtain ⟨rfl, rfl, rfl, rfl⟩ := H
         go_wp2_with (first | (go_at_call 64; (with_reducible refine (spec_l07Right.calls (wrap64 ((wrap64 ((wrap64 ((wrap64 (bt a0 0)) * 256)) + (wrap64 (bt a0 1)))) - 1)) t1028 _ A20.out).mono ?_); rintro e w' ⟨rfl, ⟨nd, rfl⟩⟩; (try exact tD)) | (go_at_call 63; (with_reducible refine (spec_FpRoot.calls kj11 t1028 t1029 false _ A21.out).mono ?_); rintro e w' ⟨rfl, ⟨nd, rfl⟩⟩; (try exact tD); obtain ⟨hcz53_0, hcz53_1, hcz53_2, hfz53_0, hfz53_1, hfz53_2⟩ := bK3 (w := wc) BK1023))
         repeat (go_quiet (first | (go_at_call 64; (with_reducible refine (spec_l07Right.calls (wrap64 ((wrap64 ((wrap64 ((wrap64 (bt a0 0)) * 256)) + (wrap64 (bt a0 1)))) - 1)) t1028 _ A20.out).mono ?_); rintro e w' ⟨rfl, ⟨nd, rfl⟩⟩; (try exact tD)) | (go_at_call 63; (with_reducible refine (spec_FpRoot.calls kj11 t1028 t1029 false _ A21.out).mono ?_); rintro e w' ⟨rfl, ⟨nd, rfl⟩⟩; (try exact tD); obtain ⟨hcz53_0, hcz53_1, hcz53_2, hfz53_0, hfz53_1, hfz53_2⟩ := bK3 (w := wc) BK1023)); try go_wp2)
         refine bodyPost_ret (results_ct rfl _ _ gb1023 28 #[.int .i64 0, .int .i64 0, .bool false] (0, 0) _ rfl (bU BK1023) Tryz.underlying28 rfl (by kernel_rfl)) rfl ?_
         exact ⟨rR, bZ HB⟩
    ·rw [if_neg c10] at H
     exact absurd H (by simp)
   ·rw [if_neg c8] at H
    exact absurd H (by simp)
 ·rw [if_neg c2] at H
  have c2b0 : ((a0.size : Int) == 3) = false := beq_eq_false_iff_ne.mpr c2
  have c2b1 : ((a0.size : Int) != 3) = true := bne_iff_ne.mpr c2
  simp only [Option.some.injEq, Prod.mk.injEq] at H
  obtain ⟨rfl, rfl, rfl, rfl⟩ := H
  go_enter Tryz.func76, Tryz.ntmps76
  go_wp2_with (first | (refine gB 2 #[.int .i64 0, .int .i64 0, .bool false] 28 ?_; intro gb1023 hg w54 BK1023 hb; have GW1023 := bG HB hg; replace HB := bS HB hb; clear hb hg; obtain ⟨hcz55_0, hcz55_1, hcz55_2, hfz55_0, hfz55_1, hfz55_2⟩ := bK3 (w := w54) BK1023))
  repeat (go_quiet (first | (refine gB 2 #[.int .i64 0, .int .i64 0, .bool false] 28 ?_; intro gb1023 hg w54 BK1023 hb; have GW1023 := bG HB hg; replace HB := bS HB hb; clear hb hg; obtain ⟨hcz55_0, hcz55_1, hcz55_2, hfz55_0, hfz55_1, hfz55_2⟩ := bK3 (w := w54) BK1023)); try go_wp2)
  refine bodyPost_ret (results_ct rfl _ _ gb1023 28 #[.int .i64 0, .int .i64 0, .bool false] (0, 0) _ rfl (bU BK1023) Tryz.underlying28 rfl (by kernel_rfl)) rfl ?_
  exact ⟨rR, bZ HB⟩
end Go.Proofs.YtkdmplfldfagnaaGreatDoor.Pf
end
