/- What is proved here: part 2 of 5 of the proof of the given statement FnExactSigOk: the contracts of the Go functions that it reaches, the plain facts on lists and numbers, and (in the last part) the statement itself. No conditions beyond the given ones. -/
import Derived.Test.YtkdmplfldfagnaaDoorMFnExactSigOka
import Derived.Test.YtkdmplfldfagnaaDoorMFnExactSigOkwSlim

section
/- What is proved here: steps of Keccak as the program and the reference write it: what each function answers. No conditions but those that each theorem names. -/
namespace Go.Proofs.YtkdmplfldfagnaaDoor.Kp
open Go.RowKit Go.Proofs.YtkdmplfldfagnaaDoorW.PrintWords Go.Proofs.YtkdmplfldfagnaaDoorW.PrintLast Go.Proofs.YtkdmplfldfagnaaDoorW.PrintMore
set_option linter.unusedVariables false
set_option linter.unusedSimpArgs false
theorem word_l0 (k : Nat) : ∀ (p : ByteArray) (a x i : Int), spec_l03Word.l0 k p a x i = impl_wordAt.l0 k p a x i := by
  induction k with
  | zero => intro p a x i; rfl
  | succ k ih => intro p a x i; simp only [spec_l03Word.l0, impl_wordAt.l0, ih]
theorem word_f (p : ByteArray) (a : Nat) (h : a + 8 ≤ p.size) (hp : p.size ≤ 281474976710656) : spec_l03Word.f 9 p (a : Int) = some (wv p a) := by
  rw [← wordAt_f p a h hp]
  exact word_l0 9 p _ _ _
def abstS (p : ByteArray) : Nat → List Int
  | 0 => List.replicate 25 0
  | j + 1 => allS (xst (abstS p j) p (136 * j) 17) 24
theorem abstS_len (p : ByteArray) (j : Nat) : (abstS p j).length = 25 := by
  induction j with
  | zero => rfl
  | succ j ih => simp only [abstS, allS_len, xst_len]; exact ih
def digS (t : ByteArray) : ByteArray := (strOfNums (tby (abstS (padT t) (t.size / 136 + 1)) 200)).extract 0 32
def spec_Digest.f (a0 : ByteArray) : Option ByteArray := if a0.size ≤ 140737488351232 then some (digS a0) else none
theorem tby_size (s : List Int) : (strOfNums (tby s 200)).size = 200 := by
  rw [strOf_size, tby_len]
def spec_Digest.T9 : Bool × List (List Nat × List Nat) := (true, [([], []), ([], []), ([1], [1]), ([2], [2]), ([], []), ([], []), ([], []), ([6], [6]), ([5, 7], [5, 7]), ([4, 8], [4, 8]), ([3, 9], [3, 9]), ([0, 0, 1, 2, 3, 4, 5, 6, 7, 8, 9, 10], [0]), ([11, 10, 9, 0, 1, 2, 3, 4, 5, 6, 7, 8, 9, 10], [10, 11])])
def spec_Digest.B9 : List Nat := [0, 0, 2, 6, 0, 0, 0, 64, 224, 496, 1022, 2047, 4095]
theorem spec_Digest.tab9 : rtab .any (opsOf Tryd.f41 9) = spec_Digest.T9 := by kernel_rfl
theorem spec_Digest.bits9 : waitsOk spec_Digest.T9.2 spec_Digest.B9 = true := by kernel_rfl
set_option maxHeartbeats 8000000 in
set_option maxRecDepth 100000 in
theorem spec_Digest.calls (t : ByteArray) (r : ByteArray) (w : World) (h : spec_Digest.f t = some r) :
    Calls Tryd.prog 41 #[.string t] w fun e w' => e = .returned (.string r) ∧ Below w.heap.size w w' := by
  unfold spec_Digest.f at h
  by_cases ht : t.size ≤ 140737488351232
  case neg => rw [if_neg ht] at h; exact absurd h (by simp)
  rw [if_pos ht] at h
  obtain rfl := Option.some.inj h
  clear h
  have HTt := Aside0.mk ht
  have HB := Aside0.mk (Below.refl w.heap.size w)
  clear ht
  obtain ⟨pd, hpd⟩ : ∃ p_, p_ = padT t := ⟨_, rfl⟩
  have HPD := Aside0.mk hpd
  have HPS := Aside0.mk (show pd.size = 136 * (t.size / 136 + 1) by rw [hpd]; exact padT_size t)
  clear hpd
  go_enter Tryd.func41, Tryd.ntmps41
  go_wp2_with (first | (go_at_call 79; (with_reducible refine (spec_KeccakPad.calls t HTt.out _).mono ?_); rintro e w1_ ⟨rfl, hb⟩; have n0_ := Aside0.mk (below_then (by repeat (first | exact HB.out | apply Below.drew | apply pw_below_drewN)) (Below.size (by repeat (first | exact HB.out | apply Below.drew | apply pw_below_drewN))) hb); clear HB; have HB := n0_; clear n0_ hb; rw [show strOfNums (padL (nb t)) = pd from HPD.out.symm]) | ((with_reducible refine gate_dst (N := 9) rfl ?_); refine wpList_buildA rfl 92 _ rfl (cs := ue (List.replicate 25 0)) ?hb ?_; (case hb => exact built0_92)) | ((with_reducible refine gate_dst (N := 4) rfl ?_); refine box_event ?hg (N := 4) ?hd (cs := ue (List.replicate 25 0)) (t := 92) ?hr ?_; (case hd => rfl); (case hg => rfl); (case hr => first | (go_simp; done) | (go_simp; rfl)); intro g hg w2_ hbox hb; have n0_ := Aside0.mk (below_then (by repeat (first | exact HB.out | apply Below.drew | apply pw_below_drewN)) (Below.size (by repeat (first | exact HB.out | apply Below.drew | apply pw_below_drewN))) hb); have GEs := Aside0.mk (show w.heap.size ≤ g by rw [hg]; exact Below.size (by repeat (first | exact HB.out | apply Below.drew | apply pw_below_drewN))); clear HB; have HB := n0_; have BKs := Aside0.mk hbox; clear n0_ hb hbox hg) | ((with_reducible refine gate_store (t := 92) (p := 4) rfl ?_); refine store_row_event rfl 92 _ _ rfl g (ue (List.replicate 25 0)) rfl rfl 92 (ue (List.replicate 25 0)) (by (with_reducible repeat (first | refine blk_drewN ?_ _ | refine blk_drew ?_)); exact BKs.out) (by kernel_rfl) rfl (ue_one _) ?_; intro w9_ h1_ h2_ h3_; have n0_ := Aside0.mk (h3_ w.heap.size w (by repeat (first | exact HB.out | apply Below.drew | apply pw_below_drewN | refine Below.setCell ?_ GEs.out _)) GEs.out); clear HB BKs; have HB := n0_; have BKs := Aside0.mk h1_; clear n0_ h1_ h2_ h3_))
  go_loopg [5] (t.size / 136 + 2) (fun kq v5 w' => ∃ (j : Nat) (x : Int), v5 = .int .i64 x ∧ Aside0 (x = ((136 * j : Nat) : Int) ∧ j + kq = t.size / 136 + 2 ∧ j ≤ t.size / 136 + 1) ∧ Aside0 (w'.heap[g]? = some (.cells (ue (abstS pd j)) 92 (0, 0))) ∧ Aside0 (Below w.heap.size w w'))
  case atStart => exact ⟨0, 0, rfl, ⟨rfl, by omega, by omega⟩, ⟨by (with_reducible repeat (first | refine blk_drewN ?_ _ | refine blk_drew ?_)); exact BKs.out⟩, ⟨(by repeat (first | exact HB.out | apply Below.drew | apply pw_below_drewN | refine Below.setCell ?_ GEs.out _))⟩⟩
  case round =>
    clear BKs HB
    obtain ⟨J, at_, rfl, HK1, BKs, HB⟩ := hrel
    cases gk with
    | zero => exact absurd HK1.out (by omega)
    | succ k1 =>
      by_cases c : J < t.size / 136 + 1
      · have c0 : decide (at_ < (pd.size : Int)) = true := decide_eq_true (by have := HK1.out; have := HPS.out; omega)
        have HC1 := Aside0.mk c
        clear c
        go_wp2
        go_loopg [6] 18 (fun kq v6 w' => ∃ (k : Nat) (x : Int), v6 = .int .i64 x ∧ Aside0 (x = (k : Int) ∧ k + kq = 18 ∧ k ≤ 17) ∧ Aside0 (w'.heap[g]? = some (.cells (ue (xst (abstS pd J) pd (136 * J) k)) 92 (0, 0))) ∧ Aside0 (Below w.heap.size w w'))
        case atStart => exact ⟨0, 0, rfl, ⟨rfl, rfl, by decide⟩, ⟨by (with_reducible repeat (first | refine blk_drewN ?_ _ | refine blk_drew ?_)); exact BKs.out⟩, ⟨(by repeat (first | exact HB.out | apply Below.drew | apply pw_below_drewN | refine Below.setCell ?_ GEs.out _))⟩⟩
        case round =>
          clear BKs HB c0
          obtain ⟨K2, x, rfl, HK2, BKs, HB⟩ := hrel
          cases gk with
          | zero => exact absurd HK2.out (by omega)
          | succ k2 =>
            by_cases c : K2 < 17
            · have c0 : decide (x < 17) = true := decide_eq_true (by have := HK2.out; omega)
              have HC2 := Aside0.mk c
              clear c
              obtain ⟨a1, ha1, ea1⟩ : ∃ y_, wrap64 (8 * x) = y_ ∧ Aside0 (y_ = ((8 * K2 : Nat) : Int)) := ⟨_, rfl, ⟨by have := HK1.out; have := HC1.out; have := HK2.out; have := HC2.out; have := HPS.out; have := HTt.out; first | (unfold wrap64; omega) | (rw [Int.tmod_eq_emod_of_nonneg (by omega)]; omega)⟩⟩
              obtain ⟨a2, ha2, ea2⟩ : ∃ a2 : Nat, wrap64 (at_ + a1) = (a2 : Int) ∧ Aside0 (a2 = 136 * J + 8 * K2) := ⟨136 * J + 8 * K2, by have := HK1.out; have := HC1.out; have := HK2.out; have := HC2.out; have := HPS.out; have := HTt.out; have := ea1.out; unfold wrap64; omega, ⟨rfl⟩⟩
              have px : (0 ≤ x) = True := eq_true (by have := HK1.out; have := HC1.out; have := HK2.out; have := HC2.out; have := HPS.out; have := HTt.out; have := ea1.out; have := ea2.out; omega)
              have qx_25 : (x < 25) = True := eq_true (by have := HK1.out; have := HC1.out; have := HK2.out; have := HC2.out; have := HPS.out; have := HTt.out; have := ea1.out; have := ea2.out; omega)
              have hc0 : wr.cell? ⟨g, x.toNat, none⟩ = some (.int .u64 (ga (xst (abstS pd J) pd (136 * J) K2) x.toNat)) := (blk_cell BKs.out _).trans (ue_get (by rw [xst_len, abstS_len]; have := HK1.out; have := HC1.out; have := HK2.out; have := HC2.out; have := HPS.out; have := HTt.out; have := ea1.out; have := ea2.out; omega))
              have hfz : wr.frozen? ⟨g, x.toNat, none⟩ = false := blk_frozen BKs.out _
              have HW := Aside0.mk (word_f pd a2 (by have := HK1.out; have := HC1.out; have := HK2.out; have := HC2.out; have := HPS.out; have := HTt.out; have := ea1.out; have := ea2.out; omega) (by have := HK1.out; have := HC1.out; have := HK2.out; have := HC2.out; have := HPS.out; have := HTt.out; have := ea1.out; have := ea2.out; omega))
              go_wp2
              refine start_ (n := 13) (S := fun w' => w'.cell? ⟨g, x.toNat, none⟩ = some (.int .u64 (ga (xst (abstS pd J) pd (136 * J) K2) x.toNat))) (ds := [12]) #[false, false, false, false, false, false, false, false, false, false, false, false, false] (by kernel_rfl) rfl rfl (hc0) (fun hHeld => ?_)
              refine with_tabW spec_Digest.tab9 spec_Digest.bits9 (fun HT_ HW_ => ?_)
              refine pI 0 (some 20) HT_.out ?_
              refine pI 1 (some 21) HT_.out ?_
              refine pI 2 (some 22) HT_.out ?_
              refine pI 4 (some 24) HT_.out ?_
              refine pI 5 (some 25) HT_.out ?_
              refine pI 6 (some 26) HT_.out ?_
              refine pI 7 (some 27) HT_.out ?_
              refine pI 8 (some 28) HT_.out ?_
              refine tI1 3 (some 23) HT_.out HW_.out hHeld ?_
              refine oI 9 (some 29) HT_.out (fun K hK => ?_)
              refine goes_ Tryd.func80 (by kernel_rfl) rfl #[.string pd, .int .i64 (wrap64 (at_ + a1))] (by rfl) rfl rfl (by simp only [List.map_toArray, List.map_cons, List.map_nil]; rfl) ?_
              rw [ha2]
              with_reducible refine (spec_l03Word.calls 9 _ _ _ _ HW.out).mono ?_
              rintro e w3_ ⟨rfl, ⟨nd, rfl⟩⟩
              refine ⟨_, rfl, ?_⟩
              refine hK.out _ _ ((by exact hHeld)) (fun hHeld => ?_)
              clear hK K
              refine nO (some 29) ?_
              refine pI 10 (some 30) HT_.out ?_
              refine pI 11 (some 31) HT_.out ?_
              refine last_ (i := 12) (N := none) #[true, true, true, true, true, true, true, true, true, true, true, true, true] rfl rfl (one_of HT_.out (by kernel_rfl)) (by decide) (fun K hK => ?_)
              refine skip_ (w1 := ?_) (by rfl) rfl ?_ ?_
              rotate_left
              · go_simp
                rfl
              refine hK.out _ _ ?_
              clear hK K
              refine done_ (done_of HT_.out (by kernel_rfl)) ?_
              go_wp2
              go_roundg k2
              case measure => omega
              case rel => exact ⟨K2 + 1, _, rfl, ⟨by have := HK1.out; have := HC1.out; have := HK2.out; have := HC2.out; have := HPS.out; have := HTt.out; have := ea1.out; have := ea2.out; first | omega | (unfold wrap64; omega), by have := HK1.out; have := HC1.out; have := HK2.out; have := HC2.out; have := HPS.out; have := HTt.out; have := ea1.out; have := ea2.out; omega, by have := HK1.out; have := HC1.out; have := HK2.out; have := HC2.out; have := HPS.out; have := HTt.out; have := ea1.out; have := ea2.out; omega⟩, ⟨by (with_reducible repeat (first | refine blk_drewN ?_ _ | refine blk_drew ?_)); refine blk_put (cs := ue (xst (abstS pd J) pd (136 * J) K2)) (by (with_reducible repeat (first | refine blk_drewN ?_ _ | refine blk_drew ?_)); exact BKs.out) x.toNat _ ?_; rw [ue_set]; simp only [xst]; rw [show x.toNat = K2 by have := HK1.out; have := HC1.out; have := HK2.out; have := HC2.out; have := HPS.out; have := HTt.out; have := ea1.out; have := ea2.out; omega, show a2 = 136 * J + 8 * K2 by have := HK1.out; have := HC1.out; have := HK2.out; have := HC2.out; have := HPS.out; have := HTt.out; have := ea1.out; have := ea2.out; omega]⟩, ⟨(by repeat (first | exact HB.out | apply Below.drew | apply pw_below_drewN | refine Below.setCell ?_ GEs.out _))⟩⟩
            · have c0 : decide (x < 17) = false := decide_eq_false (by have := HK2.out; omega)
              obtain rfl : K2 = 17 := by have := HK2.out; omega
              clear c HK2
              obtain ⟨ov, hov⟩ : ∃ y_ : List Int, y_ = xst (abstS pd J) pd (136 * J) 17 := ⟨_, rfl⟩
              obtain ⟨nv, hnv⟩ : ∃ y_ : List Int, y_ = allS ov 24 := ⟨_, rfl⟩
              have HOL := Aside0.mk (show ov.length = 25 by rw [hov, xst_len, abstS_len])
              have HNL := Aside0.mk (show nv.length = 25 by rw [hnv, allS_len, HOL.out])
              have HOV := Aside0.mk hov
              have HNV := Aside0.mk hnv
              have n0_ := Aside0.mk (show wr.heap[g]? = some (.cells (ue ov) 92 (0, 0)) by rw [hov]; exact BKs.out)
              clear BKs hov hnv
              have BKs := n0_
              clear n0_
              have HZ1 := Aside0.mk (show (Tryd.prog.info? 92).map (·.size) = some (ue ov).size by rw [ue_size, HOL.out]; kernel_rfl)
              have HZ2 := Aside0.mk (show (Tryd.prog.info? 92).map (·.size) = some (ue nv).size by rw [ue_size, HNL.out]; kernel_rfl)
              have HZ3 := Aside0.mk (show (ue ov).size = (ue nv).size by rw [ue_size, ue_size, HOL.out, HNL.out])
              go_wp2_with (first | ((with_reducible refine gate_dst (N := 32) rfl ?_); refine wpList_load_row rfl 92 _ rfl g rfl 92 (ue ov) (0, 0) _ (by (with_reducible repeat (first | refine blk_drewN ?_ _ | refine blk_drew ?_)); exact BKs.out) Tryd.underlying92 rfl HZ1.out ?_) | (go_at_call 81; (with_reducible refine (spec_l03All.calls ov HOL.out _).mono ?_); rintro e w4_ ⟨rfl, hb⟩; have n0_ := Aside0.mk (below_then (by repeat (first | exact HB.out | apply Below.drew | apply pw_below_drewN | refine Below.setCell ?_ GEs.out _)) (Below.size (by repeat (first | exact HB.out | apply Below.drew | apply pw_below_drewN | refine Below.setCell ?_ GEs.out _))) hb); have n1_ := Aside0.mk (blk_below (by (with_reducible repeat (first | refine blk_drewN ?_ _ | refine blk_drew ?_)); exact BKs.out) hb); clear BKs HB; have HB := n0_; have BKs := n1_; clear n0_ n1_ hb; rw [← HNV.out]) | ((with_reducible refine gate_store (t := 92) (p := 4) rfl ?_); refine store_row_event rfl 92 _ _ rfl g (ue nv) rfl rfl 92 (ue ov) (by (with_reducible repeat (first | refine blk_drewN ?_ _ | refine blk_drew ?_)); exact BKs.out) HZ2.out HZ3.out (ue_one _) ?_; intro w9_ h1_ h2_ h3_; have n0_ := Aside0.mk (h3_ w.heap.size w (by repeat (first | exact HB.out | apply Below.drew | apply pw_below_drewN | refine Below.setCell ?_ GEs.out _)) GEs.out); clear HB BKs; have HB := n0_; have BKs := Aside0.mk h1_; clear n0_ h1_ h2_ h3_))
              go_roundg k1
              case measure => omega
              case rel => exact ⟨J + 1, _, rfl, ⟨by have := HK1.out; have := HC1.out; have := HPS.out; have := HTt.out; unfold wrap64; omega, by have := HK1.out; have := HC1.out; have := HPS.out; have := HTt.out; omega, by have := HK1.out; have := HC1.out; have := HPS.out; have := HTt.out; omega⟩, ⟨by have h_ := BKs.out; rw [HNV.out, HOV.out] at h_; (with_reducible repeat (first | refine blk_drewN ?_ _ | refine blk_drew ?_)); exact h_⟩, ⟨(by repeat (first | exact HB.out | apply Below.drew | apply pw_below_drewN | refine Below.setCell ?_ GEs.out _))⟩⟩
      · have c0 : decide (at_ < (pd.size : Int)) = false := decide_eq_false (by have := HK1.out; have := HPS.out; omega)
        obtain rfl : J = t.size / 136 + 1 := by have := HK1.out; omega
        clear c
        have HX := Aside0.mk (tby_size (abstS pd (t.size / 136 + 1)))
        obtain ⟨tx, htx⟩ : ∃ y_, y_ = strOfNums (tby (abstS pd (t.size / 136 + 1)) 200) := ⟨_, rfl⟩
        rw [← htx] at HX
        have HXe := Aside0.mk htx
        clear htx
        have h32 : ((32 : Int) ≤ (tx.size : Int)) = True := eq_true (by have := HX.out; omega)
        have HZ1 := Aside0.mk (show (Tryd.prog.info? 92).map (·.size) = some (ue (abstS pd (t.size / 136 + 1))).size by rw [ue_size, abstS_len]; kernel_rfl)
        go_wp2_with (first | ((with_reducible refine gate_dst (N := 34) rfl ?_); refine wpList_load_row rfl 92 _ rfl g rfl 92 (ue (abstS pd (t.size / 136 + 1))) (0, 0) _ (by (with_reducible repeat (first | refine blk_drewN ?_ _ | refine blk_drew ?_)); exact BKs.out) Tryd.underlying92 rfl HZ1.out ?_) | (go_at_call 82; (with_reducible refine (spec_l03Text.calls (abstS pd (t.size / 136 + 1)) (abstS_len _ _) _).mono ?_); rintro e w4_ ⟨rfl, hb⟩; have n0_ := Aside0.mk (below_then (by repeat (first | exact HB.out | apply Below.drew | apply pw_below_drewN | refine Below.setCell ?_ GEs.out _)) (Below.size (by repeat (first | exact HB.out | apply Below.drew | apply pw_below_drewN | refine Below.setCell ?_ GEs.out _))) hb); clear BKs HB; have HB := n0_; clear n0_ hb; rw [← HXe.out]))
        go_ret
        exact ⟨by unfold digS; rw [← HPD.out, ← HXe.out]; first | done | rfl, (by repeat (first | exact HB.out | apply Below.drew | apply pw_below_drewN | refine Below.setCell ?_ GEs.out _))⟩
end Go.Proofs.YtkdmplfldfagnaaDoor.Kp
end
section
/- What is proved here: steps of Keccak as the program and the reference write it: what each function answers. No conditions but those that each theorem names. -/
namespace Go.Proofs.YtkdmplfldfagnaaDoor.Kp
open Go.RowKit Go.Proofs.YtkdmplfldfagnaaDoorW.PrintWords Go.Proofs.YtkdmplfldfagnaaDoorW.PrintLast Go.Proofs.YtkdmplfldfagnaaDoorW.PrintMore
set_option linter.unusedVariables false
set_option linter.unusedSimpArgs false
theorem xr_range (a b : Int) : 0 ≤ xr a b ∧ xr a b < 18446744073709551616 := by
  unfold xr Go.bits
  rw [IntKind.wrap_u64]
  omega
theorem xr_comm (a b : Int) : Go.bits .xor .u64 a b = Go.bits .xor .u64 b a := by
  unfold Go.bits
  dsimp only
  rw [BitVec.xor_comm]
theorem and_turns : ∀ i : Fin 25, Go.bits .and .u64 (IntKind.u64.wrap (ga turnsL i.val)) 63 = ga turnsL i.val := by decide +kernel
theorem turns_pos : ∀ i : Fin 25, 0 ≤ ga turnsL i.val := by decide +kernel
theorem and_one : Go.bits .and .u64 (IntKind.u64.wrap 1) 63 = 1 := by decide +kernel
theorem and_zero : Go.bits .and .u64 (IntKind.u64.wrap 0) 63 = 0 := by decide +kernel
theorem rl_one (v : Int) : rl v 1 = tn v 1 := by
  unfold rl tn
  rw [and_one]
theorem rl_turn (v : Int) (i : Fin 25) : rl v (ga turnsL i.val) = tn v (ga turnsL i.val) := by
  unfold rl tn
  rw [and_turns]
theorem or_zero64 (v : Int) (h0 : 0 ≤ v) (h1 : v < 18446744073709551616) : Go.bits .or .u64 v 0 = v := by
  unfold Go.bits
  dsimp only
  rw [IntKind.wrap_u64]
  have e0 : BitVec.ofInt IntKind.u64.bits 0 = 0#(IntKind.u64.bits) := by rfl
  rw [e0, BitVec.or_zero, BitVec.toNat_ofInt]
  show (((v % ((2 ^ 64 : Nat) : Int)).toNat : Int)) % 18446744073709551616 = v
  rw [show (((2 : Nat) ^ 64 : Nat) : Int) = 18446744073709551616 from rfl, Int.emod_eq_of_lt h0 h1]
  omega
theorem rl_zero (v : Int) (h0 : 0 ≤ v) (h1 : v < 18446744073709551616) : rl v 0 = v := by
  unfold rl
  rw [and_zero]
  have e1 : shl .u64 v 0 = v := by
    unfold shl
    rw [IntKind.wrap_u64]
    show (v * 2 ^ (Min.min 0 IntKind.u64.bits)) % 18446744073709551616 = v
    rw [Nat.zero_min, Int.pow_zero, Int.mul_one, Int.emod_eq_of_lt h0 h1]
  have e2 : shr .u64 v (IntKind.u64.wrap (64 - 0)) = 0 := by
    unfold shr
    rw [IntKind.wrap_u64]
    show v / 2 ^ 64 = 0
    rw [show ((2 : Int) ^ 64) = 18446744073709551616 from rfl]
    omega
  rw [e1, e2]
  exact or_zero64 v h0 h1
theorem dd_eq (c : List Int) (x : Nat) : dd c x = ddS c x := by
  unfold dd ddS
  rw [rl_one]
theorem bat_eq (s c : List Int) (y x : Nat) (h : x + 5 * y < 25) : bat s c y x = batS s c y x := by
  unfold bat batS
  rw [dd_eq]
  by_cases hk : ga turnsL (x + 5 * y) > 0
  · rw [if_pos hk]
    exact rl_turn _ ⟨x + 5 * y, h⟩
  · rw [if_neg hk]
    have h0 := turns_pos ⟨x + 5 * y, h⟩
    have e : ga turnsL (x + 5 * y) = 0 := by
      dsimp only at h0
      omega
    rw [e]
    exact rl_zero _ (xr_range _ _).1 (xr_range _ _).2
theorem bst_list (s c : List Int) : bst s c 25 = [bat s c 0 0, bat s c 1 1, bat s c 2 2, bat s c 3 3, bat s c 4 4, bat s c 0 3, bat s c 1 4, bat s c 2 0, bat s c 3 1, bat s c 4 2, bat s c 0 1, bat s c 1 2, bat s c 2 3, bat s c 3 4, bat s c 4 0, bat s c 0 4, bat s c 1 0, bat s c 2 1, bat s c 3 2, bat s c 4 3, bat s c 0 2, bat s c 1 3, bat s c 2 4, bat s c 3 0, bat s c 4 1] := by kernel_rfl
theorem bstS_list (s c : List Int) : bstS s c 25 = [batS s c 0 0, batS s c 1 1, batS s c 2 2, batS s c 3 3, batS s c 4 4, batS s c 0 3, batS s c 1 4, batS s c 2 0, batS s c 3 1, batS s c 4 2, batS s c 0 1, batS s c 1 2, batS s c 2 3, batS s c 3 4, batS s c 4 0, batS s c 0 4, batS s c 1 0, batS s c 2 1, batS s c 3 2, batS s c 4 3, batS s c 0 2, batS s c 1 3, batS s c 2 4, batS s c 3 0, batS s c 4 1] := by kernel_rfl
theorem bst_eq (s c : List Int) : bst s c 25 = bstS s c 25 := by
  rw [bst_list, bstS_list]
  rw [bat_eq s c 0 0 (by decide), bat_eq s c 1 1 (by decide), bat_eq s c 2 2 (by decide), bat_eq s c 3 3 (by decide), bat_eq s c 4 4 (by decide), bat_eq s c 0 3 (by decide), bat_eq s c 1 4 (by decide), bat_eq s c 2 0 (by decide), bat_eq s c 3 1 (by decide), bat_eq s c 4 2 (by decide), bat_eq s c 0 1 (by decide), bat_eq s c 1 2 (by decide), bat_eq s c 2 3 (by decide), bat_eq s c 3 4 (by decide), bat_eq s c 4 0 (by decide), bat_eq s c 0 4 (by decide), bat_eq s c 1 0 (by decide), bat_eq s c 2 1 (by decide), bat_eq s c 3 2 (by decide), bat_eq s c 4 3 (by decide), bat_eq s c 0 2 (by decide), bat_eq s c 1 3 (by decide), bat_eq s c 2 4 (by decide), bat_eq s c 3 0 (by decide), bat_eq s c 4 1 (by decide)]
theorem chi_eq (b : List Int) (y x : Nat) : chi b y x = chiS b y x := by
  unfold chi chiS u64not
  rw [xr_comm IntKind.u64.max]
  rfl
theorem sst_eq (s b : List Int) (k : Nat) : sst s b k = sstS s b k := by
  induction k with
  | zero => rfl
  | succ k ih => simp only [sst, sstS, ih, chi_eq]
theorem round_eq (s : List Int) (n : Nat) : roundI s n = roundS s (ga rcL n) := by
  unfold roundI roundS
  rw [bst_eq, sst_eq]
theorem rit_eq (s : List Int) (k : Nat) : rit s k = allS s k := by
  induction k with
  | zero => rfl
  | succ k ih => simp only [rit, allS, ih, round_eq]
theorem abst_eq (p : ByteArray) (j : Nat) : abst p j = abstS p j := by
  induction j with
  | zero => rfl
  | succ j ih => simp only [abst, abstS, ih, rit_eq]
theorem tby_form (a : List Int) (k : Nat) (h : k ≤ 200) : tby a k = (List.range k).map (byteS a) ++ List.replicate (200 - k) 0 := by
  induction k with
  | zero => rfl
  | succ k ih =>
    simp only [tby]
    rw [ih (by omega), List.range_succ, List.map_append, List.append_assoc, List.set_append_right _ _ (by simp)]
    rw [show 200 - k = (200 - (k + 1)) + 1 by omega, List.replicate_succ]
    simp
theorem b8_at (a : List Int) (k : Nat) : b8 (ga a k) = [byteS a (8 * k), byteS a (8 * k + 1), byteS a (8 * k + 2), byteS a (8 * k + 3), byteS a (8 * k + 4), byteS a (8 * k + 5), byteS a (8 * k + 6), byteS a (8 * k + 7)] := by
  unfold b8 byteS
  have d : ∀ j, j < 8 → (8 * k + j) / 8 = k ∧ (8 * k + j) % 8 = j := fun j hj => by omega
  have d0 := d 0 (by decide)
  rw [Nat.add_zero] at d0
  rw [d0.1, d0.2, (d 1 (by decide)).1, (d 1 (by decide)).2, (d 2 (by decide)).1, (d 2 (by decide)).2, (d 3 (by decide)).1, (d 3 (by decide)).2, (d 4 (by decide)).1, (d 4 (by decide)).2, (d 5 (by decide)).1, (d 5 (by decide)).2, (d 6 (by decide)).1, (d 6 (by decide)).2, (d 7 (by decide)).1, (d 7 (by decide)).2]
  generalize ga a k = v
  have m : ∀ j, j < 8 → min (((8 * j : Nat) : Int)).toNat 64 = 8 * j := fun j hj => by omega
  rw [m 0 (by decide), m 1 (by decide), m 2 (by decide), m 3 (by decide), m 4 (by decide), m 5 (by decide), m 6 (by decide), m 7 (by decide)]
  rw [show (2 : Int) ^ (8 * 0) = 1 from rfl, show (2 : Int) ^ (8 * 1) = 256 from rfl, show (2 : Int) ^ (8 * 2) = 65536 from rfl, show (2 : Int) ^ (8 * 3) = 16777216 from rfl, show (2 : Int) ^ (8 * 4) = 4294967296 from rfl, show (2 : Int) ^ (8 * 5) = 1099511627776 from rfl, show (2 : Int) ^ (8 * 6) = 281474976710656 from rfl, show (2 : Int) ^ (8 * 7) = 72057594037927936 from rfl]
  simp only [List.cons.injEq, and_true, Int.ediv_one]
  have e2 : v / 256 / 256 = v / 65536 := by omega
  have e3 : v / 65536 / 256 = v / 16777216 := by omega
  have e4 : v / 16777216 / 256 = v / 4294967296 := by omega
  have e5 : v / 4294967296 / 256 = v / 1099511627776 := by omega
  have e6 : v / 1099511627776 / 256 = v / 281474976710656 := by omega
  have e7 : v / 281474976710656 / 256 = v / 72057594037927936 := by omega
  repeat' apply And.intro
  all_goals first | trivial | rfl | (rw [e2, e3, e4, e5, e6, e7]; done) | (rw [e2, e3, e4, e5, e6]; done) | (rw [e2, e3, e4, e5]; done) | (rw [e2, e3, e4]; done) | (rw [e2, e3]; done) | (rw [e2]; done)
theorem txl_form (a : List Int) (k : Nat) : txl a k = (List.range (8 * k)).map (byteS a) := by
  induction k with
  | zero => rfl
  | succ k ih =>
    simp only [txl]
    rw [ih, b8_at, show 8 * (k + 1) = 8 * k + 8 by omega]
    simp only [List.range_succ, List.map_append, List.map_cons, List.map_nil, List.append_assoc]
    rfl
theorem text_eq (a : List Int) : txl a 25 = tby a 200 := by
  rw [txl_form, tby_form a 200 (by decide)]
  simp
theorem dig_eq (t : ByteArray) : digI t = digS t := by
  unfold digI digS
  rw [abst_eq, text_eq]
theorem digest_eq (t : ByteArray) : impl_Digest.f t = spec_Digest.f t := by
  unfold impl_Digest.f spec_Digest.f
  rw [dig_eq]
end Go.Proofs.YtkdmplfldfagnaaDoor.Kp
end
section
namespace Go.Proofs.YtkdmplfldfagnaaDoor.Pf
open Go.RowKit Go.Proofs.YtkdmplfldfagnaaDoorW.PrintWords Go.Proofs.YtkdmplfldfagnaaDoorW.PrintLast Go.Proofs.YtkdmplfldfagnaaDoorW.PrintMore
attribute [local go_sem] max2_int min2_int max_two min_two max_three min_three max_four min_four   -- for this text's walks alone
set_option linter.unusedVariables false
set_option linter.unusedSimpArgs false
/-! ### spec_Digest: function 41 -/
def spec_Digest.f (a0 : ByteArray) : Option ByteArray := Kp.spec_Digest.f a0
theorem spec_Digest.calls (a0 : ByteArray) (r : ByteArray) (w : World) (h : spec_Digest.f a0 = some r) :
  Calls Tryd.prog 41 #[.string a0] w fun e w' => e = .returned (.string r) ∧ Below w.heap.size w w' :=
 Kp.spec_Digest.calls a0 r w h
/-! ### spec_FpOf: function 42 -/
def spec_FpOf.f (a0 : Int) : Option (Int) := if (Int.tmod a0 12107) < 0 then (some (wrap64 ((Int.tmod a0 12107) + 12107))) else (some (Int.tmod a0 12107))
set_option maxHeartbeats 8000000 in
set_option maxRecDepth 100000 in
theorem spec_FpOf.calls (a0 : Int) (r : Int) (w : World) (h : spec_FpOf.f a0 = some r) :
  Calls Tryd.prog 42 #[.int .i64 a0] w fun e w' => e = .returned (.int .i64 r) ∧ Drawn0 w w' := by
 have H : (if (Int.tmod a0 12107) < 0 then (some (wrap64 ((Int.tmod a0 12107) + 12107))) else (some (Int.tmod a0 12107))) = some r := h
 clear h
 by_cases c2 : (Int.tmod a0 12107) < 0
 ·rw [if_pos c2] at H
  have c2b0 : decide ((Int.tmod a0 12107) < 0) = true := decide_eq_true c2
  clear c2
  obtain rfl := Option.some.inj H
  go_enter Tryd.func42, Tryd.ntmps42
  go_wp2
  go_ret
  exact ⟨rS, rD⟩
 ·rw [if_neg c2] at H
  have c2b0 : decide ((Int.tmod a0 12107) < 0) = false := decide_eq_false c2
  clear c2
  obtain rfl := Option.some.inj H
  go_enter Tryd.func42, Tryd.ntmps42
  go_wp2
  go_ret
  exact ⟨rS, rD⟩
/-! ### spec_FpMul: function 84 -/
def spec_FpMul.f (a0 : Int) (a1 : Int) : Option (Int) := (spec_FpOf.f a0).bind fun t101 => ((spec_FpOf.f a1).bind fun t102 => ((spec_FpOf.f (wrap64 (t101 * t102))).bind fun t103 => (some t103)))
set_option maxHeartbeats 8000000 in
set_option maxRecDepth 100000 in
theorem spec_FpMul.calls (a0 : Int) (a1 : Int) (r : Int) (w : World) (h : spec_FpMul.f a0 a1 = some r) :
  Calls Tryd.prog 84 #[.int .i64 a0, .int .i64 a1] w fun e w' => e = .returned (.int .i64 r) ∧ Drawn0 w w' := by
 have H : ((spec_FpOf.f a0).bind fun t101 => ((spec_FpOf.f a1).bind fun t102 => ((spec_FpOf.f (wrap64 (t101 * t102))).bind fun t103 => (some t103)))) = some r := h
 clear h
 replace H := Option.bind_eq_some_iff.mp H
 obtain ⟨t101, A30, H⟩ := H
 have A3 := Aside0.mk A30
 clear A30
 replace H := Option.bind_eq_some_iff.mp H
 obtain ⟨t102, A40, H⟩ := H
 have A4 := Aside0.mk A40
 clear A40
 replace H := Option.bind_eq_some_iff.mp H
 obtain ⟨t103, A50, H⟩ := H
 have A5 := Aside0.mk A50
 clear A50
 obtain rfl := Option.some.inj H
 go_enter Tryd.func84, Tryd.ntmps84
 go_wp2_with (first | ((with_reducible refine gate_callee (f := 42) rfl ?_); refine gL (some 6) Tryd.func42 #[.int .i64 a0] ?_; (with_reducible refine (spec_FpOf.calls a0 t101 _ A3.out).mono ?_); rintro e w' ⟨rfl, ⟨nd, rfl⟩⟩; refine ⟨_, rfl, ?_⟩) | ((with_reducible refine gate_callee (f := 42) rfl ?_); refine gL (some 8) Tryd.func42 #[.int .i64 a1] ?_; (with_reducible refine (spec_FpOf.calls a1 t102 _ A4.out).mono ?_); rintro e w' ⟨rfl, ⟨nd, rfl⟩⟩; refine ⟨_, rfl, ?_⟩) | ((with_reducible refine gate_callee (f := 42) rfl ?_); refine gL (some 10) Tryd.func42 #[.int .i64 (wrap64 (t101 * t102))] ?_; (with_reducible refine (spec_FpOf.calls (wrap64 (t101 * t102)) t103 _ A5.out).mono ?_); rintro e w' ⟨rfl, ⟨nd, rfl⟩⟩; refine ⟨_, rfl, ?_⟩))
 go_ret
 exact ⟨rS, rD⟩
/-! ### spec_FpPow: function 83 -/
def spec_FpPow.l0 : Nat → Int → Int → Int → Option (Int)
 | 0, _, _, _ => none
 | k + 1, x1, x5, x6 => if x1 > 0 then (if (Int.tmod x1 2) = 1 then ((spec_FpMul.f x5 x6).bind fun t105 => ((spec_FpMul.f x6 x6).bind fun t106 => (spec_FpPow.l0 k (wrap64 (Int.tdiv x1 2)) t105 t106))) else ((spec_FpMul.f x6 x6).bind fun t107 => (spec_FpPow.l0 k (wrap64 (Int.tdiv x1 2)) x5 t107))) else (some x5)
def spec_FpPow.f (k : Nat) (a0 : Int) (a1 : Int) : Option (Int) := if a1 < 0 then (some 0) else ((spec_FpOf.f a0).bind fun t104 => (spec_FpPow.l0 k a1 1 t104))
theorem spec_FpPow.mono_l : ∀ k, (∀ y0 y1 y2, LeO (spec_FpPow.l0 k y0 y1 y2) (spec_FpPow.l0 (k + 1) y0 y1 y2))
 | 0 => fun _ _ _ r h => by simp [spec_FpPow.l0] at h
 | k + 1 => by
  have ih0 := spec_FpPow.mono_l k
  ·intro y0 y1 y2
   unfold spec_FpPow.l0
   repeat' first
   | (with_reducible exact ih0 _ _ _)
   | (with_reducible exact LeO.refl _)
   | (with_reducible exact LeO.none _)
   | (with_reducible refine LeO.ite ?_ ?_)
   | (with_reducible refine LeO.bind ?_ (fun _ => ?_))
   | exact ih0 _ _ _
   | exact LeO.none _
   | refine LeO.ite ?_ ?_
   | refine LeO.bind ?_ (fun _ => ?_)
theorem spec_FpPow.mono : ∀ a0 a1 k, LeO (spec_FpPow.f k a0 a1) (spec_FpPow.f (k + 1) a0 a1) := by
 intro a0 a1 k
 have ih0 := spec_FpPow.mono_l k
 unfold spec_FpPow.f
 repeat' first
   | (with_reducible exact ih0 _ _ _)
   | (with_reducible exact LeO.refl _)
   | (with_reducible exact LeO.none _)
   | (with_reducible refine LeO.ite ?_ ?_)
   | (with_reducible refine LeO.bind ?_ (fun _ => ?_))
   | exact ih0 _ _ _
   | exact LeO.none _
   | refine LeO.ite ?_ ?_
   | refine LeO.bind ?_ (fun _ => ?_)
set_option maxHeartbeats 8000000 in
set_option maxRecDepth 100000 in
theorem spec_FpPow.calls (k : Nat) (a0 : Int) (a1 : Int) (r : Int) (w : World) (h : spec_FpPow.f k a0 a1 = some r) :
  Calls Tryd.prog 83 #[.int .i64 a0, .int .i64 a1] w fun e w' => e = .returned (.int .i64 r) ∧ Drawn0 w w' := by
 have H : (if a1 < 0 then (some 0) else ((spec_FpOf.f a0).bind fun t104 => (spec_FpPow.l0 k a1 1 t104))) = some r := h
 clear h
 by_cases c3 : a1 < 0
 ·rw [if_pos c3] at H
  have c3b0 : decide (a1 < 0) = true := decide_eq_true c3
  clear c3
  obtain rfl := Option.some.inj H
  go_enter Tryd.func83, Tryd.ntmps83
  go_wp2
  go_ret
  exact ⟨rS, rD⟩
 ·rw [if_neg c3] at H
  have c3b0 : decide (a1 < 0) = false := decide_eq_false c3
  clear c3
  replace H := Option.bind_eq_some_iff.mp H
  obtain ⟨t104, A40, H⟩ := H
  have A4 := Aside0.mk A40
  clear A40
  have H' := Aside0.mk H
  clear H
  go_enter Tryd.func83, Tryd.ntmps83
  go_wp2_with (first | ((with_reducible refine gate_callee (f := 42) rfl ?_); refine gL (some 10) Tryd.func42 #[.int .i64 a0] ?_; (with_reducible refine (spec_FpOf.calls a0 t104 _ A4.out).mono ?_); rintro e w' ⟨rfl, ⟨nd, rfl⟩⟩; refine ⟨_, rfl, ?_⟩))
  go_loopg [1, 5, 6] k (fun kq v1 v5 v6 w' => ∃ (x1_1 : Int) (x5_1 : Int) (x6_1 : Int), v1 = .int .i64 x1_1 ∧ v5 = .int .i64 x5_1 ∧ v6 = .int .i64 x6_1 ∧ Aside0 (spec_FpPow.l0 kq x1_1 x5_1 x6_1 = some r) ∧ Aside0 (kq ≤ k) ∧ Drawn0 w w')
  case atStart => exact ⟨(a1), (1), (t104), rS, rS, rS, H', ⟨Nat.le_refl _⟩, by repeat (first | exact Drawn0.refl _ | apply Drawn0.step)⟩
  case round =>
   clear H'
   try clear p2
   try clear c3
   try clear c3b0
   try clear c4
   obtain ⟨x1_1, x5_1, x6_1, rfl, rfl, rfl, HA, HK1, ⟨m1, rfl⟩⟩ := hrel
   cases gk with
   | zero => exact absurd HA.out (by simp [spec_FpPow.l0])
   | succ k1 =>
    have H := HA.out
    clear HA
    simp only [spec_FpPow.l0] at H
    by_cases c5 : x1_1 > 0
    ·rw [if_pos c5] at H
     have c5b0 : decide (0 < x1_1) = true := decide_eq_true c5
     clear c5
     by_cases c6 : (Int.tmod x1_1 2) = 1
     ·rw [if_pos c6] at H
      have c6b0 : ((Int.tmod x1_1 2) == 1) = true := beq_iff_eq.mpr c6
      have c6b1 : ((Int.tmod x1_1 2) != 1) = false := bne_eq_false_iff_eq.mpr c6
      clear c6
      replace H := Option.bind_eq_some_iff.mp H
      obtain ⟨t105, A70, H⟩ := H
      have A7 := Aside0.mk A70
      clear A70
      replace H := Option.bind_eq_some_iff.mp H
      obtain ⟨t106, A80, H⟩ := H
      have A8 := Aside0.mk A80
      clear A80
      have H' := Aside0.mk H
      clear H
      go_wp2_with (first | ((with_reducible refine gate_callee (f := 84) rfl ?_); refine gL (some 18) Tryd.func84 #[.int .i64 x5_1, .int .i64 x6_1] ?_; (with_reducible refine (spec_FpMul.calls x5_1 x6_1 t105 _ A7.out).mono ?_); rintro e w' ⟨rfl, ⟨nd, rfl⟩⟩; refine ⟨_, rfl, ?_⟩) | ((with_reducible refine gate_callee (f := 84) rfl ?_); refine gL (some 21) Tryd.func84 #[.int .i64 x6_1, .int .i64 x6_1] ?_; (with_reducible refine (spec_FpMul.calls x6_1 x6_1 t106 _ A8.out).mono ?_); rintro e w' ⟨rfl, ⟨nd, rfl⟩⟩; refine ⟨_, rfl, ?_⟩))
      go_roundg k1
      case measure => have := HK1.out; omega
      case rel => exact ⟨(wrap64 (Int.tdiv x1_1 2)), (t105), (t106), rS, rS, rS, H', ⟨by have := HK1.out; omega⟩, by repeat (first | exact Drawn0.refl _ | apply Drawn0.step)⟩
     ·rw [if_neg c6] at H
      have c6b0 : ((Int.tmod x1_1 2) == 1) = false := beq_eq_false_iff_ne.mpr c6
      have c6b1 : ((Int.tmod x1_1 2) != 1) = true := bne_iff_ne.mpr c6
      replace H := Option.bind_eq_some_iff.mp H
      obtain ⟨t107, A90, H⟩ := H
      have A9 := Aside0.mk A90
      clear A90
      have H' := Aside0.mk H
      clear H
      go_wp2_with (first | ((with_reducible refine gate_callee (f := 84) rfl ?_); refine gL (some 21) Tryd.func84 #[.int .i64 x6_1, .int .i64 x6_1] ?_; (with_reducible refine (spec_FpMul.calls x6_1 x6_1 t107 _ A9.out).mono ?_); rintro e w' ⟨rfl, ⟨nd, rfl⟩⟩; refine ⟨_, rfl, ?_⟩))
      go_roundg k1
      case measure => have := HK1.out; omega
      case rel => exact ⟨(wrap64 (Int.tdiv x1_1 2)), (x5_1), (t107), rS, rS, rS, H', ⟨by have := HK1.out; omega⟩, by repeat (first | exact Drawn0.refl _ | apply Drawn0.step)⟩
    ·rw [if_neg c5] at H
     have c5b0 : decide (0 < x1_1) = false := decide_eq_false c5
     clear c5
     obtain rfl := Option.some.inj H
     go_wp2
     go_ret
     exact ⟨rS, rD⟩
/-! ### spec_FpSub: function 85 -/
def spec_FpSub.f (a0 : Int) (a1 : Int) : Option (Int) := (spec_FpOf.f a0).bind fun t108 => ((spec_FpOf.f a1).bind fun t109 => ((spec_FpOf.f (wrap64 (t108 - t109))).bind fun t110 => (some t110)))
set_option maxHeartbeats 8000000 in
set_option maxRecDepth 100000 in
theorem spec_FpSub.calls (a0 : Int) (a1 : Int) (r : Int) (w : World) (h : spec_FpSub.f a0 a1 = some r) :
  Calls Tryd.prog 85 #[.int .i64 a0, .int .i64 a1] w fun e w' => e = .returned (.int .i64 r) ∧ Drawn0 w w' := by
 have H : ((spec_FpOf.f a0).bind fun t108 => ((spec_FpOf.f a1).bind fun t109 => ((spec_FpOf.f (wrap64 (t108 - t109))).bind fun t110 => (some t110)))) = some r := h
 clear h
 replace H := Option.bind_eq_some_iff.mp H
 obtain ⟨t108, A30, H⟩ := H
 have A3 := Aside0.mk A30
 clear A30
 replace H := Option.bind_eq_some_iff.mp H
 obtain ⟨t109, A40, H⟩ := H
 have A4 := Aside0.mk A40
 clear A40
 replace H := Option.bind_eq_some_iff.mp H
 obtain ⟨t110, A50, H⟩ := H
 have A5 := Aside0.mk A50
 clear A50
 obtain rfl := Option.some.inj H
 go_enter Tryd.func85, Tryd.ntmps85
 go_wp2_with (first | ((with_reducible refine gate_callee (f := 42) rfl ?_); refine gL (some 6) Tryd.func42 #[.int .i64 a0] ?_; (with_reducible refine (spec_FpOf.calls a0 t108 _ A3.out).mono ?_); rintro e w' ⟨rfl, ⟨nd, rfl⟩⟩; refine ⟨_, rfl, ?_⟩) | ((with_reducible refine gate_callee (f := 42) rfl ?_); refine gL (some 8) Tryd.func42 #[.int .i64 a1] ?_; (with_reducible refine (spec_FpOf.calls a1 t109 _ A4.out).mono ?_); rintro e w' ⟨rfl, ⟨nd, rfl⟩⟩; refine ⟨_, rfl, ?_⟩) | ((with_reducible refine gate_callee (f := 42) rfl ?_); refine gL (some 10) Tryd.func42 #[.int .i64 (wrap64 (t108 - t109))] ?_; (with_reducible refine (spec_FpOf.calls (wrap64 (t108 - t109)) t110 _ A5.out).mono ?_); rintro e w' ⟨rfl, ⟨nd, rfl⟩⟩; refine ⟨_, rfl, ?_⟩))
 go_ret
 exact ⟨rS, rD⟩
/-! ### spec_FpRoot: function 43 -/
def spec_FpRoot.f (k : Nat) (a0 : Int) : Option (Int × Bool) := (spec_FpPow.f k a0 3027).bind fun t111 => ((spec_FpMul.f t111 t111).bind fun t112 => ((spec_FpOf.f a0).bind fun t113 => (if t112 = t113 then ((spec_FpSub.f 0 t111).bind fun t114 => (if t114 < t111 then ((spec_FpSub.f 0 t111).bind fun t115 => (some (t115, true))) else (some (t111, true)))) else (some (0, false)))))
theorem spec_FpRoot.mono : ∀ a0 k, LeO (spec_FpRoot.f k a0) (spec_FpRoot.f (k + 1) a0) := by
 intro a0 k
 unfold spec_FpRoot.f
 repeat' first
   | (with_reducible exact spec_FpPow.mono _ _ _)
   | (with_reducible exact LeO.refl _)
   | (with_reducible exact LeO.none _)
   | (with_reducible refine LeO.ite ?_ ?_)
   | (with_reducible refine LeO.bind ?_ (fun _ => ?_))
   | exact spec_FpPow.mono _ _ _
   | exact LeO.none _
   | refine LeO.ite ?_ ?_
   | refine LeO.bind ?_ (fun _ => ?_)
set_option maxHeartbeats 8000000 in
set_option maxRecDepth 100000 in
theorem spec_FpRoot.calls (k : Nat) (a0 : Int) (r1 : Int) (r2 : Bool) (w : World) (h : spec_FpRoot.f k a0 = some (r1, r2)) :
  Calls Tryd.prog 43 #[.int .i64 a0] w fun e w' => e = .returned (.tuple #[.int .i64 r1, .bool r2]) ∧ Drawn0 w w' := by
 have H : ((spec_FpPow.f k a0 3027).bind fun t111 => ((spec_FpMul.f t111 t111).bind fun t112 => ((spec_FpOf.f a0).bind fun t113 => (if t112 = t113 then ((spec_FpSub.f 0 t111).bind fun t114 => (if t114 < t111 then ((spec_FpSub.f 0 t111).bind fun t115 => (some (t115, true))) else (some (t111, true)))) else (some (0, false)))))) = some (r1, r2) := h
 clear h
 replace H := Option.bind_eq_some_iff.mp H
 obtain ⟨t111, A20, H⟩ := H
 have A2 := Aside0.mk A20
 clear A20
 replace H := Option.bind_eq_some_iff.mp H
 obtain ⟨t112, A30, H⟩ := H
 have A3 := Aside0.mk A30
 clear A30
 replace H := Option.bind_eq_some_iff.mp H
 obtain ⟨t113, A40, H⟩ := H
 have A4 := Aside0.mk A40
 clear A40
 by_cases c5 : t112 = t113
 ·rw [if_pos c5] at H
  have c5b0 : (t112 == t113) = true := beq_iff_eq.mpr c5
  have c5b1 : (t112 != t113) = false := bne_eq_false_iff_eq.mpr c5
  clear c5
  replace H := Option.bind_eq_some_iff.mp H
  obtain ⟨t114, A60, H⟩ := H
  have A6 := Aside0.mk A60
  clear A60
  by_cases c7 : t114 < t111
  ·rw [if_pos c7] at H
   have c7b0 : decide (t114 < t111) = true := decide_eq_true c7
   clear c7
   replace H := Option.bind_eq_some_iff.mp H
   obtain ⟨t115, A80, H⟩ := H
   have A8 := Aside0.mk A80
   clear A80
   have et115_ : t114 = t115 := Option.some.inj (A6.out.symm.trans A8.out)
   subst et115_
   simp only [Option.some.injEq, Prod.mk.injEq] at H
   obtain ⟨rfl, rfl⟩ := H
   go_enter Tryd.func43, Tryd.ntmps43
   go_wp2_with (first | ((with_reducible refine gate_callee (f := 83) rfl ?_); refine gL (some 6) Tryd.func83 #[.int .i64 a0, .int .i64 3027] ?_; (with_reducible refine (spec_FpPow.calls k a0 3027 t111 _ A2.out).mono ?_); rintro e w' ⟨rfl, ⟨nd, rfl⟩⟩; refine ⟨_, rfl, ?_⟩) | ((with_reducible refine gate_callee (f := 84) rfl ?_); refine gL (some 9) Tryd.func84 #[.int .i64 t111, .int .i64 t111] ?_; (with_reducible refine (spec_FpMul.calls t111 t111 t112 _ A3.out).mono ?_); rintro e w' ⟨rfl, ⟨nd, rfl⟩⟩; refine ⟨_, rfl, ?_⟩) | ((with_reducible refine gate_callee (f := 42) rfl ?_); refine gL (some 11) Tryd.func42 #[.int .i64 a0] ?_; (with_reducible refine (spec_FpOf.calls a0 t113 _ A4.out).mono ?_); rintro e w' ⟨rfl, ⟨nd, rfl⟩⟩; refine ⟨_, rfl, ?_⟩) | ((with_reducible refine gate_callee (f := 85) rfl ?_); refine gL (some 14) Tryd.func85 #[.int .i64 0, .int .i64 t111] ?_; (with_reducible refine (spec_FpSub.calls 0 t111 t114 _ A6.out).mono ?_); rintro e w' ⟨rfl, ⟨nd, rfl⟩⟩; refine ⟨_, rfl, ?_⟩) | ((with_reducible refine gate_callee (f := 85) rfl ?_); refine gL (some 18) Tryd.func85 #[.int .i64 0, .int .i64 t111] ?_; (with_reducible refine (spec_FpSub.calls 0 t111 t114 _ A8.out).mono ?_); rintro e w' ⟨rfl, ⟨nd, rfl⟩⟩; refine ⟨_, rfl, ?_⟩))
   go_ret2
   exact ⟨rS, rD⟩
  ·rw [if_neg c7] at H
   have c7b0 : decide (t114 < t111) = false := decide_eq_false c7
   clear c7
   simp only [Option.some.injEq, Prod.mk.injEq] at H
   obtain ⟨rfl, rfl⟩ := H
   go_enter Tryd.func43, Tryd.ntmps43
   go_wp2_with (first | ((with_reducible refine gate_callee (f := 83) rfl ?_); refine gL (some 6) Tryd.func83 #[.int .i64 a0, .int .i64 3027] ?_; (with_reducible refine (spec_FpPow.calls k a0 3027 t111 _ A2.out).mono ?_); rintro e w' ⟨rfl, ⟨nd, rfl⟩⟩; refine ⟨_, rfl, ?_⟩) | ((with_reducible refine gate_callee (f := 84) rfl ?_); refine gL (some 9) Tryd.func84 #[.int .i64 t111, .int .i64 t111] ?_; (with_reducible refine (spec_FpMul.calls t111 t111 t112 _ A3.out).mono ?_); rintro e w' ⟨rfl, ⟨nd, rfl⟩⟩; refine ⟨_, rfl, ?_⟩) | ((with_reducible refine gate_callee (f := 42) rfl ?_); refine gL (some 11) Tryd.func42 #[.int .i64 a0] ?_; (with_reducible refine (spec_FpOf.calls a0 t113 _ A4.out).mono ?_); rintro e w' ⟨rfl, ⟨nd, rfl⟩⟩; refine ⟨_, rfl, ?_⟩) | ((with_reducible refine gate_callee (f := 85) rfl ?_); refine gL (some 14) Tryd.func85 #[.int .i64 0, .int .i64 t111] ?_; (with_reducible refine (spec_FpSub.calls 0 t111 t114 _ A6.out).mono ?_); rintro e w' ⟨rfl, ⟨nd, rfl⟩⟩; refine ⟨_, rfl, ?_⟩))
   go_ret2
   exact ⟨rS, rD⟩
 ·rw [if_neg c5] at H
  have c5b0 : (t112 == t113) = false := beq_eq_false_iff_ne.mpr c5
  have c5b1 : (t112 != t113) = true := bne_iff_ne.mpr c5
  simp only [Option.some.injEq, Prod.mk.injEq] at H
  obtain ⟨rfl, rfl⟩ := H
  go_enter Tryd.func43, Tryd.ntmps43
  go_wp2_with (first | ((with_reducible refine gate_callee (f := 83) rfl ?_); refine gL (some 6) Tryd.func83 #[.int .i64 a0, .int .i64 3027] ?_; (with_reducible refine (spec_FpPow.calls k a0 3027 t111 _ A2.out).mono ?_); rintro e w' ⟨rfl, ⟨nd, rfl⟩⟩; refine ⟨_, rfl, ?_⟩) | ((with_reducible refine gate_callee (f := 84) rfl ?_); refine gL (some 9) Tryd.func84 #[.int .i64 t111, .int .i64 t111] ?_; (with_reducible refine (spec_FpMul.calls t111 t111 t112 _ A3.out).mono ?_); rintro e w' ⟨rfl, ⟨nd, rfl⟩⟩; refine ⟨_, rfl, ?_⟩) | ((with_reducible refine gate_callee (f := 42) rfl ?_); refine gL (some 11) Tryd.func42 #[.int .i64 a0] ?_; (with_reducible refine (spec_FpOf.calls a0 t113 _ A4.out).mono ?_); rintro e w' ⟨rfl, ⟨nd, rfl⟩⟩; refine ⟨_, rfl, ?_⟩))
  go_ret2
  exact ⟨rS, rD⟩
/-! ### spec_FpAdd: function 86 -/
def spec_FpAdd.f (a0 : Int) (a1 : Int) : Option (Int) := (spec_FpOf.f a0).bind fun t116 => ((spec_FpOf.f a1).bind fun t117 => ((spec_FpOf.f (wrap64 (t116 + t117))).bind fun t118 => (some t118)))
set_option maxHeartbeats 8000000 in
set_option maxRecDepth 100000 in
theorem spec_FpAdd.calls (a0 : Int) (a1 : Int) (r : Int) (w : World) (h : spec_FpAdd.f a0 a1 = some r) :
  Calls Tryd.prog 86 #[.int .i64 a0, .int .i64 a1] w fun e w' => e = .returned (.int .i64 r) ∧ Drawn0 w w' := by
 have H : ((spec_FpOf.f a0).bind fun t116 => ((spec_FpOf.f a1).bind fun t117 => ((spec_FpOf.f (wrap64 (t116 + t117))).bind fun t118 => (some t118)))) = some r := h
 clear h
 replace H := Option.bind_eq_some_iff.mp H
 obtain ⟨t116, A30, H⟩ := H
 have A3 := Aside0.mk A30
 clear A30
 replace H := Option.bind_eq_some_iff.mp H
 obtain ⟨t117, A40, H⟩ := H
 have A4 := Aside0.mk A40
 clear A40
 replace H := Option.bind_eq_some_iff.mp H
 obtain ⟨t118, A50, H⟩ := H
 have A5 := Aside0.mk A50
 clear A50
 obtain rfl := Option.some.inj H
 go_enter Tryd.func86, Tryd.ntmps86
 go_wp2_with (first | ((with_reducible refine gate_callee (f := 42) rfl ?_); refine gL (some 6) Tryd.func42 #[.int .i64 a0] ?_; (with_reducible refine (spec_FpOf.calls a0 t116 _ A3.out).mono ?_); rintro e w' ⟨rfl, ⟨nd, rfl⟩⟩; refine ⟨_, rfl, ?_⟩) | ((with_reducible refine gate_callee (f := 42) rfl ?_); refine gL (some 8) Tryd.func42 #[.int .i64 a1] ?_; (with_reducible refine (spec_FpOf.calls a1 t117 _ A4.out).mono ?_); rintro e w' ⟨rfl, ⟨nd, rfl⟩⟩; refine ⟨_, rfl, ?_⟩) | ((with_reducible refine gate_callee (f := 42) rfl ?_); refine gL (some 10) Tryd.func42 #[.int .i64 (wrap64 (t116 + t117))] ?_; (with_reducible refine (spec_FpOf.calls (wrap64 (t116 + t117)) t118 _ A5.out).mono ?_); rintro e w' ⟨rfl, ⟨nd, rfl⟩⟩; refine ⟨_, rfl, ?_⟩))
 go_ret
 exact ⟨rS, rD⟩
/-! ### spec_l07Right: function 44 -/
def spec_l07Right.f (a0 : Int) : Option (Int) := (spec_FpMul.f a0 a0).bind fun t119 => ((spec_FpMul.f t119 a0).bind fun t120 => ((spec_FpAdd.f t120 a0).bind fun t121 => (some t121)))
set_option maxHeartbeats 8000000 in
set_option maxRecDepth 100000 in
theorem spec_l07Right.calls (a0 : Int) (r : Int) (w : World) (h : spec_l07Right.f a0 = some r) :
  Calls Tryd.prog 44 #[.int .i64 a0] w fun e w' => e = .returned (.int .i64 r) ∧ Drawn0 w w' := by
 have H : ((spec_FpMul.f a0 a0).bind fun t119 => ((spec_FpMul.f t119 a0).bind fun t120 => ((spec_FpAdd.f t120 a0).bind fun t121 => (some t121)))) = some r := h
 clear h
 replace H := Option.bind_eq_some_iff.mp H
 obtain ⟨t119, A20, H⟩ := H
 have A2 := Aside0.mk A20
 clear A20
 replace H := Option.bind_eq_some_iff.mp H
 obtain ⟨t120, A30, H⟩ := H
 have A3 := Aside0.mk A30
 clear A30
 replace H := Option.bind_eq_some_iff.mp H
 obtain ⟨t121, A40, H⟩ := H
 have A4 := Aside0.mk A40
 clear A40
 obtain rfl := Option.some.inj H
 go_enter Tryd.func44, Tryd.ntmps44
 go_wp2_with (first | ((with_reducible refine gate_callee (f := 84) rfl ?_); refine gL (some 5) Tryd.func84 #[.int .i64 a0, .int .i64 a0] ?_; (with_reducible refine (spec_FpMul.calls a0 a0 t119 _ A2.out).mono ?_); rintro e w' ⟨rfl, ⟨nd, rfl⟩⟩; refine ⟨_, rfl, ?_⟩) | ((with_reducible refine gate_callee (f := 84) rfl ?_); refine gL (some 7) Tryd.func84 #[.int .i64 t119, .int .i64 a0] ?_; (with_reducible refine (spec_FpMul.calls t119 a0 t120 _ A3.out).mono ?_); rintro e w' ⟨rfl, ⟨nd, rfl⟩⟩; refine ⟨_, rfl, ?_⟩) | ((with_reducible refine gate_callee (f := 86) rfl ?_); refine gL (some 9) Tryd.func86 #[.int .i64 t120, .int .i64 a0] ?_; (with_reducible refine (spec_FpAdd.calls t120 a0 t121 _ A4.out).mono ?_); rintro e w' ⟨rfl, ⟨nd, rfl⟩⟩; refine ⟨_, rfl, ?_⟩))
 go_ret
 exact ⟨rS, rD⟩
/-! ### spec_l07Zero: function 56 -/
def spec_l07Zero.f  : Option (Int × Int × Bool) := some (0, 0, true)
set_option maxHeartbeats 8000000 in
set_option maxRecDepth 100000 in
theorem spec_l07Zero.calls  (r1 : Int) (r2 : Int) (r3 : Bool) (w : World) (h : spec_l07Zero.f  = some (r1, r2, r3)) :
  Calls Tryd.prog 56 #[] w fun e w' => e = .returned (.agg #[.int .i64 r1, .int .i64 r2, .bool r3]) ∧ Below w.heap.size w w' := by
 have hu23 := Tryd.underlying23
 have HB := Aside0.mk (Below.refl w.heap.size w)
 have H : (some (0, 0, true)) = some (r1, r2, r3) := h
 clear h
 simp only [Option.some.injEq, Prod.mk.injEq] at H
 obtain ⟨rfl, rfl, rfl⟩ := H
 go_enter Tryd.func56, Tryd.ntmps56
 go_wp2_with (first | ((with_reducible refine gate_dst (N := 0) rfl ?_); refine bE 0 #[.int .i64 0, .int .i64 0, .bool false] 23 ?_; intro gb122 hg w1 hbox hb; have BK122 := Aside0.mk (hbox); have GW122 := bG HB hg; have GE122 := bG HB hg; replace HB := bS HB hb; clear hb hbox hg; obtain ⟨hcz2_0, hcz2_1, hcz2_2, hfz2_0, hfz2_1, hfz2_2⟩ := bK3 (w := w1) BK122))
 refine rC gb122 23 #[.int .i64 0, .int .i64 0, .bool true] (bU BK122) Tryd.underlying23 ?_
 exact ⟨rR, bZ HB⟩
/-! ### spec_l01In: function 55 -/
def spec_l01In.f (a0 : Int) (a1 : Int) (a2 : Int) : Option (Bool) := if a0 ≥ a1 then (some (decide (a0 ≤ a2))) else (some false)
set_option maxHeartbeats 8000000 in
set_option maxRecDepth 100000 in
theorem spec_l01In.calls (a0 : Int) (a1 : Int) (a2 : Int) (r : Bool) (w : World) (h : spec_l01In.f a0 a1 a2 = some r) :
  Calls Tryd.prog 55 #[.int .i64 a0, .int .i64 a1, .int .i64 a2] w fun e w' => e = .returned (.bool r) ∧ Drawn0 w w' := by
 have H : (if a0 ≥ a1 then (some (decide (a0 ≤ a2))) else (some false)) = some r := h
 clear h
 by_cases c4 : a0 ≥ a1
 ·rw [if_pos c4] at H
  have c4b0 : decide (a1 ≤ a0) = true := decide_eq_true c4
  clear c4
  obtain rfl := Option.some.inj H
  go_enter Tryd.func55, Tryd.ntmps55
  go_wp2
  go_ret
  exact ⟨rS, rD⟩
 ·rw [if_neg c4] at H
  have c4b0 : decide (a1 ≤ a0) = false := decide_eq_false c4
  clear c4
  obtain rfl := Option.some.inj H
  go_enter Tryd.func55, Tryd.ntmps55
  go_wp2
  go_ret
  exact ⟨rS, rD⟩
/-! ### spec_FpOk: function 119 -/
def spec_FpOk.f (a0 : Int) : Option (Bool) := (spec_l01In.f a0 0 12106).bind fun t123 => (some t123)
set_option maxHeartbeats 8000000 in
set_option maxRecDepth 100000 in
theorem spec_FpOk.calls (a0 : Int) (r : Bool) (w : World) (h : spec_FpOk.f a0 = some r) :
  Calls Tryd.prog 119 #[.int .i64 a0] w fun e w' => e = .returned (.bool r) ∧ Drawn0 w w' := by
 have H : ((spec_l01In.f a0 0 12106).bind fun t123 => (some t123)) = some r := h
 clear h
 replace H := Option.bind_eq_some_iff.mp H
 obtain ⟨t123, A20, H⟩ := H
 have A2 := Aside0.mk A20
 clear A20
 obtain rfl := Option.some.inj H
 go_enter Tryd.func119, Tryd.ntmps119
 go_wp2_with (first | ((with_reducible refine gate_callee (f := 55) rfl ?_); refine gL (some 4) Tryd.func55 #[.int .i64 a0, .int .i64 0, .int .i64 12106] ?_; (with_reducible refine (spec_l01In.calls a0 0 12106 t123 _ A2.out).mono ?_); rintro e w' ⟨rfl, ⟨nd, rfl⟩⟩; refine ⟨_, rfl, ?_⟩))
 go_ret
 exact ⟨rS, rD⟩
/-! ### spec_PointOk: function 87 -/
def spec_PointOk.f (a0_0 : Int) (a0_1 : Int) (a0_2 : Bool) : Option (Bool) := if a0_2 = true then (if a0_0 = 0 then (some (a0_1 == 0)) else (some false)) else ((spec_FpOk.f a0_0).bind fun t125 => (if t125 = true then ((spec_FpOk.f a0_1).bind fun t126 => (if t126 = true then ((spec_FpMul.f a0_1 a0_1).bind fun t127 => ((spec_l07Right.f a0_0).bind fun t128 => (some (t127 == t128)))) else (some false))) else (some false)))
set_option maxHeartbeats 8000000 in
set_option maxRecDepth 100000 in
theorem spec_PointOk.calls (a0_0 : Int) (a0_1 : Int) (a0_2 : Bool) (r : Bool) (w : World) (h : spec_PointOk.f a0_0 a0_1 a0_2 = some r) :
  Calls Tryd.prog 87 #[.agg #[.int .i64 a0_0, .int .i64 a0_1, .bool a0_2]] w fun e w' => e = .returned (.bool r) ∧ Below w.heap.size w w' := by
 have hu23 := Tryd.underlying23
 have HB := Aside0.mk (Below.refl w.heap.size w)
 have H : (if a0_2 = true then (if a0_0 = 0 then (some (a0_1 == 0)) else (some false)) else ((spec_FpOk.f a0_0).bind fun t125 => (if t125 = true then ((spec_FpOk.f a0_1).bind fun t126 => (if t126 = true then ((spec_FpMul.f a0_1 a0_1).bind fun t127 => ((spec_l07Right.f a0_0).bind fun t128 => (some (t127 == t128)))) else (some false))) else (some false)))) = some r := h
 clear h
 by_cases c2 : a0_2 = true
 ·subst c2
  rw [if_pos rfl] at H
  by_cases c3 : a0_0 = 0
  ·rw [if_pos c3] at H
   have c3b0 : (a0_0 == 0) = true := beq_iff_eq.mpr c3
   have c3b1 : (a0_0 != 0) = false := bne_eq_false_iff_eq.mpr c3
   clear c3
   obtain rfl := Option.some.inj H
   go_enter Tryd.func87, Tryd.ntmps87
   go_wp2_with (first | ((with_reducible refine gate_dst (N := 1) rfl ?_); refine bE 1 #[.int .i64 a0_0, .int .i64 a0_1, .bool true] 23 ?_; intro gb124 hg w4 hbox hb; have BK124 := Aside0.mk (hbox); have GW124 := bG HB hg; have GE124 := bG HB hg; replace HB := bS HB hb; clear hb hbox hg; obtain ⟨hcz5_0, hcz5_1, hcz5_2, hfz5_0, hfz5_1, hfz5_2⟩ := bK3 (w := w4) BK124))
   repeat (go_quiet (first | ((with_reducible refine gate_dst (N := 1) rfl ?_); refine bE 1 #[.int .i64 a0_0, .int .i64 a0_1, .bool true] 23 ?_; intro gb124 hg w4 hbox hb; have BK124 := Aside0.mk (hbox); have GW124 := bG HB hg; have GE124 := bG HB hg; replace HB := bS HB hb; clear hb hbox hg; obtain ⟨hcz5_0, hcz5_1, hcz5_2, hfz5_0, hfz5_1, hfz5_2⟩ := bK3 (w := w4) BK124)); try go_wp2_with (first | ((with_reducible refine gate_dst (N := 1) rfl ?_); refine bE 1 #[.int .i64 a0_0, .int .i64 a0_1, .bool true] 23 ?_; intro gb124 hg w4 hbox hb; have BK124 := Aside0.mk (hbox); have GW124 := bG HB hg; have GE124 := bG HB hg; replace HB := bS HB hb; clear hb hbox hg; obtain ⟨hcz5_0, hcz5_1, hcz5_2, hfz5_0, hfz5_1, hfz5_2⟩ := bK3 (w := w4) BK124)))
   go_ret
   exact ⟨rR, bZ HB⟩
  ·rw [if_neg c3] at H
   have c3b0 : (a0_0 == 0) = false := beq_eq_false_iff_ne.mpr c3
   have c3b1 : (a0_0 != 0) = true := bne_iff_ne.mpr c3
   obtain rfl := Option.some.inj H
   go_enter Tryd.func87, Tryd.ntmps87
   go_wp2_with (first | ((with_reducible refine gate_dst (N := 1) rfl ?_); refine bE 1 #[.int .i64 a0_0, .int .i64 a0_1, .bool true] 23 ?_; intro gb124 hg w6 hbox hb; have BK124 := Aside0.mk (hbox); have GW124 := bG HB hg; have GE124 := bG HB hg; replace HB := bS HB hb; clear hb hbox hg; obtain ⟨hcz7_0, hcz7_1, hcz7_2, hfz7_0, hfz7_1, hfz7_2⟩ := bK3 (w := w6) BK124))
   repeat (go_quiet (first | ((with_reducible refine gate_dst (N := 1) rfl ?_); refine bE 1 #[.int .i64 a0_0, .int .i64 a0_1, .bool true] 23 ?_; intro gb124 hg w6 hbox hb; have BK124 := Aside0.mk (hbox); have GW124 := bG HB hg; have GE124 := bG HB hg; replace HB := bS HB hb; clear hb hbox hg; obtain ⟨hcz7_0, hcz7_1, hcz7_2, hfz7_0, hfz7_1, hfz7_2⟩ := bK3 (w := w6) BK124)); try go_wp2_with (first | ((with_reducible refine gate_dst (N := 1) rfl ?_); refine bE 1 #[.int .i64 a0_0, .int .i64 a0_1, .bool true] 23 ?_; intro gb124 hg w6 hbox hb; have BK124 := Aside0.mk (hbox); have GW124 := bG HB hg; have GE124 := bG HB hg; replace HB := bS HB hb; clear hb hbox hg; obtain ⟨hcz7_0, hcz7_1, hcz7_2, hfz7_0, hfz7_1, hfz7_2⟩ := bK3 (w := w6) BK124)))
   go_ret
   exact ⟨rR, bZ HB⟩
 ·replace c2 := Bool.eq_false_iff.mpr c2
  subst c2
  rw [if_neg (show ¬ (false = true) by decide)] at H
  replace H := Option.bind_eq_some_iff.mp H
  obtain ⟨t125, A80, H⟩ := H
  have A8 := Aside0.mk A80
  clear A80
  by_cases c9 : t125 = true
  ·subst c9
   rw [if_pos rfl] at H
   replace H := Option.bind_eq_some_iff.mp H
   obtain ⟨t126, A100, H⟩ := H
   have A10 := Aside0.mk A100
   clear A100
   by_cases c11 : t126 = true
   ·subst c11
    rw [if_pos rfl] at H
    replace H := Option.bind_eq_some_iff.mp H
    obtain ⟨t127, A120, H⟩ := H
    have A12 := Aside0.mk A120
    clear A120
    replace H := Option.bind_eq_some_iff.mp H
    obtain ⟨t128, A130, H⟩ := H
    have A13 := Aside0.mk A130
    clear A130
    obtain rfl := Option.some.inj H
    go_enter Tryd.func87, Tryd.ntmps87
    go_wp2_with (first | ((with_reducible refine gate_dst (N := 1) rfl ?_); refine bE 1 #[.int .i64 a0_0, .int .i64 a0_1, .bool false] 23 ?_; intro gb124 hg w14 hbox hb; have BK124 := Aside0.mk (hbox); have GW124 := bG HB hg; have GE124 := bG HB hg; replace HB := bS HB hb; clear hb hbox hg; obtain ⟨hcz15_0, hcz15_1, hcz15_2, hfz15_0, hfz15_1, hfz15_2⟩ := bK3 (w := w14) BK124) | (go_at_call 119; (with_reducible refine (spec_FpOk.calls a0_0 true _ A8.out).mono ?_); rintro e w' ⟨rfl, ⟨nd, rfl⟩⟩; (try exact tD)) | (go_at_call 119; (with_reducible refine (spec_FpOk.calls a0_1 true _ A10.out).mono ?_); rintro e w' ⟨rfl, ⟨nd, rfl⟩⟩; (try exact tD)) | (go_at_call 84; (with_reducible refine (spec_FpMul.calls a0_1 a0_1 t127 _ A12.out).mono ?_); rintro e w' ⟨rfl, ⟨nd, rfl⟩⟩; (try exact tD)) | (go_at_call 44; (with_reducible refine (spec_l07Right.calls a0_0 t128 _ A13.out).mono ?_); rintro e w' ⟨rfl, ⟨nd, rfl⟩⟩; (try exact tD)))
    repeat (go_quiet (first | ((with_reducible refine gate_dst (N := 1) rfl ?_); refine bE 1 #[.int .i64 a0_0, .int .i64 a0_1, .bool false] 23 ?_; intro gb124 hg w14 hbox hb; have BK124 := Aside0.mk (hbox); have GW124 := bG HB hg; have GE124 := bG HB hg; replace HB := bS HB hb; clear hb hbox hg; obtain ⟨hcz15_0, hcz15_1, hcz15_2, hfz15_0, hfz15_1, hfz15_2⟩ := bK3 (w := w14) BK124) | (go_at_call 119; (with_reducible refine (spec_FpOk.calls a0_0 true _ A8.out).mono ?_); rintro e w' ⟨rfl, ⟨nd, rfl⟩⟩; (try exact tD)) | (go_at_call 119; (with_reducible refine (spec_FpOk.calls a0_1 true _ A10.out).mono ?_); rintro e w' ⟨rfl, ⟨nd, rfl⟩⟩; (try exact tD)) | (go_at_call 84; (with_reducible refine (spec_FpMul.calls a0_1 a0_1 t127 _ A12.out).mono ?_); rintro e w' ⟨rfl, ⟨nd, rfl⟩⟩; (try exact tD)) | (go_at_call 44; (with_reducible refine (spec_l07Right.calls a0_0 t128 _ A13.out).mono ?_); rintro e w' ⟨rfl, ⟨nd, rfl⟩⟩; (try exact tD))); try go_wp2_with (first | ((with_reducible refine gate_dst (N := 1) rfl ?_); refine bE 1 #[.int .i64 a0_0, .int .i64 a0_1, .bool false] 23 ?_; intro gb124 hg w14 hbox hb; have BK124 := Aside0.mk (hbox); have GW124 := bG HB hg; have GE124 := bG HB hg; replace HB := bS HB hb; clear hb hbox hg; obtain ⟨hcz15_0, hcz15_1, hcz15_2, hfz15_0, hfz15_1, hfz15_2⟩ := bK3 (w := w14) BK124) | (go_at_call 119; (with_reducible refine (spec_FpOk.calls a0_0 true _ A8.out).mono ?_); rintro e w' ⟨rfl, ⟨nd, rfl⟩⟩; (try exact tD)) | (go_at_call 119; (with_reducible refine (spec_FpOk.calls a0_1 true _ A10.out).mono ?_); rintro e w' ⟨rfl, ⟨nd, rfl⟩⟩; (try exact tD)) | (go_at_call 84; (with_reducible refine (spec_FpMul.calls a0_1 a0_1 t127 _ A12.out).mono ?_); rintro e w' ⟨rfl, ⟨nd, rfl⟩⟩; (try exact tD)) | (go_at_call 44; (with_reducible refine (spec_l07Right.calls a0_0 t128 _ A13.out).mono ?_); rintro e w' ⟨rfl, ⟨nd, rfl⟩⟩; (try exact tD))))
    go_ret
    exact ⟨rR, bZ HB⟩
   ·replace c11 := Bool.eq_false_iff.mpr c11
    subst c11
    rw [if_neg (show ¬ (false = true) by decide)] at H
    obtain rfl := Option.some.inj H
    go_enter Tryd.func87, Tryd.ntmps87
    go_wp2_with (first | ((with_reducible refine gate_dst (N := 1) rfl ?_); refine bE 1 #[.int .i64 a0_0, .int .i64 a0_1, .bool false] 23 ?_; intro gb124 hg w16 hbox hb; have BK124 := Aside0.mk (hbox); have GW124 := bG HB hg; have GE124 := bG HB hg; replace HB := bS HB hb; clear hb hbox hg; obtain ⟨hcz17_0, hcz17_1, hcz17_2, hfz17_0, hfz17_1, hfz17_2⟩ := bK3 (w := w16) BK124) | (go_at_call 119; (with_reducible refine (spec_FpOk.calls a0_0 true _ A8.out).mono ?_); rintro e w' ⟨rfl, ⟨nd, rfl⟩⟩; (try exact tD)) | (go_at_call 119; (with_reducible refine (spec_FpOk.calls a0_1 false _ A10.out).mono ?_); rintro e w' ⟨rfl, ⟨nd, rfl⟩⟩; (try exact tD)))
    repeat (go_quiet (first | ((with_reducible refine gate_dst (N := 1) rfl ?_); refine bE 1 #[.int .i64 a0_0, .int .i64 a0_1, .bool false] 23 ?_; intro gb124 hg w16 hbox hb; have BK124 := Aside0.mk (hbox); have GW124 := bG HB hg; have GE124 := bG HB hg; replace HB := bS HB hb; clear hb hbox hg; obtain ⟨hcz17_0, hcz17_1, hcz17_2, hfz17_0, hfz17_1, hfz17_2⟩ := bK3 (w := w16) BK124) | (go_at_call 119; (with_reducible refine (spec_FpOk.calls a0_0 true _ A8.out).mono ?_); rintro e w' ⟨rfl, ⟨nd, rfl⟩⟩; (try exact tD)) | (go_at_call 119; (with_reducible refine (spec_FpOk.calls a0_1 false _ A10.out).mono ?_); rintro e w' ⟨rfl, ⟨nd, rfl⟩⟩; (try exact tD))); try go_wp2_with (first | ((with_reducible refine gate_dst (N := 1) rfl ?_); refine bE 1 #[.int .i64 a0_0, .int .i64 a0_1, .bool false] 23 ?_; intro gb124 hg w16 hbox hb; have BK124 := Aside0.mk (hbox); have GW124 := bG HB hg; have GE124 := bG HB hg; replace HB := bS HB hb; clear hb hbox hg; obtain ⟨hcz17_0, hcz17_1, hcz17_2, hfz17_0, hfz17_1, hfz17_2⟩ := bK3 (w := w16) BK124) | (go_at_call 119; (with_reducible refine (spec_FpOk.calls a0_0 true _ A8.out).mono ?_); rintro e w' ⟨rfl, ⟨nd, rfl⟩⟩; (try exact tD)) | (go_at_call 119; (with_reducible refine (spec_FpOk.calls a0_1 false _ A10.out).mono ?_); rintro e w' ⟨rfl, ⟨nd, rfl⟩⟩; (try exact tD))))
    go_ret
    exact ⟨rR, bZ HB⟩
  ·replace c9 := Bool.eq_false_iff.mpr c9
   subst c9
   rw [if_neg (show ¬ (false = true) by decide)] at H
   obtain rfl := Option.some.inj H
   go_enter Tryd.func87, Tryd.ntmps87
   go_wp2_with (first | ((with_reducible refine gate_dst (N := 1) rfl ?_); refine bE 1 #[.int .i64 a0_0, .int .i64 a0_1, .bool false] 23 ?_; intro gb124 hg w18 hbox hb; have BK124 := Aside0.mk (hbox); have GW124 := bG HB hg; have GE124 := bG HB hg; replace HB := bS HB hb; clear hb hbox hg; obtain ⟨hcz19_0, hcz19_1, hcz19_2, hfz19_0, hfz19_1, hfz19_2⟩ := bK3 (w := w18) BK124) | (go_at_call 119; (with_reducible refine (spec_FpOk.calls a0_0 false _ A8.out).mono ?_); rintro e w' ⟨rfl, ⟨nd, rfl⟩⟩; (try exact tD)))
   repeat (go_quiet (first | ((with_reducible refine gate_dst (N := 1) rfl ?_); refine bE 1 #[.int .i64 a0_0, .int .i64 a0_1, .bool false] 23 ?_; intro gb124 hg w18 hbox hb; have BK124 := Aside0.mk (hbox); have GW124 := bG HB hg; have GE124 := bG HB hg; replace HB := bS HB hb; clear hb hbox hg; obtain ⟨hcz19_0, hcz19_1, hcz19_2, hfz19_0, hfz19_1, hfz19_2⟩ := bK3 (w := w18) BK124) | (go_at_call 119; (with_reducible refine (spec_FpOk.calls a0_0 false _ A8.out).mono ?_); rintro e w' ⟨rfl, ⟨nd, rfl⟩⟩; (try exact tD))); try go_wp2_with (first | ((with_reducible refine gate_dst (N := 1) rfl ?_); refine bE 1 #[.int .i64 a0_0, .int .i64 a0_1, .bool false] 23 ?_; intro gb124 hg w18 hbox hb; have BK124 := Aside0.mk (hbox); have GW124 := bG HB hg; have GE124 := bG HB hg; replace HB := bS HB hb; clear hb hbox hg; obtain ⟨hcz19_0, hcz19_1, hcz19_2, hfz19_0, hfz19_1, hfz19_2⟩ := bK3 (w := w18) BK124) | (go_at_call 119; (with_reducible refine (spec_FpOk.calls a0_0 false _ A8.out).mono ?_); rintro e w' ⟨rfl, ⟨nd, rfl⟩⟩; (try exact tD))))
   go_ret
   exact ⟨rR, bZ HB⟩
/-! ### spec_PointNeg: function 88 -/
def spec_PointNeg.f (a0_0 : Int) (a0_1 : Int) (a0_2 : Bool) : Option (Int × Int × Bool) := if a0_2 = true then ((spec_l07Zero.f).bind fun bt131 => (some (bt131.1, bt131.2.1, bt131.2.2))) else ((spec_FpSub.f 0 a0_1).bind fun t134 => (some (a0_0, t134, false)))
set_option maxHeartbeats 8000000 in
set_option maxRecDepth 100000 in
theorem spec_PointNeg.calls (a0_0 : Int) (a0_1 : Int) (a0_2 : Bool) (r1 : Int) (r2 : Int) (r3 : Bool) (w : World) (h : spec_PointNeg.f a0_0 a0_1 a0_2 = some (r1, r2, r3)) :
  Calls Tryd.prog 88 #[.agg #[.int .i64 a0_0, .int .i64 a0_1, .bool a0_2]] w fun e w' => e = .returned (.agg #[.int .i64 r1, .int .i64 r2, .bool r3]) ∧ Below w.heap.size w w' := by
 have hu23 := Tryd.underlying23
 have HB := Aside0.mk (Below.refl w.heap.size w)
 have H : (if a0_2 = true then ((spec_l07Zero.f).bind fun bt131 => (some (bt131.1, bt131.2.1, bt131.2.2))) else ((spec_FpSub.f 0 a0_1).bind fun t134 => (some (a0_0, t134, false)))) = some (r1, r2, r3) := h
 clear h
 by_cases c2 : a0_2 = true
 ·subst c2
  rw [if_pos rfl] at H
  replace H := Option.bind_eq_some_iff.mp H
  obtain ⟨⟨t131, t132, t133⟩, A30, H⟩ := H
  have A3 := Aside0.mk A30
  clear A30
  simp only [Option.some.injEq, Prod.mk.injEq] at H
  obtain ⟨rfl, rfl, rfl⟩ := H
  go_enter Tryd.func88, Tryd.ntmps88
  go_wp2_with (first | ((with_reducible refine gate_dst (N := 1) rfl ?_); refine bE 1 #[.int .i64 a0_0, .int .i64 a0_1, .bool true] 23 ?_; intro gb129 hg w4 hbox hb; have BK129 := Aside0.mk (hbox); have GW129 := bG HB hg; have GE129 := bG HB hg; replace HB := bS HB hb; clear hb hbox hg) | ((with_reducible refine gate_dst (N := 2) rfl ?_); refine bE 2 #[.int .i64 0, .int .i64 0, .bool false] 23 ?_; intro gb130 hg w5 hbox hb; have BK130 := Aside0.mk (hbox); have GW130 := bG HB hg; have GE130 := bG HB hg; replace HB := bS HB hb; have NB129_130 := bL BK129 hg; have NB130_129 := bR BK129 hg; replace BK129 := bB BK129 hb; clear hb hbox hg; have hnb6 := NB129_130.out; have hnc6 := NB130_129.out; obtain ⟨hcz7_0, hcz7_1, hcz7_2, hfz7_0, hfz7_1, hfz7_2⟩ := bK3 (w := w5) BK129) | ((with_reducible refine gate_callee (f := 56) rfl ?_); refine gL (some 5) Tryd.func56 #[] ?_; (with_reducible refine (spec_l07Zero.calls  t131 t132 t133 _ A3.out).mono ?_); rintro e w8 ⟨rfl, hb⟩; refine ⟨_, rfl, ?_⟩; replace BK129 := bB BK129 hb; replace BK130 := bB BK130 hb; replace HB := bS HB hb; (try clear hb); obtain ⟨hcz9_0, hcz9_1, hcz9_2, hfz9_0, hfz9_1, hfz9_2⟩ := bK3 (w := w8) BK130))
  refine rC gb130 23 #[.int .i64 t131, .int .i64 t132, .bool t133] (bU BK130) Tryd.underlying23 ?_
  exact ⟨rR, bZ HB⟩
 ·replace c2 := Bool.eq_false_iff.mpr c2
  subst c2
  rw [if_neg (show ¬ (false = true) by decide)] at H
  replace H := Option.bind_eq_some_iff.mp H
  obtain ⟨t134, A100, H⟩ := H
  have A10 := Aside0.mk A100
  clear A100
  simp only [Option.some.injEq, Prod.mk.injEq] at H
  obtain ⟨rfl, rfl, rfl⟩ := H
  go_enter Tryd.func88, Tryd.ntmps88
  try go_wp2_with (first | ((with_reducible refine gate_dst (N := 1) rfl ?_); refine bE 1 #[.int .i64 a0_0, .int .i64 a0_1, .bool false] 23 ?_; intro gb129 hg w11 hbox hb; have BK129 := Aside0.mk (hbox); have GW129 := bG HB hg; have GE129 := bG HB hg; replace HB := bS HB hb; clear hb hbox hg) | ((with_reducible refine gate_dst (N := 2) rfl ?_); refine bE 2 #[.int .i64 0, .int .i64 0, .bool false] 23 ?_; intro gb130 hg w12 hbox hb; have BK130 := Aside0.mk (hbox); have GW130 := bG HB hg; have GE130 := bG HB hg; replace HB := bS HB hb; have NB129_130 := bL BK129 hg; have NB130_129 := bR BK129 hg; replace BK129 := bB BK129 hb; clear hb hbox hg; have hnb13 := NB129_130.out; have hnc13 := NB130_129.out; obtain ⟨hcz14_0, hcz14_1, hcz14_2, hfz14_0, hfz14_1, hfz14_2⟩ := bK3 (w := w12) BK129))
  replace BK129 := Aside0.mk (blk_drew BK129.out)
  replace BK130 := Aside0.mk (blk_drew BK130.out)
  replace HB := Aside0.mk (below_drew1 HB.out)
  refine start_ (n := 7) (S := fun w' => w'.cell? ⟨gb129, 0, none⟩ = some (.int .i64 a0_0) ∧ w'.cell? ⟨gb129, 1, none⟩ = some (.int .i64 a0_1) ∧ w'.cell? ⟨gb129, 2, none⟩ = some (.bool false)) (ds := []) #[false, false, false, false, false, false, false] (by kernel_rfl) rfl rfl ⟨bc BK129 0, bc BK129 1, bc BK129 2⟩ (fun hHeld => ?_)
  generalize w12.drew = w15 at BK129 BK130 HB hHeld ⊢
  refine pure_ (i := 0) (N := some 6) (v := ?_) (a' := ?_) #[true, false, false, false, false, false, false] rfl rfl (by kernel_rfl) (fun _ _ _ h => h) (Or.inl ⟨by rfl, ?_⟩) ?_ ?_
  rotate_left
  ·intro w'
   go_simp
   with_reducible rfl
  rotate_left
  ·simp only [Act.put, List.setIfInBounds_toArray, List.set_cons_zero, List.set_cons_succ, i64_w, i32_w]
   rfl
  refine pure_ (i := 2) (N := some 8) (v := ?_) (a' := ?_) #[true, false, true, false, false, false, false] rfl rfl (by kernel_rfl) (fun _ _ _ h => h) (Or.inl ⟨by rfl, ?_⟩) ?_ ?_
  rotate_left
  ·intro w'
   go_simp
   with_reducible rfl
  rotate_left
  ·simp only [Act.put, List.setIfInBounds_toArray, List.set_cons_zero, List.set_cons_succ, i64_w, i32_w]
   rfl
  refine take_ (i := 1) (N := some 7) (v := ?_) (a' := ?_) #[true, true, true, false, false, false, false] rfl rfl (by kernel_rfl) (fun _ _ _ h => h) (Or.inl ⟨by rfl, ?_⟩) hHeld ?_ ?_
  rotate_left
  ·rintro w' ⟨s0, s1, s2⟩
   go_simp
   with_reducible rfl
  rotate_left
  ·simp only [Act.put, List.setIfInBounds_toArray, List.set_cons_zero, List.set_cons_succ, i64_w, i32_w]
   rfl
  refine take_ (i := 3) (N := some 9) (v := ?_) (a' := ?_) #[true, true, true, true, false, false, false] rfl rfl (by kernel_rfl) (fun _ _ _ h => h) (Or.inl ⟨by rfl, ?_⟩) hHeld ?_ ?_
  rotate_left
  ·rintro w' ⟨s0, s1, s2⟩
   go_simp
   with_reducible rfl
  rotate_left
  ·simp only [Act.put, List.setIfInBounds_toArray, List.set_cons_zero, List.set_cons_succ, i64_w, i32_w]
   rfl
  refine one_ (i := 4) (N := some 10) #[true, true, true, true, true, false, false] rfl rfl (by kernel_rfl) (by decide) (fun K hK => ?_)
  refine gO Tryd.func85 #[.int .i64 0, .int .i64 a0_1] ?_
  with_reducible refine (spec_FpSub.calls 0 a0_1 t134 _ A10.out).mono ?_
  rintro e w' ⟨rfl, ⟨nd, rfl⟩⟩
  refine ⟨_, rfl, ?_⟩
  refine hK.out _ _ ⟨bc BK129 0, bc BK129 1, bc BK129 2⟩ (fun hHeld => ?_)
  clear hK K
  refine nO (some 10) ?_
  refine pure_ (i := 5) (N := some 11) (v := ?_) (a' := ?_) #[true, true, true, true, true, true, false] rfl rfl (by kernel_rfl) (fun _ _ _ h => h) (Or.inl ⟨by rfl, ?_⟩) ?_ ?_
  rotate_left
  ·intro w'
   go_simp
   with_reducible rfl
  rotate_left
  ·simp only [Act.put, List.setIfInBounds_toArray, List.set_cons_zero, List.set_cons_succ, i64_w, i32_w]
   rfl
  refine one_ (i := 6) (N := none) #[true, true, true, true, true, true, true] rfl rfl (by kernel_rfl) (by decide) (fun K hK => ?_)
  have hs16 : w15.cell? ⟨gb130, 0, none⟩ = some (.int .i64 0) := bc BK130 0
  have hfs16 := blk_frozen BK130.out 0
  have hns16_0 := NB129_130.out
  have hms16_0 := NB130_129.out
  have hs17 : w15.cell? ⟨gb130, 1, none⟩ = some (.int .i64 0) := bc BK130 1
  have hfs17 := blk_frozen BK130.out 1
  have hns17_0 := NB129_130.out
  have hms17_0 := NB130_129.out
  have hs18 : w15.cell? ⟨gb130, 2, none⟩ = some (.bool false) := bc BK130 2
  have hfs18 := blk_frozen BK130.out 2
  have hns18_0 := NB129_130.out
  have hms18_0 := NB130_129.out
  refine skip_ (w1 := ?_) (by rfl) rfl ?_ ?_
  rotate_left
  ·go_simp
   rfl
  refine hK.out _ _ ⟨((cell_far (p := ⟨gb130, _, none⟩) NB129_130.out _).trans (((cell_far (p := ⟨gb130, _, none⟩) NB129_130.out _).trans (((cell_far (p := ⟨gb130, _, none⟩) NB129_130.out _).trans (hHeld.1)))))), ((cell_far (p := ⟨gb130, _, none⟩) NB129_130.out _).trans (((cell_far (p := ⟨gb130, _, none⟩) NB129_130.out _).trans (((cell_far (p := ⟨gb130, _, none⟩) NB129_130.out _).trans (hHeld.2.1)))))), ((cell_far (p := ⟨gb130, _, none⟩) NB129_130.out _).trans (((cell_far (p := ⟨gb130, _, none⟩) NB129_130.out _).trans (((cell_far (p := ⟨gb130, _, none⟩) NB129_130.out _).trans (hHeld.2.2))))))⟩ (fun hHeld => ?_)
  clear hK K
  refine done_ (by kernel_rfl) ?_
  try go_wp2
  refine rC gb130 23 #[.int .i64 a0_0, .int .i64 t134, .bool false] (bU BK130) Tryd.underlying23 ?_
  exact ⟨rR, bZ HB⟩
/-! ### spec_FpInv: function 131 -/
def spec_FpInv.f (k : Nat) (a0 : Int) : Option (Int) := (spec_FpPow.f k a0 12105).bind fun t135 => (some t135)
theorem spec_FpInv.mono : ∀ a0 k, LeO (spec_FpInv.f k a0) (spec_FpInv.f (k + 1) a0) := by
 intro a0 k
 unfold spec_FpInv.f
 repeat' first
   | (with_reducible exact spec_FpPow.mono _ _ _)
   | (with_reducible exact LeO.refl _)
   | (with_reducible exact LeO.none _)
   | (with_reducible refine LeO.ite ?_ ?_)
   | (with_reducible refine LeO.bind ?_ (fun _ => ?_))
   | exact spec_FpPow.mono _ _ _
   | exact LeO.none _
   | refine LeO.ite ?_ ?_
   | refine LeO.bind ?_ (fun _ => ?_)
set_option maxHeartbeats 8000000 in
set_option maxRecDepth 100000 in
theorem spec_FpInv.calls (k : Nat) (a0 : Int) (r : Int) (w : World) (h : spec_FpInv.f k a0 = some r) :
  Calls Tryd.prog 131 #[.int .i64 a0] w fun e w' => e = .returned (.int .i64 r) ∧ Drawn0 w w' := by
 have H : ((spec_FpPow.f k a0 12105).bind fun t135 => (some t135)) = some r := h
 clear h
 replace H := Option.bind_eq_some_iff.mp H
 obtain ⟨t135, A20, H⟩ := H
 have A2 := Aside0.mk A20
 clear A20
 obtain rfl := Option.some.inj H
 go_enter Tryd.func131, Tryd.ntmps131
 go_wp2_with (first | ((with_reducible refine gate_callee (f := 83) rfl ?_); refine gL (some 4) Tryd.func83 #[.int .i64 a0, .int .i64 12105] ?_; (with_reducible refine (spec_FpPow.calls k a0 12105 t135 _ A2.out).mono ?_); rintro e w' ⟨rfl, ⟨nd, rfl⟩⟩; refine ⟨_, rfl, ?_⟩))
 go_ret
 exact ⟨rS, rD⟩
/-! ### spec_l07Slope: function 120 -/
def spec_l07Slope.f (k : Nat) (a0_0 : Int) (a0_1 : Int) (a0_2 : Bool) (a1_0 : Int) (a1_1 : Int) (a1_2 : Bool) : Option (Int × Bool) := if a0_0 = a1_0 then ((spec_FpAdd.f a0_1 a1_1).bind fun t142 => (if t142 = 0 then (some (0, false)) else ((spec_FpMul.f a0_0 a0_0).bind fun t143 => ((spec_FpMul.f 3 t143).bind fun t144 => ((spec_FpAdd.f t144 1).bind fun t145 => ((spec_FpMul.f 2 a0_1).bind fun t146 => ((spec_FpInv.f k t146).bind fun t147 => ((spec_FpMul.f t145 t147).bind fun t148 => (some (t148, true)))))))))) else ((spec_FpSub.f a1_1 a0_1).bind fun t138 => ((spec_FpSub.f a1_0 a0_0).bind fun t139 => ((spec_FpInv.f k t139).bind fun t140 => ((spec_FpMul.f t138 t140).bind fun t141 => (some (t141, true))))))
theorem spec_l07Slope.mono : ∀ a0 a1 a2 a3 a4 a5 k, LeO (spec_l07Slope.f k a0 a1 a2 a3 a4 a5) (spec_l07Slope.f (k + 1) a0 a1 a2 a3 a4 a5) := by
 intro a0 a1 a2 a3 a4 a5 k
 unfold spec_l07Slope.f
 repeat' first
   | (with_reducible exact spec_FpInv.mono _ _)
   | (with_reducible exact LeO.refl _)
   | (with_reducible exact LeO.none _)
   | (with_reducible refine LeO.ite ?_ ?_)
   | (with_reducible refine LeO.bind ?_ (fun _ => ?_))
   | exact spec_FpInv.mono _ _
   | exact LeO.none _
   | refine LeO.ite ?_ ?_
   | refine LeO.bind ?_ (fun _ => ?_)
set_option maxHeartbeats 8000000 in
set_option maxRecDepth 100000 in
theorem spec_l07Slope.calls (k : Nat) (a0_0 : Int) (a0_1 : Int) (a0_2 : Bool) (a1_0 : Int) (a1_1 : Int) (a1_2 : Bool) (r1 : Int) (r2 : Bool) (w : World) (h : spec_l07Slope.f k a0_0 a0_1 a0_2 a1_0 a1_1 a1_2 = some (r1, r2)) :
  Calls Tryd.prog 120 #[.agg #[.int .i64 a0_0, .int .i64 a0_1, .bool a0_2], .agg #[.int .i64 a1_0, .int .i64 a1_1, .bool a1_2]] w fun e w' => e = .returned (.tuple #[.int .i64 r1, .bool r2]) ∧ Below w.heap.size w w' := by
 have hu23 := Tryd.underlying23
 have HB := Aside0.mk (Below.refl w.heap.size w)
 have H : (if a0_0 = a1_0 then ((spec_FpAdd.f a0_1 a1_1).bind fun t142 => (if t142 = 0 then (some (0, false)) else ((spec_FpMul.f a0_0 a0_0).bind fun t143 => ((spec_FpMul.f 3 t143).bind fun t144 => ((spec_FpAdd.f t144 1).bind fun t145 => ((spec_FpMul.f 2 a0_1).bind fun t146 => ((spec_FpInv.f k t146).bind fun t147 => ((spec_FpMul.f t145 t147).bind fun t148 => (some (t148, true)))))))))) else ((spec_FpSub.f a1_1 a0_1).bind fun t138 => ((spec_FpSub.f a1_0 a0_0).bind fun t139 => ((spec_FpInv.f k t139).bind fun t140 => ((spec_FpMul.f t138 t140).bind fun t141 => (some (t141, true))))))) = some (r1, r2) := h
 clear h
 by_cases c3 : a0_0 = a1_0
 ·rw [if_pos c3] at H
  have c3b0 : (a0_0 == a1_0) = true := beq_iff_eq.mpr c3
  have c3b1 : (a0_0 != a1_0) = false := bne_eq_false_iff_eq.mpr c3
  clear c3
  replace H := Option.bind_eq_some_iff.mp H
  obtain ⟨t142, A40, H⟩ := H
  have A4 := Aside0.mk A40
  clear A40
  by_cases c5 : t142 = 0
  ·rw [if_pos c5] at H
   have c5b0 : (t142 == 0) = true := beq_iff_eq.mpr c5
   have c5b1 : (t142 != 0) = false := bne_eq_false_iff_eq.mpr c5
   clear c5
   simp only [Option.some.injEq, Prod.mk.injEq] at H
   obtain ⟨rfl, rfl⟩ := H
   go_enter Tryd.func120, Tryd.ntmps120
   go_wp2_with (first | ((with_reducible refine gate_dst (N := 2) rfl ?_); refine bE 2 #[.int .i64 a0_0, .int .i64 a0_1, .bool a0_2] 23 ?_; intro gb136 hg w6 hbox hb; have BK136 := Aside0.mk (hbox); have GW136 := bG HB hg; have GE136 := bG HB hg; replace HB := bS HB hb; clear hb hbox hg) | ((with_reducible refine gate_dst (N := 3) rfl ?_); refine bE 3 #[.int .i64 a1_0, .int .i64 a1_1, .bool a1_2] 23 ?_; intro gb137 hg w7 hbox hb; have BK137 := Aside0.mk (hbox); have GW137 := bG HB hg; have GE137 := bG HB hg; replace HB := bS HB hb; have NB136_137 := bL BK136 hg; have NB137_136 := bR BK136 hg; replace BK136 := bB BK136 hb; clear hb hbox hg; have hnb8 := NB136_137.out; have hnc8 := NB137_136.out; obtain ⟨hcz9_0, hcz9_1, hcz9_2, hfz9_0, hfz9_1, hfz9_2⟩ := bK3 (w := w7) BK136; obtain ⟨hcz10_0, hcz10_1, hcz10_2, hfz10_0, hfz10_1, hfz10_2⟩ := bK3 (w := w7) BK137) | (go_at_call 86; (with_reducible refine (spec_FpAdd.calls a0_1 a1_1 t142 _ A4.out).mono ?_); rintro e w' ⟨rfl, ⟨nd, rfl⟩⟩; (try exact tD)))
   repeat (go_quiet (first | ((with_reducible refine gate_dst (N := 2) rfl ?_); refine bE 2 #[.int .i64 a0_0, .int .i64 a0_1, .bool a0_2] 23 ?_; intro gb136 hg w6 hbox hb; have BK136 := Aside0.mk (hbox); have GW136 := bG HB hg; have GE136 := bG HB hg; replace HB := bS HB hb; clear hb hbox hg) | ((with_reducible refine gate_dst (N := 3) rfl ?_); refine bE 3 #[.int .i64 a1_0, .int .i64 a1_1, .bool a1_2] 23 ?_; intro gb137 hg w7 hbox hb; have BK137 := Aside0.mk (hbox); have GW137 := bG HB hg; have GE137 := bG HB hg; replace HB := bS HB hb; have NB136_137 := bL BK136 hg; have NB137_136 := bR BK136 hg; replace BK136 := bB BK136 hb; clear hb hbox hg; have hnb8 := NB136_137.out; have hnc8 := NB137_136.out; obtain ⟨hcz9_0, hcz9_1, hcz9_2, hfz9_0, hfz9_1, hfz9_2⟩ := bK3 (w := w7) BK136; obtain ⟨hcz10_0, hcz10_1, hcz10_2, hfz10_0, hfz10_1, hfz10_2⟩ := bK3 (w := w7) BK137) | (go_at_call 86; (with_reducible refine (spec_FpAdd.calls a0_1 a1_1 t142 _ A4.out).mono ?_); rintro e w' ⟨rfl, ⟨nd, rfl⟩⟩; (try exact tD))); try go_wp2_with (first | ((with_reducible refine gate_dst (N := 2) rfl ?_); refine bE 2 #[.int .i64 a0_0, .int .i64 a0_1, .bool a0_2] 23 ?_; intro gb136 hg w6 hbox hb; have BK136 := Aside0.mk (hbox); have GW136 := bG HB hg; have GE136 := bG HB hg; replace HB := bS HB hb; clear hb hbox hg) | ((with_reducible refine gate_dst (N := 3) rfl ?_); refine bE 3 #[.int .i64 a1_0, .int .i64 a1_1, .bool a1_2] 23 ?_; intro gb137 hg w7 hbox hb; have BK137 := Aside0.mk (hbox); have GW137 := bG HB hg; have GE137 := bG HB hg; replace HB := bS HB hb; have NB136_137 := bL BK136 hg; have NB137_136 := bR BK136 hg; replace BK136 := bB BK136 hb; clear hb hbox hg; have hnb8 := NB136_137.out; have hnc8 := NB137_136.out; obtain ⟨hcz9_0, hcz9_1, hcz9_2, hfz9_0, hfz9_1, hfz9_2⟩ := bK3 (w := w7) BK136; obtain ⟨hcz10_0, hcz10_1, hcz10_2, hfz10_0, hfz10_1, hfz10_2⟩ := bK3 (w := w7) BK137) | (go_at_call 86; (with_reducible refine (spec_FpAdd.calls a0_1 a1_1 t142 _ A4.out).mono ?_); rintro e w' ⟨rfl, ⟨nd, rfl⟩⟩; (try exact tD))))
   go_ret2
   exact ⟨rR, bZ HB⟩
  ·rw [if_neg c5] at H
   have c5b0 : (t142 == 0) = false := beq_eq_false_iff_ne.mpr c5
   have c5b1 : (t142 != 0) = true := bne_iff_ne.mpr c5
   replace H := Option.bind_eq_some_iff.mp H
   obtain ⟨t143, A110, H⟩ := H
   have A11 := Aside0.mk A110
   clear A110
   replace H := Option.bind_eq_some_iff.mp H
   obtain ⟨t144, A120, H⟩ := H
   have A12 := Aside0.mk A120
   clear A120
   replace H := Option.bind_eq_some_iff.mp H
   obtain ⟨t145, A130, H⟩ := H
   have A13 := Aside0.mk A130
   clear A130
   replace H := Option.bind_eq_some_iff.mp H
   obtain ⟨t146, A140, H⟩ := H
   have A14 := Aside0.mk A140
   clear A140
   replace H := Option.bind_eq_some_iff.mp H
   obtain ⟨t147, A150, H⟩ := H
   have A15 := Aside0.mk A150
   clear A150
   replace H := Option.bind_eq_some_iff.mp H
   obtain ⟨t148, A160, H⟩ := H
   have A16 := Aside0.mk A160
   clear A160
   simp only [Option.some.injEq, Prod.mk.injEq] at H
   obtain ⟨rfl, rfl⟩ := H
   go_enter Tryd.func120, Tryd.ntmps120
   go_wp2_with (first | ((with_reducible refine gate_dst (N := 2) rfl ?_); refine bE 2 #[.int .i64 a0_0, .int .i64 a0_1, .bool a0_2] 23 ?_; intro gb136 hg w17 hbox hb; have BK136 := Aside0.mk (hbox); have GW136 := bG HB hg; have GE136 := bG HB hg; replace HB := bS HB hb; clear hb hbox hg) | ((with_reducible refine gate_dst (N := 3) rfl ?_); refine bE 3 #[.int .i64 a1_0, .int .i64 a1_1, .bool a1_2] 23 ?_; intro gb137 hg w18 hbox hb; have BK137 := Aside0.mk (hbox); have GW137 := bG HB hg; have GE137 := bG HB hg; replace HB := bS HB hb; have NB136_137 := bL BK136 hg; have NB137_136 := bR BK136 hg; replace BK136 := bB BK136 hb; clear hb hbox hg; have hnb19 := NB136_137.out; have hnc19 := NB137_136.out; obtain ⟨hcz20_0, hcz20_1, hcz20_2, hfz20_0, hfz20_1, hfz20_2⟩ := bK3 (w := w18) BK136; obtain ⟨hcz21_0, hcz21_1, hcz21_2, hfz21_0, hfz21_1, hfz21_2⟩ := bK3 (w := w18) BK137) | (go_at_call 86; (with_reducible refine (spec_FpAdd.calls a0_1 a1_1 t142 _ A4.out).mono ?_); rintro e w' ⟨rfl, ⟨nd, rfl⟩⟩; (try exact tD)) | (go_at_call 84; (with_reducible refine (spec_FpMul.calls a0_0 a0_0 t143 _ A11.out).mono ?_); rintro e w' ⟨rfl, ⟨nd, rfl⟩⟩; (try exact tD)) | (go_at_call 84; (with_reducible refine (spec_FpMul.calls 3 t143 t144 _ A12.out).mono ?_); rintro e w' ⟨rfl, ⟨nd, rfl⟩⟩; (try exact tD)) | (go_at_call 86; (with_reducible refine (spec_FpAdd.calls t144 1 t145 _ A13.out).mono ?_); rintro e w' ⟨rfl, ⟨nd, rfl⟩⟩; (try exact tD)) | (go_at_call 84; (with_reducible refine (spec_FpMul.calls 2 a0_1 t146 _ A14.out).mono ?_); rintro e w' ⟨rfl, ⟨nd, rfl⟩⟩; (try exact tD)) | (go_at_call 131; (with_reducible refine (spec_FpInv.calls k t146 t147 _ A15.out).mono ?_); rintro e w' ⟨rfl, ⟨nd, rfl⟩⟩; (try exact tD)) | (go_at_call 84; (with_reducible refine (spec_FpMul.calls t145 t147 t148 _ A16.out).mono ?_); rintro e w' ⟨rfl, ⟨nd, rfl⟩⟩; (try exact tD)))
   repeat (go_quiet (first | ((with_reducible refine gate_dst (N := 2) rfl ?_); refine bE 2 #[.int .i64 a0_0, .int .i64 a0_1, .bool a0_2] 23 ?_; intro gb136 hg w17 hbox hb; have BK136 := Aside0.mk (hbox); have GW136 := bG HB hg; have GE136 := bG HB hg; replace HB := bS HB hb; clear hb hbox hg) | ((with_reducible refine gate_dst (N := 3) rfl ?_); refine bE 3 #[.int .i64 a1_0, .int .i64 a1_1, .bool a1_2] 23 ?_; intro gb137 hg w18 hbox hb; have BK137 := Aside0.mk (hbox); have GW137 := bG HB hg; have GE137 := bG HB hg; replace HB := bS HB hb; have NB136_137 := bL BK136 hg; have NB137_136 := bR BK136 hg; replace BK136 := bB BK136 hb; clear hb hbox hg; have hnb19 := NB136_137.out; have hnc19 := NB137_136.out; obtain ⟨hcz20_0, hcz20_1, hcz20_2, hfz20_0, hfz20_1, hfz20_2⟩ := bK3 (w := w18) BK136; obtain ⟨hcz21_0, hcz21_1, hcz21_2, hfz21_0, hfz21_1, hfz21_2⟩ := bK3 (w := w18) BK137) | (go_at_call 86; (with_reducible refine (spec_FpAdd.calls a0_1 a1_1 t142 _ A4.out).mono ?_); rintro e w' ⟨rfl, ⟨nd, rfl⟩⟩; (try exact tD)) | (go_at_call 84; (with_reducible refine (spec_FpMul.calls a0_0 a0_0 t143 _ A11.out).mono ?_); rintro e w' ⟨rfl, ⟨nd, rfl⟩⟩; (try exact tD)) | (go_at_call 84; (with_reducible refine (spec_FpMul.calls 3 t143 t144 _ A12.out).mono ?_); rintro e w' ⟨rfl, ⟨nd, rfl⟩⟩; (try exact tD)) | (go_at_call 86; (with_reducible refine (spec_FpAdd.calls t144 1 t145 _ A13.out).mono ?_); rintro e w' ⟨rfl, ⟨nd, rfl⟩⟩; (try exact tD)) | (go_at_call 84; (with_reducible refine (spec_FpMul.calls 2 a0_1 t146 _ A14.out).mono ?_); rintro e w' ⟨rfl, ⟨nd, rfl⟩⟩; (try exact tD)) | (go_at_call 131; (with_reducible refine (spec_FpInv.calls k t146 t147 _ A15.out).mono ?_); rintro e w' ⟨rfl, ⟨nd, rfl⟩⟩; (try exact tD)) | (go_at_call 84; (with_reducible refine (spec_FpMul.calls t145 t147 t148 _ A16.out).mono ?_); rintro e w' ⟨rfl, ⟨nd, rfl⟩⟩; (try exact tD))); try go_wp2_with (first | ((with_reducible refine gate_dst (N := 2) rfl ?_); refine bE 2 #[.int .i64 a0_0, .int .i64 a0_1, .bool a0_2] 23 ?_; intro gb136 hg w17 hbox hb; have BK136 := Aside0.mk (hbox); have GW136 := bG HB hg; have GE136 := bG HB hg; replace HB := bS HB hb; clear hb hbox hg) | ((with_reducible refine gate_dst (N := 3) rfl ?_); refine bE 3 #[.int .i64 a1_0, .int .i64 a1_1, .bool a1_2] 23 ?_; intro gb137 hg w18 hbox hb; have BK137 := Aside0.mk (hbox); have GW137 := bG HB hg; have GE137 := bG HB hg; replace HB := bS HB hb; have NB136_137 := bL BK136 hg; have NB137_136 := bR BK136 hg; replace BK136 := bB BK136 hb; clear hb hbox hg; have hnb19 := NB136_137.out; have hnc19 := NB137_136.out; obtain ⟨hcz20_0, hcz20_1, hcz20_2, hfz20_0, hfz20_1, hfz20_2⟩ := bK3 (w := w18) BK136; obtain ⟨hcz21_0, hcz21_1, hcz21_2, hfz21_0, hfz21_1, hfz21_2⟩ := bK3 (w := w18) BK137) | (go_at_call 86; (with_reducible refine (spec_FpAdd.calls a0_1 a1_1 t142 _ A4.out).mono ?_); rintro e w' ⟨rfl, ⟨nd, rfl⟩⟩; (try exact tD)) | (go_at_call 84; (with_reducible refine (spec_FpMul.calls a0_0 a0_0 t143 _ A11.out).mono ?_); rintro e w' ⟨rfl, ⟨nd, rfl⟩⟩; (try exact tD)) | (go_at_call 84; (with_reducible refine (spec_FpMul.calls 3 t143 t144 _ A12.out).mono ?_); rintro e w' ⟨rfl, ⟨nd, rfl⟩⟩; (try exact tD)) | (go_at_call 86; (with_reducible refine (spec_FpAdd.calls t144 1 t145 _ A13.out).mono ?_); rintro e w' ⟨rfl, ⟨nd, rfl⟩⟩; (try exact tD)) | (go_at_call 84; (with_reducible refine (spec_FpMul.calls 2 a0_1 t146 _ A14.out).mono ?_); rintro e w' ⟨rfl, ⟨nd, rfl⟩⟩; (try exact tD)) | (go_at_call 131; (with_reducible refine (spec_FpInv.calls k t146 t147 _ A15.out).mono ?_); rintro e w' ⟨rfl, ⟨nd, rfl⟩⟩; (try exact tD)) | (go_at_call 84; (with_reducible refine (spec_FpMul.calls t145 t147 t148 _ A16.out).mono ?_); rintro e w' ⟨rfl, ⟨nd, rfl⟩⟩; (try exact tD))))
   go_ret2
   exact ⟨rR, bZ HB⟩
 ·rw [if_neg c3] at H
  have c3b0 : (a0_0 == a1_0) = false := beq_eq_false_iff_ne.mpr c3
  have c3b1 : (a0_0 != a1_0) = true := bne_iff_ne.mpr c3
  replace H := Option.bind_eq_some_iff.mp H
  obtain ⟨t138, A220, H⟩ := H
  have A22 := Aside0.mk A220
  clear A220
  replace H := Option.bind_eq_some_iff.mp H
  obtain ⟨t139, A230, H⟩ := H
  have A23 := Aside0.mk A230
  clear A230
  replace H := Option.bind_eq_some_iff.mp H
  obtain ⟨t140, A240, H⟩ := H
  have A24 := Aside0.mk A240
  clear A240
  replace H := Option.bind_eq_some_iff.mp H
  obtain ⟨t141, A250, H⟩ := H
  have A25 := Aside0.mk A250
  clear A250
  simp only [Option.some.injEq, Prod.mk.injEq] at H
  obtain ⟨rfl, rfl⟩ := H
  go_enter Tryd.func120, Tryd.ntmps120
  go_wp2_with (first | ((with_reducible refine gate_dst (N := 2) rfl ?_); refine bE 2 #[.int .i64 a0_0, .int .i64 a0_1, .bool a0_2] 23 ?_; intro gb136 hg w26 hbox hb; have BK136 := Aside0.mk (hbox); have GW136 := bG HB hg; have GE136 := bG HB hg; replace HB := bS HB hb; clear hb hbox hg) | ((with_reducible refine gate_dst (N := 3) rfl ?_); refine bE 3 #[.int .i64 a1_0, .int .i64 a1_1, .bool a1_2] 23 ?_; intro gb137 hg w27 hbox hb; have BK137 := Aside0.mk (hbox); have GW137 := bG HB hg; have GE137 := bG HB hg; replace HB := bS HB hb; have NB136_137 := bL BK136 hg; have NB137_136 := bR BK136 hg; replace BK136 := bB BK136 hb; clear hb hbox hg; have hnb28 := NB136_137.out; have hnc28 := NB137_136.out; obtain ⟨hcz29_0, hcz29_1, hcz29_2, hfz29_0, hfz29_1, hfz29_2⟩ := bK3 (w := w27) BK136; obtain ⟨hcz30_0, hcz30_1, hcz30_2, hfz30_0, hfz30_1, hfz30_2⟩ := bK3 (w := w27) BK137) | (go_at_call 85; (with_reducible refine (spec_FpSub.calls a1_1 a0_1 t138 _ A22.out).mono ?_); rintro e w' ⟨rfl, ⟨nd, rfl⟩⟩; (try exact tD)) | (go_at_call 85; (with_reducible refine (spec_FpSub.calls a1_0 a0_0 t139 _ A23.out).mono ?_); rintro e w' ⟨rfl, ⟨nd, rfl⟩⟩; (try exact tD)) | (go_at_call 131; (with_reducible refine (spec_FpInv.calls k t139 t140 _ A24.out).mono ?_); rintro e w' ⟨rfl, ⟨nd, rfl⟩⟩; (try exact tD)) | (go_at_call 84; (with_reducible refine (spec_FpMul.calls t138 t140 t141 _ A25.out).mono ?_); rintro e w' ⟨rfl, ⟨nd, rfl⟩⟩; (try exact tD)))
  repeat (go_quiet (first | ((with_reducible refine gate_dst (N := 2) rfl ?_); refine bE 2 #[.int .i64 a0_0, .int .i64 a0_1, .bool a0_2] 23 ?_; intro gb136 hg w26 hbox hb; have BK136 := Aside0.mk (hbox); have GW136 := bG HB hg; have GE136 := bG HB hg; replace HB := bS HB hb; clear hb hbox hg) | ((with_reducible refine gate_dst (N := 3) rfl ?_); refine bE 3 #[.int .i64 a1_0, .int .i64 a1_1, .bool a1_2] 23 ?_; intro gb137 hg w27 hbox hb; have BK137 := Aside0.mk (hbox); have GW137 := bG HB hg; have GE137 := bG HB hg; replace HB := bS HB hb; have NB136_137 := bL BK136 hg; have NB137_136 := bR BK136 hg; replace BK136 := bB BK136 hb; clear hb hbox hg; have hnb28 := NB136_137.out; have hnc28 := NB137_136.out; obtain ⟨hcz29_0, hcz29_1, hcz29_2, hfz29_0, hfz29_1, hfz29_2⟩ := bK3 (w := w27) BK136; obtain ⟨hcz30_0, hcz30_1, hcz30_2, hfz30_0, hfz30_1, hfz30_2⟩ := bK3 (w := w27) BK137) | (go_at_call 85; (with_reducible refine (spec_FpSub.calls a1_1 a0_1 t138 _ A22.out).mono ?_); rintro e w' ⟨rfl, ⟨nd, rfl⟩⟩; (try exact tD)) | (go_at_call 85; (with_reducible refine (spec_FpSub.calls a1_0 a0_0 t139 _ A23.out).mono ?_); rintro e w' ⟨rfl, ⟨nd, rfl⟩⟩; (try exact tD)) | (go_at_call 131; (with_reducible refine (spec_FpInv.calls k t139 t140 _ A24.out).mono ?_); rintro e w' ⟨rfl, ⟨nd, rfl⟩⟩; (try exact tD)) | (go_at_call 84; (with_reducible refine (spec_FpMul.calls t138 t140 t141 _ A25.out).mono ?_); rintro e w' ⟨rfl, ⟨nd, rfl⟩⟩; (try exact tD))); try go_wp2_with (first | ((with_reducible refine gate_dst (N := 2) rfl ?_); refine bE 2 #[.int .i64 a0_0, .int .i64 a0_1, .bool a0_2] 23 ?_; intro gb136 hg w26 hbox hb; have BK136 := Aside0.mk (hbox); have GW136 := bG HB hg; have GE136 := bG HB hg; replace HB := bS HB hb; clear hb hbox hg) | ((with_reducible refine gate_dst (N := 3) rfl ?_); refine bE 3 #[.int .i64 a1_0, .int .i64 a1_1, .bool a1_2] 23 ?_; intro gb137 hg w27 hbox hb; have BK137 := Aside0.mk (hbox); have GW137 := bG HB hg; have GE137 := bG HB hg; replace HB := bS HB hb; have NB136_137 := bL BK136 hg; have NB137_136 := bR BK136 hg; replace BK136 := bB BK136 hb; clear hb hbox hg; have hnb28 := NB136_137.out; have hnc28 := NB137_136.out; obtain ⟨hcz29_0, hcz29_1, hcz29_2, hfz29_0, hfz29_1, hfz29_2⟩ := bK3 (w := w27) BK136; obtain ⟨hcz30_0, hcz30_1, hcz30_2, hfz30_0, hfz30_1, hfz30_2⟩ := bK3 (w := w27) BK137) | (go_at_call 85; (with_reducible refine (spec_FpSub.calls a1_1 a0_1 t138 _ A22.out).mono ?_); rintro e w' ⟨rfl, ⟨nd, rfl⟩⟩; (try exact tD)) | (go_at_call 85; (with_reducible refine (spec_FpSub.calls a1_0 a0_0 t139 _ A23.out).mono ?_); rintro e w' ⟨rfl, ⟨nd, rfl⟩⟩; (try exact tD)) | (go_at_call 131; (with_reducible refine (spec_FpInv.calls k t139 t140 _ A24.out).mono ?_); rintro e w' ⟨rfl, ⟨nd, rfl⟩⟩; (try exact tD)) | (go_at_call 84; (with_reducible refine (spec_FpMul.calls t138 t140 t141 _ A25.out).mono ?_); rintro e w' ⟨rfl, ⟨nd, rfl⟩⟩; (try exact tD))))
  go_ret2
  exact ⟨rR, bZ HB⟩
/-! ### spec_l07Add: function 89 -/
def spec_l07Add.f (k : Nat) (a0_0 : Int) (a0_1 : Int) (a0_2 : Bool) (a1_0 : Int) (a1_1 : Int) (a1_2 : Bool) : Option (Int × Int × Bool) := if a0_2 = true then (some (a1_0, a1_1, a1_2)) else (if a1_2 = true then (some (a0_0, a0_1, a0_2)) else ((spec_l07Slope.f k a0_0 a0_1 a0_2 a1_0 a1_1 a1_2).bind fun bt152 => (if bt152.2 = true then ((spec_FpMul.f bt152.1 bt152.1).bind fun t157 => ((spec_FpSub.f t157 a0_0).bind fun t158 => ((spec_FpSub.f t158 a1_0).bind fun t159 => ((spec_FpSub.f a0_0 t159).bind fun t160 => ((spec_FpMul.f bt152.1 t160).bind fun t161 => ((spec_FpSub.f t161 a0_1).bind fun t162 => (some (t159, t162, false)))))))) else ((spec_l07Zero.f).bind fun bt154 => (some (bt154.1, bt154.2.1, bt154.2.2))))))
theorem spec_l07Add.mono : ∀ a0 a1 a2 a3 a4 a5 k, LeO (spec_l07Add.f k a0 a1 a2 a3 a4 a5) (spec_l07Add.f (k + 1) a0 a1 a2 a3 a4 a5) := by
 intro a0 a1 a2 a3 a4 a5 k
 unfold spec_l07Add.f
 repeat' first
   | (with_reducible exact spec_l07Slope.mono _ _ _ _ _ _ _)
   | (with_reducible exact LeO.refl _)
   | (with_reducible exact LeO.none _)
   | (with_reducible refine LeO.ite ?_ ?_)
   | (with_reducible refine LeO.bind ?_ (fun _ => ?_))
   | exact spec_l07Slope.mono _ _ _ _ _ _ _
   | exact LeO.none _
   | refine LeO.ite ?_ ?_
   | refine LeO.bind ?_ (fun _ => ?_)
def spec_l07Add.T8 : Bool × List (List Nat × List Nat) := (true, [([], []), ([], []), ([0, 1], [0, 1]), ([], []), ([3], [3]), ([2, 4, 2], [2, 4]), ([], []), ([6], [6]), ([5, 7, 5], [5, 7]), ([8, 8, 0, 1, 2, 3, 4, 5, 6, 7, 8], [8])])
def spec_l07Add.B8 : List Nat := [0, 0, 3, 0, 8, 31, 0, 64, 255, 511]
theorem spec_l07Add.tab8 : rtab .any (opsOf Tryd.f89 8) = spec_l07Add.T8 := by kernel_rfl
theorem spec_l07Add.bits8 : waitsOk spec_l07Add.T8.2 spec_l07Add.B8 = true := by kernel_rfl
def spec_l07Add.T9 : Bool × List (List Nat × List Nat) := (true, [([], []), ([], []), ([], []), ([2], [2]), ([], []), ([3, 4], [3, 4]), ([1, 5, 5], [1, 5]), ([], []), ([7], [7]), ([6, 8, 6], [6, 8]), ([0, 9], [0, 9]), ([10, 9, 0, 1, 2, 3, 4, 5, 6, 7, 8, 9, 10], [10])])
def spec_l07Add.B9 : List Nat := [0, 0, 0, 4, 0, 28, 62, 0, 128, 510, 1023, 2047]
theorem spec_l07Add.tab9 : rtab .any (opsOf Tryd.f89 9) = spec_l07Add.T9 := by kernel_rfl
theorem spec_l07Add.bits9 : waitsOk spec_l07Add.T9.2 spec_l07Add.B9 = true := by kernel_rfl
set_option maxHeartbeats 8000000 in
set_option maxRecDepth 100000 in
theorem spec_l07Add.calls (k : Nat) (a0_0 : Int) (a0_1 : Int) (a0_2 : Bool) (a1_0 : Int) (a1_1 : Int) (a1_2 : Bool) (r1 : Int) (r2 : Int) (r3 : Bool) (w : World) (h : spec_l07Add.f k a0_0 a0_1 a0_2 a1_0 a1_1 a1_2 = some (r1, r2, r3)) :
  Calls Tryd.prog 89 #[.agg #[.int .i64 a0_0, .int .i64 a0_1, .bool a0_2], .agg #[.int .i64 a1_0, .int .i64 a1_1, .bool a1_2]] w fun e w' => e = .returned (.agg #[.int .i64 r1, .int .i64 r2, .bool r3]) ∧ Below w.heap.size w w' := by
 have hu23 := Tryd.underlying23
 have HB := Aside0.mk (Below.refl w.heap.size w)
 have H : (if a0_2 = true then (some (a1_0, a1_1, a1_2)) else (if a1_2 = true then (some (a0_0, a0_1, a0_2)) else ((spec_l07Slope.f k a0_0 a0_1 a0_2 a1_0 a1_1 a1_2).bind fun bt152 => (if bt152.2 = true then ((spec_FpMul.f bt152.1 bt152.1).bind fun t157 => ((spec_FpSub.f t157 a0_0).bind fun t158 => ((spec_FpSub.f t158 a1_0).bind fun t159 => ((spec_FpSub.f a0_0 t159).bind fun t160 => ((spec_FpMul.f bt152.1 t160).bind fun t161 => ((spec_FpSub.f t161 a0_1).bind fun t162 => (some (t159, t162, false)))))))) else ((spec_l07Zero.f).bind fun bt154 => (some (bt154.1, bt154.2.1, bt154.2.2))))))) = some (r1, r2, r3) := h
 clear h
 by_cases c3 : a0_2 = true
 ·subst c3
  rw [if_pos rfl] at H
  simp only [Option.some.injEq, Prod.mk.injEq] at H
  obtain ⟨rfl, rfl, rfl⟩ := H
  go_enter Tryd.func89, Tryd.ntmps89
  go_wp2_with (first | ((with_reducible refine gate_dst (N := 2) rfl ?_); refine bE 2 #[.int .i64 a0_0, .int .i64 a0_1, .bool true] 23 ?_; intro gb149 hg w4 hbox hb; have BK149 := Aside0.mk (hbox); have GW149 := bG HB hg; have GE149 := bG HB hg; replace HB := bS HB hb; clear hb hbox hg) | ((with_reducible refine gate_dst (N := 3) rfl ?_); refine bE 3 #[.int .i64 a1_0, .int .i64 a1_1, .bool a1_2] 23 ?_; intro gb150 hg w5 hbox hb; have BK150 := Aside0.mk (hbox); have GW150 := bG HB hg; have GE150 := bG HB hg; replace HB := bS HB hb; have NB149_150 := bL BK149 hg; have NB150_149 := bR BK149 hg; replace BK149 := bB BK149 hb; clear hb hbox hg) | ((with_reducible refine gate_dst (N := 4) rfl ?_); refine bE 4 #[.int .i64 0, .int .i64 0, .bool false] 23 ?_; intro gb151 hg w6 hbox hb; have BK151 := Aside0.mk (hbox); have GW151 := bG HB hg; have GE151 := bG HB hg; replace HB := bS HB hb; have NB149_151 := bL BK149 hg; have NB151_149 := bR BK149 hg; replace BK149 := bB BK149 hb; have NB150_151 := bL BK150 hg; have NB151_150 := bR BK150 hg; replace BK150 := bB BK150 hb; clear hb hbox hg; have hnb7 := NB149_150.out; have hnc7 := NB150_149.out; have hnb8 := NB149_151.out; have hnc8 := NB151_149.out; obtain ⟨hcz9_0, hcz9_1, hcz9_2, hfz9_0, hfz9_1, hfz9_2⟩ := bK3 (w := w6) BK149; have hnb10 := NB150_151.out; have hnc10 := NB151_150.out; obtain ⟨hcz11_0, hcz11_1, hcz11_2, hfz11_0, hfz11_1, hfz11_2⟩ := bK3 (w := w6) BK150; obtain ⟨hcz12_0, hcz12_1, hcz12_2, hfz12_0, hfz12_1, hfz12_2⟩ := bK3 (w := w6) BK151))
  refine rC gb151 23 #[.int .i64 a1_0, .int .i64 a1_1, .bool a1_2] (bU BK151) Tryd.underlying23 ?_
  exact ⟨rR, bZ HB⟩
 ·replace c3 := Bool.eq_false_iff.mpr c3
  subst c3
  rw [if_neg (show ¬ (false = true) by decide)] at H
  by_cases c13 : a1_2 = true
  ·subst c13
   rw [if_pos rfl] at H
   simp only [Option.some.injEq, Prod.mk.injEq] at H
   obtain ⟨rfl, rfl, rfl⟩ := H
   go_enter Tryd.func89, Tryd.ntmps89
   go_wp2_with (first | ((with_reducible refine gate_dst (N := 2) rfl ?_); refine bE 2 #[.int .i64 a0_0, .int .i64 a0_1, .bool false] 23 ?_; intro gb149 hg w14 hbox hb; have BK149 := Aside0.mk (hbox); have GW149 := bG HB hg; have GE149 := bG HB hg; replace HB := bS HB hb; clear hb hbox hg) | ((with_reducible refine gate_dst (N := 3) rfl ?_); refine bE 3 #[.int .i64 a1_0, .int .i64 a1_1, .bool true] 23 ?_; intro gb150 hg w15 hbox hb; have BK150 := Aside0.mk (hbox); have GW150 := bG HB hg; have GE150 := bG HB hg; replace HB := bS HB hb; have NB149_150 := bL BK149 hg; have NB150_149 := bR BK149 hg; replace BK149 := bB BK149 hb; clear hb hbox hg) | ((with_reducible refine gate_dst (N := 4) rfl ?_); refine bE 4 #[.int .i64 0, .int .i64 0, .bool false] 23 ?_; intro gb151 hg w16 hbox hb; have BK151 := Aside0.mk (hbox); have GW151 := bG HB hg; have GE151 := bG HB hg; replace HB := bS HB hb; have NB149_151 := bL BK149 hg; have NB151_149 := bR BK149 hg; replace BK149 := bB BK149 hb; have NB150_151 := bL BK150 hg; have NB151_150 := bR BK150 hg; replace BK150 := bB BK150 hb; clear hb hbox hg; have hnb17 := NB149_150.out; have hnc17 := NB150_149.out; have hnb18 := NB149_151.out; have hnc18 := NB151_149.out; obtain ⟨hcz19_0, hcz19_1, hcz19_2, hfz19_0, hfz19_1, hfz19_2⟩ := bK3 (w := w16) BK149; have hnb20 := NB150_151.out; have hnc20 := NB151_150.out; obtain ⟨hcz21_0, hcz21_1, hcz21_2, hfz21_0, hfz21_1, hfz21_2⟩ := bK3 (w := w16) BK150; obtain ⟨hcz22_0, hcz22_1, hcz22_2, hfz22_0, hfz22_1, hfz22_2⟩ := bK3 (w := w16) BK151))
   refine rC gb151 23 #[.int .i64 a0_0, .int .i64 a0_1, .bool false] (bU BK151) Tryd.underlying23 ?_
   exact ⟨rR, bZ HB⟩
  ·replace c13 := Bool.eq_false_iff.mpr c13
   subst c13
   rw [if_neg (show ¬ (false = true) by decide)] at H
   replace H := Option.bind_eq_some_iff.mp H
   obtain ⟨⟨t152, t153⟩, A230, H⟩ := H
   have A23 := Aside0.mk A230
   clear A230
   by_cases c24 : t153 = true
   ·subst c24
    rw [if_pos rfl] at H
    replace H := Option.bind_eq_some_iff.mp H
    obtain ⟨t157, A250, H⟩ := H
    have A25 := Aside0.mk A250
    clear A250
    replace H := Option.bind_eq_some_iff.mp H
    obtain ⟨t158, A260, H⟩ := H
    have A26 := Aside0.mk A260
    clear A260
    replace H := Option.bind_eq_some_iff.mp H
    obtain ⟨t159, A270, H⟩ := H
    have A27 := Aside0.mk A270
    clear A270
    replace H := Option.bind_eq_some_iff.mp H
    obtain ⟨t160, A280, H⟩ := H
    have A28 := Aside0.mk A280
    clear A280
    replace H := Option.bind_eq_some_iff.mp H
    obtain ⟨t161, A290, H⟩ := H
    have A29 := Aside0.mk A290
    clear A290
    replace H := Option.bind_eq_some_iff.mp H
    obtain ⟨t162, A300, H⟩ := H
    have A30 := Aside0.mk A300
    clear A300
    simp only [Option.some.injEq, Prod.mk.injEq] at H
    obtain ⟨rfl, rfl, rfl⟩ := H
    go_enter Tryd.func89, Tryd.ntmps89
    try go_wp2_with (first | ((with_reducible refine gate_dst (N := 2) rfl ?_); refine bE 2 #[.int .i64 a0_0, .int .i64 a0_1, .bool false] 23 ?_; intro gb149 hg w31 hbox hb; have BK149 := Aside0.mk (hbox); have GW149 := bG HB hg; have GE149 := bG HB hg; replace HB := bS HB hb; clear hb hbox hg) | ((with_reducible refine gate_dst (N := 3) rfl ?_); refine bE 3 #[.int .i64 a1_0, .int .i64 a1_1, .bool false] 23 ?_; intro gb150 hg w32 hbox hb; have BK150 := Aside0.mk (hbox); have GW150 := bG HB hg; have GE150 := bG HB hg; replace HB := bS HB hb; have NB149_150 := bL BK149 hg; have NB150_149 := bR BK149 hg; replace BK149 := bB BK149 hb; clear hb hbox hg) | ((with_reducible refine gate_dst (N := 4) rfl ?_); refine bE 4 #[.int .i64 0, .int .i64 0, .bool false] 23 ?_; intro gb151 hg w33 hbox hb; have BK151 := Aside0.mk (hbox); have GW151 := bG HB hg; have GE151 := bG HB hg; replace HB := bS HB hb; have NB149_151 := bL BK149 hg; have NB151_149 := bR BK149 hg; replace BK149 := bB BK149 hb; have NB150_151 := bL BK150 hg; have NB151_150 := bR BK150 hg; replace BK150 := bB BK150 hb; clear hb hbox hg; have hnb34 := NB149_150.out; have hnc34 := NB150_149.out; have hnb35 := NB149_151.out; have hnc35 := NB151_149.out; obtain ⟨hcz36_0, hcz36_1, hcz36_2, hfz36_0, hfz36_1, hfz36_2⟩ := bK3 (w := w33) BK149; have hnb37 := NB150_151.out; have hnc37 := NB151_150.out; obtain ⟨hcz38_0, hcz38_1, hcz38_2, hfz38_0, hfz38_1, hfz38_2⟩ := bK3 (w := w33) BK150) | ((with_reducible refine gate_callee (f := 120) rfl ?_); refine gL (some 17) Tryd.func120 #[.agg #[.int .i64 a0_0, .int .i64 a0_1, .bool false], .agg #[.int .i64 a1_0, .int .i64 a1_1, .bool false]] ?_; (with_reducible refine (spec_l07Slope.calls k a0_0 a0_1 false a1_0 a1_1 false t152 true _ A23.out).mono ?_); rintro e w39 ⟨rfl, hb⟩; refine ⟨_, rfl, ?_⟩; replace BK149 := bB BK149 hb; replace BK150 := bB BK150 hb; replace BK151 := bB BK151 hb; replace HB := bS HB hb; (try clear hb)))
    replace BK149 := Aside0.mk (blk_drew BK149.out)
    replace BK150 := Aside0.mk (blk_drew BK150.out)
    replace BK151 := Aside0.mk (blk_drew BK151.out)
    replace HB := Aside0.mk (below_drew1 HB.out)
    refine start_ (n := 10) (S := fun w' => w'.cell? ⟨gb149, 0, none⟩ = some (.int .i64 a0_0) ∧ w'.cell? ⟨gb149, 1, none⟩ = some (.int .i64 a0_1) ∧ w'.cell? ⟨gb149, 2, none⟩ = some (.bool false) ∧ w'.cell? ⟨gb150, 0, none⟩ = some (.int .i64 a1_0) ∧ w'.cell? ⟨gb150, 1, none⟩ = some (.int .i64 a1_1) ∧ w'.cell? ⟨gb150, 2, none⟩ = some (.bool false)) (ds := []) #[false, false, false, false, false, false, false, false, false, false] (by kernel_rfl) rfl rfl ⟨bc BK149 0, bc BK149 1, bc BK149 2, bc BK150 0, bc BK150 1, bc BK150 2⟩ (fun hHeld => ?_); refine with_tabW spec_l07Add.tab8 spec_l07Add.bits8 (fun HT_ HW_ => ?_)
    generalize w39.drew = w40 at BK149 BK150 BK151 HB hHeld ⊢
    refine pI 0 (some 23) HT_.out ?_
    refine pI 1 (some 24) HT_.out ?_
    refine pI 3 (some 26) HT_.out ?_
    refine pI 6 (some 29) HT_.out ?_
    refine tI6 4 (some 27) HT_.out HW_.out hHeld ?_
    refine tI6 7 (some 30) HT_.out HW_.out hHeld ?_
    refine oI 2 (some 25) HT_.out (fun K hK => ?_)
    refine gO Tryd.func84 #[.int .i64 t152, .int .i64 t152] ?_
    with_reducible refine (spec_FpMul.calls t152 t152 t157 _ A25.out).mono ?_
    rintro e w' ⟨rfl, ⟨nd, rfl⟩⟩
    refine ⟨_, rfl, ?_⟩
    refine hK.out _ _ ⟨bc BK149 0, bc BK149 1, bc BK149 2, bc BK150 0, bc BK150 1, bc BK150 2⟩ (fun hHeld => ?_)
    clear hK K
    refine nO (some 25) ?_
    refine oI 5 (some 28) HT_.out (fun K hK => ?_)
    refine gO Tryd.func85 #[.int .i64 t157, .int .i64 a0_0] ?_
    with_reducible refine (spec_FpSub.calls t157 a0_0 t158 _ A26.out).mono ?_
    rintro e w' ⟨rfl, ⟨nd, rfl⟩⟩
    refine ⟨_, rfl, ?_⟩
    refine hK.out _ _ ⟨bc BK149 0, bc BK149 1, bc BK149 2, bc BK150 0, bc BK150 1, bc BK150 2⟩ (fun hHeld => ?_)
    clear hK K
    refine nO (some 28) ?_
    refine oI 8 (some 31) HT_.out (fun K hK => ?_)
    refine gO Tryd.func85 #[.int .i64 t158, .int .i64 a1_0] ?_
    with_reducible refine (spec_FpSub.calls t158 a1_0 t159 _ A27.out).mono ?_
    rintro e w' ⟨rfl, ⟨nd, rfl⟩⟩
    refine ⟨_, rfl, ?_⟩
    refine hK.out _ _ ⟨bc BK149 0, bc BK149 1, bc BK149 2, bc BK150 0, bc BK150 1, bc BK150 2⟩ (fun hHeld => ?_)
    clear hK K
    refine nO (some 31) ?_
    refine pI 9 (some 7) HT_.out ?_
    refine done_ (done_of HT_.out (by kernel_rfl)) ?_
    try go_wp2
    (try simp only [World.drewN_drewN]); (try (rw [drewN_self w40]; generalize hq_ : World.drewN w40 _ = w40; replace BK149 : Aside0 (w40.heap[gb149]? = some (.cells #[.int .i64 a0_0, .int .i64 a0_1, .bool false] 23 (0, 0))) := ⟨by rw [← hq_]; exact (bP BK149)⟩; replace BK150 : Aside0 (w40.heap[gb150]? = some (.cells #[.int .i64 a1_0, .int .i64 a1_1, .bool false] 23 (0, 0))) := ⟨by rw [← hq_]; exact (bP BK150)⟩; replace BK151 : Aside0 (w40.heap[gb151]? = some (.cells #[.int .i64 0, .int .i64 0, .bool false] 23 (0, 0))) := ⟨by rw [← hq_]; exact (bP BK151)⟩; replace HB : Aside0 (Below w.heap.size w w40) := ⟨by rw [← hq_]; exact (bZ HB)⟩; clear hq_))
    replace BK149 := Aside0.mk (blk_drew BK149.out)
    replace BK150 := Aside0.mk (blk_drew BK150.out)
    replace BK151 := Aside0.mk (blk_drew BK151.out)
    replace HB := Aside0.mk (below_drew1 HB.out)
    refine start_ (n := 12) (S := fun w' => w'.cell? ⟨gb149, 0, none⟩ = some (.int .i64 a0_0) ∧ w'.cell? ⟨gb149, 1, none⟩ = some (.int .i64 a0_1) ∧ w'.cell? ⟨gb149, 2, none⟩ = some (.bool false)) (ds := []) #[false, false, false, false, false, false, false, false, false, false, false, false] (by kernel_rfl) rfl rfl ⟨bc BK149 0, bc BK149 1, bc BK149 2⟩ (fun hHeld => ?_); refine with_tabW spec_l07Add.tab9 spec_l07Add.bits9 (fun HT_ HW_ => ?_)
    generalize w40.drew = w41 at BK149 BK150 BK151 HB hHeld ⊢
    refine pI 0 (some 32) HT_.out ?_
    refine pI 1 (some 33) HT_.out ?_
    refine pI 2 (some 34) HT_.out ?_
    refine pI 4 (some 36) HT_.out ?_
    refine pI 7 (some 39) HT_.out ?_
    refine tI3 3 (some 35) HT_.out HW_.out hHeld ?_
    refine tI3 8 (some 40) HT_.out HW_.out hHeld ?_
    refine oI 5 (some 37) HT_.out (fun K hK => ?_)
    refine gO Tryd.func85 #[.int .i64 a0_0, .int .i64 t159] ?_
    with_reducible refine (spec_FpSub.calls a0_0 t159 t160 _ A28.out).mono ?_
    rintro e w' ⟨rfl, ⟨nd, rfl⟩⟩
    refine ⟨_, rfl, ?_⟩
    refine hK.out _ _ ⟨bc BK149 0, bc BK149 1, bc BK149 2⟩ (fun hHeld => ?_)
    clear hK K
    refine nO (some 37) ?_
    refine oI 6 (some 38) HT_.out (fun K hK => ?_)
    refine gO Tryd.func84 #[.int .i64 t152, .int .i64 t160] ?_
    with_reducible refine (spec_FpMul.calls t152 t160 t161 _ A29.out).mono ?_
    rintro e w' ⟨rfl, ⟨nd, rfl⟩⟩
    refine ⟨_, rfl, ?_⟩
    refine hK.out _ _ ⟨bc BK149 0, bc BK149 1, bc BK149 2⟩ (fun hHeld => ?_)
    clear hK K
    refine nO (some 38) ?_
    refine oI 9 (some 41) HT_.out (fun K hK => ?_)
    refine gO Tryd.func85 #[.int .i64 t161, .int .i64 a0_1] ?_
    with_reducible refine (spec_FpSub.calls t161 a0_1 t162 _ A30.out).mono ?_
    rintro e w' ⟨rfl, ⟨nd, rfl⟩⟩
    refine ⟨_, rfl, ?_⟩
    refine hK.out _ _ ⟨bc BK149 0, bc BK149 1, bc BK149 2⟩ (fun hHeld => ?_)
    clear hK K
    refine nO (some 41) ?_
    refine pI 10 (some 42) HT_.out ?_
    refine oI 11 (none) HT_.out (fun K hK => ?_)
    have hs42 : w41.cell? ⟨gb151, 0, none⟩ = some (.int .i64 0) := bc BK151 0
    have hfs42 := blk_frozen BK151.out 0
    have hns42_0 := NB149_151.out
    have hns42_1 := NB150_151.out
    have hms42_0 := NB151_149.out
    have hms42_1 := NB151_150.out
    have hs43 : w41.cell? ⟨gb151, 1, none⟩ = some (.int .i64 0) := bc BK151 1
    have hfs43 := blk_frozen BK151.out 1
    have hns43_0 := NB149_151.out
    have hns43_1 := NB150_151.out
    have hms43_0 := NB151_149.out
    have hms43_1 := NB151_150.out
    have hs44 : w41.cell? ⟨gb151, 2, none⟩ = some (.bool false) := bc BK151 2
    have hfs44 := blk_frozen BK151.out 2
    have hns44_0 := NB149_151.out
    have hns44_1 := NB150_151.out
    have hms44_0 := NB151_149.out
    have hms44_1 := NB151_150.out
    refine skip_ (w1 := ?_) (by rfl) rfl ?_ ?_
    rotate_left
    ·go_simp
     rfl
    refine hK.out _ _ ⟨((cell_far (p := ⟨gb151, _, none⟩) NB149_151.out _).trans (((cell_far (p := ⟨gb151, _, none⟩) NB149_151.out _).trans (((cell_far (p := ⟨gb151, _, none⟩) NB149_151.out _).trans (hHeld.1)))))), ((cell_far (p := ⟨gb151, _, none⟩) NB149_151.out _).trans (((cell_far (p := ⟨gb151, _, none⟩) NB149_151.out _).trans (((cell_far (p := ⟨gb151, _, none⟩) NB149_151.out _).trans (hHeld.2.1)))))), ((cell_far (p := ⟨gb151, _, none⟩) NB149_151.out _).trans (((cell_far (p := ⟨gb151, _, none⟩) NB149_151.out _).trans (((cell_far (p := ⟨gb151, _, none⟩) NB149_151.out _).trans (hHeld.2.2))))))⟩ (fun hHeld => ?_)
    clear hK K
    refine done_ (done_of HT_.out (by kernel_rfl)) ?_
    try go_wp2
    refine rC gb151 23 #[.int .i64 t159, .int .i64 t162, .bool false] (bU BK151) Tryd.underlying23 ?_
    exact ⟨rR, bZ HB⟩
   ·replace c24 := Bool.eq_false_iff.mpr c24
    subst c24
    rw [if_neg (show ¬ (false = true) by decide)] at H
    replace H := Option.bind_eq_some_iff.mp H
    obtain ⟨⟨t154, t155, t156⟩, A450, H⟩ := H
    have A45 := Aside0.mk A450
    clear A450
    simp only [Option.some.injEq, Prod.mk.injEq] at H
    obtain ⟨rfl, rfl, rfl⟩ := H
    go_enter Tryd.func89, Tryd.ntmps89
    go_wp2_with (first | ((with_reducible refine gate_dst (N := 2) rfl ?_); refine bE 2 #[.int .i64 a0_0, .int .i64 a0_1, .bool false] 23 ?_; intro gb149 hg w46 hbox hb; have BK149 := Aside0.mk (hbox); have GW149 := bG HB hg; have GE149 := bG HB hg; replace HB := bS HB hb; clear hb hbox hg) | ((with_reducible refine gate_dst (N := 3) rfl ?_); refine bE 3 #[.int .i64 a1_0, .int .i64 a1_1, .bool false] 23 ?_; intro gb150 hg w47 hbox hb; have BK150 := Aside0.mk (hbox); have GW150 := bG HB hg; have GE150 := bG HB hg; replace HB := bS HB hb; have NB149_150 := bL BK149 hg; have NB150_149 := bR BK149 hg; replace BK149 := bB BK149 hb; clear hb hbox hg) | ((with_reducible refine gate_dst (N := 4) rfl ?_); refine bE 4 #[.int .i64 0, .int .i64 0, .bool false] 23 ?_; intro gb151 hg w48 hbox hb; have BK151 := Aside0.mk (hbox); have GW151 := bG HB hg; have GE151 := bG HB hg; replace HB := bS HB hb; have NB149_151 := bL BK149 hg; have NB151_149 := bR BK149 hg; replace BK149 := bB BK149 hb; have NB150_151 := bL BK150 hg; have NB151_150 := bR BK150 hg; replace BK150 := bB BK150 hb; clear hb hbox hg; have hnb49 := NB149_150.out; have hnc49 := NB150_149.out; have hnb50 := NB149_151.out; have hnc50 := NB151_149.out; obtain ⟨hcz51_0, hcz51_1, hcz51_2, hfz51_0, hfz51_1, hfz51_2⟩ := bK3 (w := w48) BK149; have hnb52 := NB150_151.out; have hnc52 := NB151_150.out; obtain ⟨hcz53_0, hcz53_1, hcz53_2, hfz53_0, hfz53_1, hfz53_2⟩ := bK3 (w := w48) BK150) | ((with_reducible refine gate_callee (f := 120) rfl ?_); refine gL (some 17) Tryd.func120 #[.agg #[.int .i64 a0_0, .int .i64 a0_1, .bool false], .agg #[.int .i64 a1_0, .int .i64 a1_1, .bool false]] ?_; (with_reducible refine (spec_l07Slope.calls k a0_0 a0_1 false a1_0 a1_1 false t152 false _ A23.out).mono ?_); rintro e w54 ⟨rfl, hb⟩; refine ⟨_, rfl, ?_⟩; replace BK149 := bB BK149 hb; replace BK150 := bB BK150 hb; replace BK151 := bB BK151 hb; replace HB := bS HB hb; (try clear hb)) | ((with_reducible refine gate_callee (f := 56) rfl ?_); refine gL (some 22) Tryd.func56 #[] ?_; (with_reducible refine (spec_l07Zero.calls  t154 t155 t156 _ A45.out).mono ?_); rintro e w55 ⟨rfl, hb⟩; refine ⟨_, rfl, ?_⟩; replace BK149 := bB BK149 hb; replace BK150 := bB BK150 hb; replace BK151 := bB BK151 hb; replace HB := bS HB hb; (try clear hb); obtain ⟨hcz56_0, hcz56_1, hcz56_2, hfz56_0, hfz56_1, hfz56_2⟩ := bK3 (w := w55) BK151))
    refine rC gb151 23 #[.int .i64 t154, .int .i64 t155, .bool t156] (bU BK151) Tryd.underlying23 ?_
    exact ⟨rR, bZ HB⟩
end Go.Proofs.YtkdmplfldfagnaaDoor.Pf
end
section
namespace Go.Proofs.YtkdmplfldfagnaaDoor.Pf
open Go.RowKit Go.Proofs.YtkdmplfldfagnaaDoorW.PrintWords Go.Proofs.YtkdmplfldfagnaaDoorW.PrintLast Go.Proofs.YtkdmplfldfagnaaDoorW.PrintMore
attribute [local go_sem] max2_int min2_int max_two min_two max_three min_three max_four min_four   -- for this text's walks alone
set_option linter.unusedVariables false
set_option linter.unusedSimpArgs false

/-! ### spec_PointTimes: function 45 -/
mutual
def spec_PointTimes.j0 : Nat → Int → Int → Int → Bool → Option (Int × Int × Bool)
 | 0, _, _, _, _ => none
 | k + 1, x5, x170000, x170001, x170002 => (spec_l07Zero.f).bind fun bt173 => (spec_PointTimes.l0 k x5 x170000 x170001 x170002 bt173.1 bt173.2.1 bt173.2.2)
def spec_PointTimes.l0 : Nat → Int → Int → Int → Bool → Int → Int → Bool → Option (Int × Int × Bool)
 | 0, _, _, _, _, _, _, _ => none
 | k + 1, x5, x170000, x170001, x170002, x177000, x177001, x177002 => if x5 > 0 then (if (Int.tmod x5 2) = 1 then ((spec_l07Add.f k x177000 x177001 x177002 x170000 x170001 x170002).bind fun bt177 => ((spec_l07Add.f k x170000 x170001 x170002 x170000 x170001 x170002).bind fun bt180 => (spec_PointTimes.l0 k (wrap64 (Int.tdiv x5 2)) bt180.1 bt180.2.1 bt180.2.2 bt177.1 bt177.2.1 bt177.2.2))) else ((spec_l07Add.f k x170000 x170001 x170002 x170000 x170001 x170002).bind fun bt183 => (spec_PointTimes.l0 k (wrap64 (Int.tdiv x5 2)) bt183.1 bt183.2.1 bt183.2.2 x177000 x177001 x177002))) else (some (x177000, x177001, x177002))
end
def spec_PointTimes.f (k : Nat) (a0 : Int) (a1_0 : Int) (a1_1 : Int) (a1_2 : Bool) : Option (Int × Int × Bool) := (spec_PointOk.f a1_0 a1_1 a1_2).bind fun t165 => (if t165 = true then (if (Int.tmod a0 12108) < 0 then ((spec_PointNeg.f a1_0 a1_1 a1_2).bind fun bt170 => (spec_PointTimes.j0 k (wrap64 (-(Int.tmod a0 12108))) bt170.1 bt170.2.1 bt170.2.2)) else (spec_PointTimes.j0 k (Int.tmod a0 12108) a1_0 a1_1 a1_2)) else ((spec_l07Zero.f).bind fun bt166 => (some (bt166.1, bt166.2.1, bt166.2.2))))
theorem spec_PointTimes.mono_l : ∀ k, (∀ y0 y1 y2 y3, LeO (spec_PointTimes.j0 k y0 y1 y2 y3) (spec_PointTimes.j0 (k + 1) y0 y1 y2 y3)) ∧ (∀ y0 y1 y2 y3 y4 y5 y6, LeO (spec_PointTimes.l0 k y0 y1 y2 y3 y4 y5 y6) (spec_PointTimes.l0 (k + 1) y0 y1 y2 y3 y4 y5 y6))
 | 0 => ⟨fun _ _ _ _ r h => by simp [spec_PointTimes.j0] at h, fun _ _ _ _ _ _ _ r h => by simp [spec_PointTimes.l0] at h⟩
 | k + 1 => by
  obtain ⟨ih0, ih1⟩ := spec_PointTimes.mono_l k
  refine ⟨?_, ?_⟩
  ·intro y0 y1 y2 y3
   unfold spec_PointTimes.j0
   repeat' first
   | (with_reducible exact ih0 _ _ _ _)
   | (with_reducible exact ih1 _ _ _ _ _ _ _)
   | (with_reducible exact spec_l07Add.mono _ _ _ _ _ _ _)
   | (with_reducible exact LeO.refl _)
   | (with_reducible exact LeO.none _)
   | (with_reducible refine LeO.ite ?_ ?_)
   | (with_reducible refine LeO.bind ?_ (fun _ => ?_))
   | exact ih0 _ _ _ _
   | exact ih1 _ _ _ _ _ _ _
   | exact spec_l07Add.mono _ _ _ _ _ _ _
   | exact LeO.none _
   | refine LeO.ite ?_ ?_
   | refine LeO.bind ?_ (fun _ => ?_)
  ·intro y0 y1 y2 y3 y4 y5 y6
   unfold spec_PointTimes.l0
   repeat' first
   | (with_reducible exact ih0 _ _ _ _)
   | (with_reducible exact ih1 _ _ _ _ _ _ _)
   | (with_reducible exact spec_l07Add.mono _ _ _ _ _ _ _)
   | (with_reducible exact LeO.refl _)
   | (with_reducible exact LeO.none _)
   | (with_reducible refine LeO.ite ?_ ?_)
   | (with_reducible refine LeO.bind ?_ (fun _ => ?_))
   | exact ih0 _ _ _ _
   | exact ih1 _ _ _ _ _ _ _
   | exact spec_l07Add.mono _ _ _ _ _ _ _
   | exact LeO.none _
   | refine LeO.ite ?_ ?_
   | refine LeO.bind ?_ (fun _ => ?_)
theorem spec_PointTimes.mono : ∀ a0 a1 a2 a3 k, LeO (spec_PointTimes.f k a0 a1 a2 a3) (spec_PointTimes.f (k + 1) a0 a1 a2 a3) := by
 intro a0 a1 a2 a3 k
 obtain ⟨ih0, ih1⟩ := spec_PointTimes.mono_l k
 unfold spec_PointTimes.f
 repeat' first
   | (with_reducible exact ih0 _ _ _ _)
   | (with_reducible exact ih1 _ _ _ _ _ _ _)
   | (with_reducible exact spec_l07Add.mono _ _ _ _ _ _ _)
   | (with_reducible exact LeO.refl _)
   | (with_reducible exact LeO.none _)
   | (with_reducible refine LeO.ite ?_ ?_)
   | (with_reducible refine LeO.bind ?_ (fun _ => ?_))
   | exact ih0 _ _ _ _
   | exact ih1 _ _ _ _ _ _ _
   | exact spec_l07Add.mono _ _ _ _ _ _ _
   | exact LeO.none _
   | refine LeO.ite ?_ ?_
   | refine LeO.bind ?_ (fun _ => ?_)
set_option maxHeartbeats 8000000 in
set_option maxRecDepth 100000 in
theorem spec_PointTimes.calls (k : Nat) (a0 : Int) (a1_0 : Int) (a1_1 : Int) (a1_2 : Bool) (r1 : Int) (r2 : Int) (r3 : Bool) (w : World) (h : spec_PointTimes.f k a0 a1_0 a1_1 a1_2 = some (r1, r2, r3)) :
  Calls Tryd.prog 45 #[.int .i64 a0, .agg #[.int .i64 a1_0, .int .i64 a1_1, .bool a1_2]] w fun e w' => e = .returned (.agg #[.int .i64 r1, .int .i64 r2, .bool r3]) ∧ Below w.heap.size w w' := by
 have hu23 := Tryd.underlying23
 have HB := Aside0.mk (Below.refl w.heap.size w)
 have H : ((spec_PointOk.f a1_0 a1_1 a1_2).bind fun t165 => (if t165 = true then (if (Int.tmod a0 12108) < 0 then ((spec_PointNeg.f a1_0 a1_1 a1_2).bind fun bt170 => (spec_PointTimes.j0 k (wrap64 (-(Int.tmod a0 12108))) bt170.1 bt170.2.1 bt170.2.2)) else (spec_PointTimes.j0 k (Int.tmod a0 12108) a1_0 a1_1 a1_2)) else ((spec_l07Zero.f).bind fun bt166 => (some (bt166.1, bt166.2.1, bt166.2.2))))) = some (r1, r2, r3) := h
 clear h
 replace H := Option.bind_eq_some_iff.mp H
 obtain ⟨t165, A30, H⟩ := H
 have A3 := Aside0.mk A30
 clear A30
 by_cases c4 : t165 = true
 ·subst c4
  rw [if_pos rfl] at H
  have HC5 := Aside0.mk H
  clear H
  go_enter Tryd.func45, Tryd.ntmps45
  go_upto_if 16 with (first | ((with_reducible refine gate_dst (N := 3) rfl ?_); refine bE 3 #[.int .i64 a1_0, .int .i64 a1_1, .bool a1_2] 23 ?_; intro gb163 hg w6 hbox hb; have BK163 := Aside0.mk (hbox); have GW163 := bG HB hg; have GE163 := bG HB hg; replace HB := bS HB hb; clear hb hbox hg) | ((with_reducible refine gate_dst (N := 4) rfl ?_); refine bE 4 #[.int .i64 0, .int .i64 0, .bool false] 23 ?_; intro gb164 hg w7 hbox hb; have BK164 := Aside0.mk (hbox); have GW164 := bG HB hg; have GE164 := bG HB hg; replace HB := bS HB hb; have NB163_164 := bL BK163 hg; have NB164_163 := bR BK163 hg; replace BK163 := bB BK163 hb; clear hb hbox hg; have hnb8 := NB163_164.out; have hnc8 := NB164_163.out; obtain ⟨hcz9_0, hcz9_1, hcz9_2, hfz9_0, hfz9_1, hfz9_2⟩ := bK3 (w := w7) BK163) | ((with_reducible refine gate_callee (f := 87) rfl ?_); refine gL (some 9) Tryd.func87 #[.agg #[.int .i64 a1_0, .int .i64 a1_1, .bool a1_2]] ?_; (with_reducible refine (spec_PointOk.calls a1_0 a1_1 a1_2 true _ A3.out).mono ?_); rintro e w10 ⟨rfl, hb⟩; refine ⟨_, rfl, ?_⟩; replace BK163 := bB BK163 hb; replace BK164 := bB BK164 hb; replace HB := bS HB hb; (try clear hb); obtain ⟨hcz11_0, hcz11_1, hcz11_2, hfz11_0, hfz11_1, hfz11_2⟩ := bK3 (w := w10) BK163) | ((with_reducible refine gate_dst (N := 6) rfl ?_); refine bE 6 #[.int .i64 0, .int .i64 0, .bool false] 23 ?_; intro gb169 hg w12 hbox hb; have BK169 := Aside0.mk (hbox); have GW169 := bG HB hg; have GE169 := bG HB hg; replace HB := bS HB hb; have NB163_169 := bL BK163 hg; have NB169_163 := bR BK163 hg; replace BK163 := bB BK163 hb; have NB164_169 := bL BK164 hg; have NB169_164 := bR BK164 hg; replace BK164 := bB BK164 hb; clear hb hbox hg; have hnb13 := NB169_163.out; have hnc13 := NB163_169.out; have hnb14 := NB169_164.out; have hnc14 := NB164_169.out; obtain ⟨hcz15_0, hcz15_1, hcz15_2, hfz15_0, hfz15_1, hfz15_2⟩ := bK3 (w := w12) BK169))
  (try simp only [Act.put, List.setIfInBounds_toArray, List.set_cons_zero, List.set_cons_succ])
  go_cut [5] (fun v5 wc => ∃ (kq : Nat) (x5_4 : Int) (x170000_4 : Int) (x170001_4 : Int) (x170002_4 : Bool), v5 = .int .i64 x5_4 ∧ Aside0 (spec_PointTimes.j0 kq x5_4 x170000_4 x170001_4 x170002_4 = some (r1, r2, r3)) ∧ Aside0 (kq ≤ k) ∧ Aside0 (wc.heap[gb163]? = some (.cells #[.int .i64 a1_0, .int .i64 a1_1, .bool a1_2] 23 (0, 0))) ∧ Aside0 (wc.heap[gb164]? = some (.cells #[.int .i64 0, .int .i64 0, .bool false] 23 (0, 0))) ∧ Aside0 (wc.heap[gb169]? = some (.cells #[.int .i64 x170000_4, .int .i64 x170001_4, .bool x170002_4] 23 (0, 0))) ∧ Aside0 (Below w.heap.size w wc))
  case first =>
   have H := HC5.out
   clear HC5
   by_cases c16 : (Int.tmod a0 12108) < 0
   ·rw [if_pos c16] at H
    have c16b0 : decide ((Int.tmod a0 12108) < 0) = true := decide_eq_true c16
    clear c16
    (first | rw [c16b0] | (simp only [i64_w, i32_w]; rw [c16b0]) | rw [c16b1] | skip)
    replace H := Option.bind_eq_some_iff.mp H
    obtain ⟨⟨t170, t171, t172⟩, A170, H⟩ := H
    have A17 := Aside0.mk A170
    clear A170
    have H' := Aside0.mk H
    clear H
    have hnb18 := NB163_164.out
    have hnc18 := NB164_163.out
    have hnb19 := NB163_169.out
    have hnc19 := NB169_163.out
    obtain ⟨hcz20_0, hcz20_1, hcz20_2, hfz20_0, hfz20_1, hfz20_2⟩ := bK3 (w := w12) BK163
    go_wp2_with (first | ((with_reducible refine gate_callee (f := 88) rfl ?_); refine gL (some 20) Tryd.func88 #[.agg #[.int .i64 a1_0, .int .i64 a1_1, .bool a1_2]] ?_; (with_reducible refine (spec_PointNeg.calls a1_0 a1_1 a1_2 t170 t171 t172 _ A17.out).mono ?_); rintro e w21 ⟨rfl, hb⟩; refine ⟨_, rfl, ?_⟩; replace BK163 := bB BK163 hb; replace BK164 := bB BK164 hb; replace BK169 := bV 23 #[.int .i64 a1_0, .int .i64 a1_1, .bool a1_2] BK169 hb; replace HB := bS HB hb; (try clear hb); have hnb22 := NB169_164.out; have hnc22 := NB164_169.out; obtain ⟨hcz23_0, hcz23_1, hcz23_2, hfz23_0, hfz23_1, hfz23_2⟩ := bK3 (w := w21) BK169))
    go_meet
    case rel => exact ⟨_, (wrap64 (-(Int.tmod a0 12108))), (t170), (t171), (t172), rS, H', ⟨by first | omega | exact Nat.le_refl _⟩, ⟨bP BK163⟩, ⟨bP BK164⟩, ⟨bU BK169⟩, ⟨bZ HB⟩⟩
   ·rw [if_neg c16] at H
    have c16b0 : decide ((Int.tmod a0 12108) < 0) = false := decide_eq_false c16
    clear c16
    (first | rw [c16b0] | (simp only [i64_w, i32_w]; rw [c16b0]) | rw [c16b1] | skip)
    have H' := Aside0.mk H
    clear H
    go_wp2
    go_meet
    case rel => exact ⟨_, (Int.tmod a0 12108), (a1_0), (a1_1), (a1_2), rS, H', ⟨by first | omega | exact Nat.le_refl _⟩, ⟨bP BK163⟩, ⟨bP BK164⟩, ⟨bU BK169⟩, ⟨bZ HB⟩⟩
  case rest =>
   clear HC5
   try clear c1
   try clear c2
   try clear p2
   try clear c4
   try clear p6
   try clear c8
   try clear c13
   try clear c14
   try clear c16
   try clear c16b0
   try clear c18
   try clear c19
   try clear c22
   try clear hcz11_0
   try clear hcz11_1
   try clear hcz11_2
   try clear hcz15_0
   try clear hcz15_1
   try clear hcz15_2
   try clear hcz20_0
   try clear hcz20_1
   try clear hcz20_2
   try clear hcz23_0
   try clear hcz23_1
   try clear hcz23_2
   try clear hcz9_0
   try clear hcz9_1
   try clear hcz9_2
   try clear hfz11_0
   try clear hfz11_1
   try clear hfz11_2
   try clear hfz15_0
   try clear hfz15_1
   try clear hfz15_2
   try clear hfz20_0
   try clear hfz20_1
   try clear hfz20_2
   try clear hfz23_0
   try clear hfz23_1
   try clear hfz23_2
   try clear hfz9_0
   try clear hfz9_1
   try clear hfz9_2
   obtain ⟨kq, x5_4, x170000_4, x170001_4, x170002_4, rfl, HA, HJ4, BK163, BK164, BK169, HB⟩ := hcut
   cases kq with
   | zero => exact absurd HA.out (by simp [spec_PointTimes.j0])
   | succ kj4 =>
    have H := HA.out
    clear HA
    simp only [spec_PointTimes.j0] at H
    replace H := Option.bind_eq_some_iff.mp H
    obtain ⟨⟨t173, t174, t175⟩, A240, H⟩ := H
    have A24 := Aside0.mk A240
    clear A240
    have H' := Aside0.mk H
    clear H
    go_wp2_with (first | ((with_reducible refine gate_callee (f := 56) rfl ?_); refine gL (some 21) Tryd.func56 #[] ?_; (with_reducible refine (spec_l07Zero.calls  t173 t174 t175 _ A24.out).mono ?_); rintro e w25 ⟨rfl, hb⟩; refine ⟨_, rfl, ?_⟩; replace BK163 := bB BK163 hb; replace BK164 := bB BK164 hb; replace BK169 := bB BK169 hb; replace HB := bS HB hb; (try clear hb)) | ((with_reducible refine gate_dst (N := 7) rfl ?_); refine bE 7 #[.int .i64 0, .int .i64 0, .bool false] 23 ?_; intro gb176 hg w26 hbox hb; have BK176 := Aside0.mk (hbox); have GW176 := bG HB hg; have GE176 := bG HB hg; replace HB := bS HB hb; have NB163_176 := bL BK163 hg; have NB176_163 := bR BK163 hg; replace BK163 := bB BK163 hb; have NB164_176 := bL BK164 hg; have NB176_164 := bR BK164 hg; replace BK164 := bB BK164 hb; have NB169_176 := bL BK169 hg; have NB176_169 := bR BK169 hg; replace BK169 := bB BK169 hb; clear hb hbox hg; have hnb27 := NB176_163.out; have hnc27 := NB163_176.out; have hnb28 := NB176_164.out; have hnc28 := NB164_176.out; have hnb29 := NB176_169.out; have hnc29 := NB169_176.out; obtain ⟨hcz30_0, hcz30_1, hcz30_2, hfz30_0, hfz30_1, hfz30_2⟩ := bK3 (w := w26) BK176))
    go_loopg [5] kj4 (fun kq v5 w' => ∃ (x5_2 : Int) (x170000_2 : Int) (x170001_2 : Int) (x170002_2 : Bool) (x177000_2 : Int) (x177001_2 : Int) (x177002_2 : Bool), v5 = .int .i64 x5_2 ∧ Aside0 (spec_PointTimes.l0 kq x5_2 x170000_2 x170001_2 x170002_2 x177000_2 x177001_2 x177002_2 = some (r1, r2, r3)) ∧ Aside0 (kq ≤ kj4) ∧ Aside0 (w'.heap[gb163]? = some (.cells #[.int .i64 a1_0, .int .i64 a1_1, .bool a1_2] 23 (0, 0))) ∧ Aside0 (w'.heap[gb164]? = some (.cells #[.int .i64 0, .int .i64 0, .bool false] 23 (0, 0))) ∧ Aside0 (w'.heap[gb169]? = some (.cells #[.int .i64 x170000_2, .int .i64 x170001_2, .bool x170002_2] 23 (0, 0))) ∧ Aside0 (w'.heap[gb176]? = some (.cells #[.int .i64 x177000_2, .int .i64 x177001_2, .bool x177002_2] 23 (0, 0))) ∧ Aside0 (Below w.heap.size w w'))
    case atStart => exact ⟨(x5_4), (x170000_4), (x170001_4), (x170002_4), (t173), (t174), (t175), rS, H', ⟨Nat.le_refl _⟩, ⟨bP BK163⟩, ⟨bP BK164⟩, ⟨bP BK169⟩, ⟨bU BK176⟩, ⟨bZ HB⟩⟩
    case round =>
     clear H'
     try clear c1
     try clear c2
     try clear p2
     try clear c4
     try clear c5
     try clear p6
     try clear c8
     try clear c13
     try clear c14
     try clear c16
     try clear c16b0
     try clear c18
     try clear c19
     try clear c22
     try clear c27
     try clear c28
     try clear c29
     try clear hcz11_0
     try clear hcz11_1
     try clear hcz11_2
     try clear hcz15_0
     try clear hcz15_1
     try clear hcz15_2
     try clear hcz20_0
     try clear hcz20_1
     try clear hcz20_2
     try clear hcz23_0
     try clear hcz23_1
     try clear hcz23_2
     try clear hcz30_0
     try clear hcz30_1
     try clear hcz30_2
     try clear hcz9_0
     try clear hcz9_1
     try clear hcz9_2
     try clear hfz11_0
     try clear hfz11_1
     try clear hfz11_2
     try clear hfz15_0
     try clear hfz15_1
     try clear hfz15_2
     try clear hfz20_0
     try clear hfz20_1
     try clear hfz20_2
     try clear hfz23_0
     try clear hfz23_1
     try clear hfz23_2
     try clear hfz30_0
     try clear hfz30_1
     try clear hfz30_2
     try clear hfz9_0
     try clear hfz9_1
     try clear hfz9_2
     try clear p2
     try clear p6
     obtain ⟨x5_2, x170000_2, x170001_2, x170002_2, x177000_2, x177001_2, x177002_2, rfl, HA, HK2, BK163, BK164, BK169, BK176, HB⟩ := hrel
     cases gk with
     | zero => exact absurd HA.out (by simp [spec_PointTimes.l0])
     | succ k2 =>
      have H := HA.out
      clear HA
      simp only [spec_PointTimes.l0] at H
      by_cases c31 : x5_2 > 0
      ·rw [if_pos c31] at H
       have c31b0 : decide (0 < x5_2) = true := decide_eq_true c31
       clear c31
       by_cases c32 : (Int.tmod x5_2 2) = 1
       ·rw [if_pos c32] at H
        have c32b0 : ((Int.tmod x5_2 2) == 1) = true := beq_iff_eq.mpr c32
        have c32b1 : ((Int.tmod x5_2 2) != 1) = false := bne_eq_false_iff_eq.mpr c32
        clear c32
        replace H := Option.bind_eq_some_iff.mp H
        obtain ⟨⟨t177, t178, t179⟩, A330, H⟩ := H
        have A33 := Aside0.mk A330
        clear A330
        replace H := Option.bind_eq_some_iff.mp H
        obtain ⟨⟨t180, t181, t182⟩, A340, H⟩ := H
        have A34 := Aside0.mk A340
        clear A340
        have H' := Aside0.mk H
        clear H
        have hnb35 := NB176_163.out
        have hnc35 := NB163_176.out
        have hnb36 := NB176_164.out
        have hnc36 := NB164_176.out
        have hnb37 := NB176_169.out
        have hnc37 := NB169_176.out
        obtain ⟨hcz38_0, hcz38_1, hcz38_2, hfz38_0, hfz38_1, hfz38_2⟩ := bK3 (w := wr) BK176
        have hnb39 := NB169_163.out
        have hnc39 := NB163_169.out
        have hnb40 := NB169_164.out
        have hnc40 := NB164_169.out
        obtain ⟨hcz41_0, hcz41_1, hcz41_2, hfz41_0, hfz41_1, hfz41_2⟩ := bK3 (w := wr) BK169
        go_wp2_with (first | ((with_reducible refine gate_callee (f := 89) rfl ?_); refine gL (some 29) Tryd.func89 #[.agg #[.int .i64 x177000_2, .int .i64 x177001_2, .bool x177002_2], .agg #[.int .i64 x170000_2, .int .i64 x170001_2, .bool x170002_2]] ?_; (with_reducible refine (spec_l07Add.calls k2 x177000_2 x177001_2 x177002_2 x170000_2 x170001_2 x170002_2 t177 t178 t179 _ A33.out).mono ?_); rintro e w42 ⟨rfl, hb⟩; refine ⟨_, rfl, ?_⟩; replace BK163 := bB BK163 hb; replace BK164 := bB BK164 hb; replace BK169 := bB BK169 hb; replace BK176 := bB BK176 hb; replace HB := bS HB hb; (try clear hb); obtain ⟨hcz43_0, hcz43_1, hcz43_2, hfz43_0, hfz43_1, hfz43_2⟩ := bK3 (w := w42) BK176; obtain ⟨hcz44_0, hcz44_1, hcz44_2, hfz44_0, hfz44_1, hfz44_2⟩ := bK3 (w := w42) BK169) | ((with_reducible refine gate_callee (f := 89) rfl ?_); refine gL (some 32) Tryd.func89 #[.agg #[.int .i64 x170000_2, .int .i64 x170001_2, .bool x170002_2], .agg #[.int .i64 x170000_2, .int .i64 x170001_2, .bool x170002_2]] ?_; (with_reducible refine (spec_l07Add.calls k2 x170000_2 x170001_2 x170002_2 x170000_2 x170001_2 x170002_2 t180 t181 t182 _ A34.out).mono ?_); rintro e w45 ⟨rfl, hb⟩; refine ⟨_, rfl, ?_⟩; replace BK163 := bB BK163 hb; replace BK164 := bB BK164 hb; replace BK169 := bB BK169 hb; replace BK176 := bV 23 #[.int .i64 t177, .int .i64 t178, .bool t179] BK176 hb; replace HB := bS HB hb; (try clear hb); obtain ⟨hcz46_0, hcz46_1, hcz46_2, hfz46_0, hfz46_1, hfz46_2⟩ := bK3 (w := w45) BK169))
        go_roundg k2
        case measure => have := HJ4.out; have := HK2.out; omega
        case rel => exact ⟨(wrap64 (Int.tdiv x5_2 2)), (t180), (t181), (t182), (t177), (t178), (t179), rS, H', ⟨by have := HJ4.out; have := HK2.out; omega⟩, ⟨bP BK163⟩, ⟨bP BK164⟩, ⟨bU BK169⟩, ⟨bP BK176⟩, ⟨bZ HB⟩⟩
       ·rw [if_neg c32] at H
        have c32b0 : ((Int.tmod x5_2 2) == 1) = false := beq_eq_false_iff_ne.mpr c32
        have c32b1 : ((Int.tmod x5_2 2) != 1) = true := bne_iff_ne.mpr c32
        replace H := Option.bind_eq_some_iff.mp H
        obtain ⟨⟨t183, t184, t185⟩, A470, H⟩ := H
        have A47 := Aside0.mk A470
        clear A470
        have H' := Aside0.mk H
        clear H
        have hnb48 := NB169_163.out
        have hnc48 := NB163_169.out
        have hnb49 := NB169_164.out
        have hnc49 := NB164_169.out
        have hnb50 := NB169_176.out
        have hnc50 := NB176_169.out
        obtain ⟨hcz51_0, hcz51_1, hcz51_2, hfz51_0, hfz51_1, hfz51_2⟩ := bK3 (w := wr) BK169
        go_wp2_with (first | ((with_reducible refine gate_callee (f := 89) rfl ?_); refine gL (some 32) Tryd.func89 #[.agg #[.int .i64 x170000_2, .int .i64 x170001_2, .bool x170002_2], .agg #[.int .i64 x170000_2, .int .i64 x170001_2, .bool x170002_2]] ?_; (with_reducible refine (spec_l07Add.calls k2 x170000_2 x170001_2 x170002_2 x170000_2 x170001_2 x170002_2 t183 t184 t185 _ A47.out).mono ?_); rintro e w52 ⟨rfl, hb⟩; refine ⟨_, rfl, ?_⟩; replace BK163 := bB BK163 hb; replace BK164 := bB BK164 hb; replace BK169 := bB BK169 hb; replace BK176 := bB BK176 hb; replace HB := bS HB hb; (try clear hb); obtain ⟨hcz53_0, hcz53_1, hcz53_2, hfz53_0, hfz53_1, hfz53_2⟩ := bK3 (w := w52) BK169))
        go_roundg k2
        case measure => have := HJ4.out; have := HK2.out; omega
        case rel => exact ⟨(wrap64 (Int.tdiv x5_2 2)), (t183), (t184), (t185), (x177000_2), (x177001_2), (x177002_2), rS, H', ⟨by have := HJ4.out; have := HK2.out; omega⟩, ⟨bP BK163⟩, ⟨bP BK164⟩, ⟨bU BK169⟩, ⟨bP BK176⟩, ⟨bZ HB⟩⟩
      ·rw [if_neg c31] at H
       have c31b0 : decide (0 < x5_2) = false := decide_eq_false c31
       clear c31
       simp only [Option.some.injEq, Prod.mk.injEq] at H
       obtain ⟨rfl, rfl, rfl⟩ := H
       have hnb54 := NB176_163.out
       have hnc54 := NB163_176.out
       have hnb55 := NB176_164.out
       have hnc55 := NB164_176.out
       have hnb56 := NB176_169.out
       have hnc56 := NB169_176.out
       obtain ⟨hcz57_0, hcz57_1, hcz57_2, hfz57_0, hfz57_1, hfz57_2⟩ := bK3 (w := wr) BK176
       have hnb58 := NB164_163.out
       have hnc58 := NB163_164.out
       have hnb59 := NB164_169.out
       have hnc59 := NB169_164.out
       obtain ⟨hcz60_0, hcz60_1, hcz60_2, hfz60_0, hfz60_1, hfz60_2⟩ := bK3 (w := wr) BK164
       go_wp2
       refine rC gb164 23 #[.int .i64 x177000_2, .int .i64 x177001_2, .bool x177002_2] (bU BK164) Tryd.underlying23 ?_
       exact ⟨rR, bZ HB⟩
 ·replace c4 := Bool.eq_false_iff.mpr c4
  subst c4
  rw [if_neg (show ¬ (false = true) by decide)] at H
  replace H := Option.bind_eq_some_iff.mp H
  obtain ⟨⟨t166, t167, t168⟩, A610, H⟩ := H
  have A61 := Aside0.mk A610
  clear A610
  simp only [Option.some.injEq, Prod.mk.injEq] at H
  obtain ⟨rfl, rfl, rfl⟩ := H
  go_enter Tryd.func45, Tryd.ntmps45
  go_wp2_with (first | ((with_reducible refine gate_dst (N := 3) rfl ?_); refine bE 3 #[.int .i64 a1_0, .int .i64 a1_1, .bool a1_2] 23 ?_; intro gb163 hg w62 hbox hb; have BK163 := Aside0.mk (hbox); have GW163 := bG HB hg; have GE163 := bG HB hg; replace HB := bS HB hb; clear hb hbox hg) | ((with_reducible refine gate_dst (N := 4) rfl ?_); refine bE 4 #[.int .i64 0, .int .i64 0, .bool false] 23 ?_; intro gb164 hg w63 hbox hb; have BK164 := Aside0.mk (hbox); have GW164 := bG HB hg; have GE164 := bG HB hg; replace HB := bS HB hb; have NB163_164 := bL BK163 hg; have NB164_163 := bR BK163 hg; replace BK163 := bB BK163 hb; clear hb hbox hg; have hnb64 := NB163_164.out; have hnc64 := NB164_163.out; obtain ⟨hcz65_0, hcz65_1, hcz65_2, hfz65_0, hfz65_1, hfz65_2⟩ := bK3 (w := w63) BK163) | ((with_reducible refine gate_callee (f := 87) rfl ?_); refine gL (some 9) Tryd.func87 #[.agg #[.int .i64 a1_0, .int .i64 a1_1, .bool a1_2]] ?_; (with_reducible refine (spec_PointOk.calls a1_0 a1_1 a1_2 false _ A3.out).mono ?_); rintro e w66 ⟨rfl, hb⟩; refine ⟨_, rfl, ?_⟩; replace BK163 := bB BK163 hb; replace BK164 := bB BK164 hb; replace HB := bS HB hb; (try clear hb)) | ((with_reducible refine gate_callee (f := 56) rfl ?_); refine gL (some 11) Tryd.func56 #[] ?_; (with_reducible refine (spec_l07Zero.calls  t166 t167 t168 _ A61.out).mono ?_); rintro e w67 ⟨rfl, hb⟩; refine ⟨_, rfl, ?_⟩; replace BK163 := bB BK163 hb; replace BK164 := bB BK164 hb; replace HB := bS HB hb; (try clear hb); obtain ⟨hcz68_0, hcz68_1, hcz68_2, hfz68_0, hfz68_1, hfz68_2⟩ := bK3 (w := w67) BK164))
  refine rC gb164 23 #[.int .i64 t166, .int .i64 t167, .bool t168] (bU BK164) Tryd.underlying23 ?_
  exact ⟨rR, bZ HB⟩

end Go.Proofs.YtkdmplfldfagnaaDoor.Pf
end
section
namespace Go.Proofs.YtkdmplfldfagnaaDoor.Pf
open Go.RowKit Go.Proofs.YtkdmplfldfagnaaDoorW.PrintWords Go.Proofs.YtkdmplfldfagnaaDoorW.PrintLast Go.Proofs.YtkdmplfldfagnaaDoorW.PrintMore
attribute [local go_sem] max2_int min2_int max_two min_two max_three min_three max_four min_four   -- for this text's walks alone
set_option linter.unusedVariables false
set_option linter.unusedSimpArgs false
/-! ### spec_HashPoint: function 10 -/
def spec_HashPoint.l0 : Nat → ByteArray → Int → Option (Int × Int × Bool)
 | 0, _, _ => none
 | k + 1, x0, x3 => if x3 < 64 then ((some (([(x3) % 256] : List Int) : List Int)).bind fun y191 => (if (strOfNums y191).size + x0.size ≤ 9223372036854775807 then ((spec_Digest.f ((strOfNums y191) ++ x0)).bind fun t194 => (if 0 < (t194.size : Int) then (if 1 < (t194.size : Int) then (if 2 < (t194.size : Int) then (if 3 < (t194.size : Int) then ((spec_FpOf.f (Go.bits .or .i64 (Go.bits .or .i64 (Go.bits .or .i64 (wrap64 ((wrap64 (bt t194 0)) * 16777216)) (wrap64 ((wrap64 (bt t194 1)) * 65536))) (wrap64 ((wrap64 (bt t194 2)) * 256))) (wrap64 (bt t194 3)))).bind fun t195 => ((spec_l07Right.f t195).bind fun t196 => ((spec_FpRoot.f k t196).bind fun bt197 => ((spec_PointTimes.f k 12 t195 bt197.1 false).bind fun bt199 => (if bt197.2 = true then (if bt199.2.2 = true then (spec_HashPoint.l0 k x0 (wrap64 (x3 + 1))) else (some (bt199.1, bt199.2.1, bt199.2.2))) else (spec_HashPoint.l0 k x0 (wrap64 (x3 + 1)))))))) else (none)) else (none)) else (none)) else (none))) else (none))) else ((spec_Base.f).bind fun bt188 => (some (bt188.1, bt188.2.1, bt188.2.2)))
def spec_HashPoint.f (k : Nat) (a0 : ByteArray) : Option (Int × Int × Bool) := spec_HashPoint.l0 k a0 0
theorem spec_HashPoint.mono_l : ∀ k, (∀ y0 y1, LeO (spec_HashPoint.l0 k y0 y1) (spec_HashPoint.l0 (k + 1) y0 y1))
 | 0 => fun _ _ r h => by simp [spec_HashPoint.l0] at h
 | k + 1 => by
  have ih0 := spec_HashPoint.mono_l k
  ·intro y0 y1
   unfold spec_HashPoint.l0
   repeat' first
   | (with_reducible exact ih0 _ _)
   | (with_reducible exact spec_FpRoot.mono _ _)
   | (with_reducible exact spec_PointTimes.mono _ _ _ _ _)
   | (with_reducible exact LeO.refl _)
   | (with_reducible exact LeO.none _)
   | (with_reducible refine LeO.ite ?_ ?_)
   | (with_reducible refine LeO.bind ?_ (fun _ => ?_))
   | exact ih0 _ _
   | exact spec_FpRoot.mono _ _
   | exact spec_PointTimes.mono _ _ _ _ _
   | exact LeO.none _
   | refine LeO.ite ?_ ?_
   | refine LeO.bind ?_ (fun _ => ?_)
theorem spec_HashPoint.mono : ∀ a0 k, LeO (spec_HashPoint.f k a0) (spec_HashPoint.f (k + 1) a0) := by
 intro a0 k
 have ih0 := spec_HashPoint.mono_l k
 unfold spec_HashPoint.f
 repeat' first
   | (with_reducible exact ih0 _ _)
   | (with_reducible exact spec_FpRoot.mono _ _)
   | (with_reducible exact spec_PointTimes.mono _ _ _ _ _)
   | (with_reducible exact LeO.refl _)
   | (with_reducible exact LeO.none _)
   | (with_reducible refine LeO.ite ?_ ?_)
   | (with_reducible refine LeO.bind ?_ (fun _ => ?_))
   | exact ih0 _ _
   | exact spec_FpRoot.mono _ _
   | exact spec_PointTimes.mono _ _ _ _ _
   | exact LeO.none _
   | refine LeO.ite ?_ ?_
   | refine LeO.bind ?_ (fun _ => ?_)
set_option maxHeartbeats 8000000 in
set_option maxRecDepth 100000 in
theorem spec_HashPoint.calls (k : Nat) (a0 : ByteArray) (r1 : Int) (r2 : Int) (r3 : Bool) (w : World) (h : spec_HashPoint.f k a0 = some (r1, r2, r3)) :
  Calls Tryd.prog 10 #[.string a0] w fun e w' => e = .returned (.agg #[.int .i64 r1, .int .i64 r2, .bool r3]) ∧ Below w.heap.size w w' := by
 have hu23 := Tryd.underlying23
 have HB := Aside0.mk (Below.refl w.heap.size w)
 have H : (spec_HashPoint.l0 k a0 0) = some (r1, r2, r3) := h
 clear h
 have H' := Aside0.mk H
 clear H
 go_enter Tryd.func10, Tryd.ntmps10
 go_wp2_with (first | ((with_reducible refine gate_dst (N := 2) rfl ?_); refine bE 2 #[.int .i64 0, .int .i64 0, .bool false] 23 ?_; intro gb187 hg w2 hbox hb; have BK187 := Aside0.mk (hbox); have GW187 := bG HB hg; have GE187 := bG HB hg; replace HB := bS HB hb; clear hb hbox hg))
 repeat (go_quiet (first | ((with_reducible refine gate_dst (N := 2) rfl ?_); refine bE 2 #[.int .i64 0, .int .i64 0, .bool false] 23 ?_; intro gb187 hg w2 hbox hb; have BK187 := Aside0.mk (hbox); have GW187 := bG HB hg; have GE187 := bG HB hg; replace HB := bS HB hb; clear hb hbox hg)); try go_wp2_with (first | ((with_reducible refine gate_dst (N := 2) rfl ?_); refine bE 2 #[.int .i64 0, .int .i64 0, .bool false] 23 ?_; intro gb187 hg w2 hbox hb; have BK187 := Aside0.mk (hbox); have GW187 := bG HB hg; have GE187 := bG HB hg; replace HB := bS HB hb; clear hb hbox hg)))
 go_loopg [3] k (fun kq v3 w' => ∃ (x3_1 : Int) (x188000_1 : Int) (x188001_1 : Int) (x188002_1 : Bool), v3 = .int .i64 x3_1 ∧ Aside0 (spec_HashPoint.l0 kq a0 x3_1 = some (r1, r2, r3)) ∧ Aside0 (kq ≤ k) ∧ Aside0 (w'.heap[gb187]? = some (.cells #[.int .i64 x188000_1, .int .i64 x188001_1, .bool x188002_1] 23 (0, 0))) ∧ Aside0 (Below w.heap.size w w'))
 case atStart => exact ⟨(0), (0), (0), (false), rS, H', ⟨Nat.le_refl _⟩, ⟨bP BK187⟩, ⟨bZ HB⟩⟩
 case round =>
  clear H'
  try clear c1
  try clear p2
  obtain ⟨x3_1, x188000_1, x188001_1, x188002_1, rfl, HA, HK1, BK187, HB⟩ := hrel
  cases gk with
  | zero => exact absurd HA.out (by simp [spec_HashPoint.l0])
  | succ k1 =>
   have H := HA.out
   clear HA
   simp only [spec_HashPoint.l0] at H
   by_cases c3 : x3_1 < 64
   ·rw [if_pos c3] at H
    have c3b0 : decide (x3_1 < 64) = true := decide_eq_true c3
    clear c3
    obtain ⟨y191, hy191⟩ : ∃ y_ : List Int, y_ = (([(x3_1) % 256] : List Int)) := ⟨_, rfl⟩
    replace H : (if (strOfNums y191).size + a0.size ≤ 9223372036854775807 then ((spec_Digest.f ((strOfNums y191) ++ a0)).bind fun t194 => (if 0 < (t194.size : Int) then (if 1 < (t194.size : Int) then (if 2 < (t194.size : Int) then (if 3 < (t194.size : Int) then ((spec_FpOf.f (Go.bits .or .i64 (Go.bits .or .i64 (Go.bits .or .i64 (wrap64 ((wrap64 (bt t194 0)) * 16777216)) (wrap64 ((wrap64 (bt t194 1)) * 65536))) (wrap64 ((wrap64 (bt t194 2)) * 256))) (wrap64 (bt t194 3)))).bind fun t195 => ((spec_l07Right.f t195).bind fun t196 => ((spec_FpRoot.f k1 t196).bind fun bt197 => ((spec_PointTimes.f k1 12 t195 bt197.1 false).bind fun bt199 => (if bt197.2 = true then (if bt199.2.2 = true then (spec_HashPoint.l0 k1 a0 (wrap64 (x3_1 + 1))) else (some (bt199.1, bt199.2.1, bt199.2.2))) else (spec_HashPoint.l0 k1 a0 (wrap64 (x3_1 + 1)))))))) else (none)) else (none)) else (none)) else (none))) else (none)) = some (r1, r2, r3) := by first | (rw [hy191]; with_reducible exact H) | (have H2_ := (Option.bind_some _ _).symm.trans H; rw [hy191]; with_reducible exact H2_) | (have H2_ := (Option.bind_some _ _).symm.trans H; with_reducible exact H2_) | with_reducible exact H | (rw [hy191]; exact H) | exact H
    have Ny191 := Aside0.mk hy191
    clear hy191
    by_cases c4 : (strOfNums y191).size + a0.size ≤ 9223372036854775807
    ·rw [if_pos c4] at H
     have c4b0 := eq_true c4
     have c4b1 : decide ((strOfNums y191).size + a0.size ≤ 9223372036854775807) = true := decide_eq_true c4
     try have c4b2 : (9223372036854775807 < (strOfNums y191).size + a0.size) = False := eq_false (Nat.not_lt.2 c4)
     try simp only [ByteArray.size_append] at c4b2
     replace H := Option.bind_eq_some_iff.mp H
     obtain ⟨t194, A50, H⟩ := H
     have A5 := Aside0.mk A50
     clear A50
     by_cases c6 : 0 < (t194.size : Int)
     ·rw [if_pos c6] at H
      have c6b0 : decide (0 < (t194.size : Int)) = true := decide_eq_true c6
      have c6b1 : decide (0 < t194.size) = true := decide_eq_true (by omega)
      clear c6
      by_cases c8 : 1 < (t194.size : Int)
      ·rw [if_pos c8] at H
       have c8b0 : decide (1 < (t194.size : Int)) = true := decide_eq_true c8
       have c8b1 : decide (1 < t194.size) = true := decide_eq_true (by omega)
       clear c8
       by_cases c10 : 2 < (t194.size : Int)
       ·rw [if_pos c10] at H
        have c10b0 : decide (2 < (t194.size : Int)) = true := decide_eq_true c10
        have c10b1 : decide (2 < t194.size) = true := decide_eq_true (by omega)
        clear c10
        by_cases c12 : 3 < (t194.size : Int)
        ·rw [if_pos c12] at H
         have c12b0 : decide (3 < (t194.size : Int)) = true := decide_eq_true c12
         have c12b1 : decide (3 < t194.size) = true := decide_eq_true (by omega)
         clear c12
         replace H := Option.bind_eq_some_iff.mp H
         obtain ⟨t195, A140, H⟩ := H
         have A14 := Aside0.mk A140
         clear A140
         replace H := Option.bind_eq_some_iff.mp H
         obtain ⟨t196, A150, H⟩ := H
         have A15 := Aside0.mk A150
         clear A150
         replace H := Option.bind_eq_some_iff.mp H
         obtain ⟨⟨t197, t198⟩, A160, H⟩ := H
         have A16 := Aside0.mk A160
         clear A160
         replace H := Option.bind_eq_some_iff.mp H
         obtain ⟨⟨t199, t200, t201⟩, A170, H⟩ := H
         have A17 := Aside0.mk A170
         clear A170
         by_cases c18 : t198 = true
         ·subst c18
          rw [if_pos rfl] at H
          by_cases c19 : t201 = true
          ·subst c19
           rw [if_pos rfl] at H
           have H' := Aside0.mk H
           clear H
           go_wp2_with (first | ((with_reducible refine gate_dst (N := 15) rfl ?_); refine Kd.R_lit (Kd.int .u8) _ 5 ?hg (N := 15) ?hd (xs := ([(x3_1) % 256] : List Int)) (inner := [.int .u8 ((x3_1) % 256)]) (ok := fun _ => True) (okp := fun _ => True) ?hr ?hp (fun _ hk => hk) trivial (Below.refl _ _) (Nat.le_refl _) (by simp) ?_; (case hd => rfl); (case hg => rfl); (case hr => first | (go_simp; done) | (go_simp; rfl)); (case hp => exact (Reps.one (show Kd.M (Kd.int .u8) _ _ _ ((x3_1) % 256) [.int .u8 ((x3_1) % 256)] from rfl) (Reps.none _ _))); intro v192 w20 ho21 hb hg_ hnew_; clear hg_ hnew_; (first | rw [← Ny191.out] at ho21 | (simp only [Int.reduceToNat] at ho21; rw [← Ny191.out] at ho21)); have HO193 := Aside0.mk (Kd.R_lower ho21 (below_size (bZ HB))); replace BK187 := bB BK187 hb; replace HB := bS HB hb; clear hb ho21; have hcv22 := own_string (P := Tryd.prog) Tryd.underlying46 Tryd.underlying5 Tryd.underlying9 (Kd.own_of_R HO193.out)) | (go_at_call 41; (with_reducible refine (spec_Digest.calls ((strOfNums y191) ++ a0) t194 _ A5.out).mono ?_); rintro e w23 ⟨rfl, hb⟩; replace HO193 := Aside0.mk (Kd.R_below (rP HO193) hb); replace BK187 := bB BK187 hb; replace HB := bS HB hb; (try clear hb); have p7 : 0 ≤ (0 : Int) := (by omega); have q7 : 0 < t194.size := (by have : (0 : Int) < (t194.size : Int) := of_decide_eq_true (by first | (with_reducible assumption) | assumption); omega); have hx7 : ∀ h : 0 < t194.size, ((t194[0]'h).toNat : Int) = bt t194 0 := bt_at t194 0; clear p7; have qi7 : (0 < (t194.size : Int)) = True := eq_true (of_decide_eq_true (by first | (with_reducible assumption) | assumption)); replace q7 := eq_true q7; have p9 : 0 ≤ (1 : Int) := (by omega); have q9 : 1 < t194.size := (by have : (1 : Int) < (t194.size : Int) := of_decide_eq_true (by first | (with_reducible assumption) | assumption); omega); have hx9 : ∀ h : 1 < t194.size, ((t194[1]'h).toNat : Int) = bt t194 1 := bt_at t194 1; clear p9; have qi9 : (1 < (t194.size : Int)) = True := eq_true (of_decide_eq_true (by first | (with_reducible assumption) | assumption)); replace q9 := eq_true q9; have p11 : 0 ≤ (2 : Int) := (by omega); have q11 : 2 < t194.size := (by have : (2 : Int) < (t194.size : Int) := of_decide_eq_true (by first | (with_reducible assumption) | assumption); omega); have hx11 : ∀ h : 2 < t194.size, ((t194[2]'h).toNat : Int) = bt t194 2 := bt_at t194 2; clear p11; have qi11 : (2 < (t194.size : Int)) = True := eq_true (of_decide_eq_true (by first | (with_reducible assumption) | assumption)); replace q11 := eq_true q11; have p13 : 0 ≤ (3 : Int) := (by omega); have q13 : 3 < t194.size := (by have : (3 : Int) < (t194.size : Int) := of_decide_eq_true (by first | (with_reducible assumption) | assumption); omega); have hx13 : ∀ h : 3 < t194.size, ((t194[3]'h).toNat : Int) = bt t194 3 := bt_at t194 3; clear p13; have qi13 : (3 < (t194.size : Int)) = True := eq_true (of_decide_eq_true (by first | (with_reducible assumption) | assumption)); replace q13 := eq_true q13) | (go_at_call 42; (with_reducible refine (spec_FpOf.calls (Go.bits .or .i64 (Go.bits .or .i64 (Go.bits .or .i64 (wrap64 ((wrap64 (bt t194 0)) * 16777216)) (wrap64 ((wrap64 (bt t194 1)) * 65536))) (wrap64 ((wrap64 (bt t194 2)) * 256))) (wrap64 (bt t194 3))) t195 _ A14.out).mono ?_); rintro e w' ⟨rfl, ⟨nd, rfl⟩⟩; (try exact tD)) | (go_at_call 44; (with_reducible refine (spec_l07Right.calls t195 t196 _ A15.out).mono ?_); rintro e w' ⟨rfl, ⟨nd, rfl⟩⟩; (try exact tD)) | (go_at_call 43; (with_reducible refine (spec_FpRoot.calls k1 t196 t197 true _ A16.out).mono ?_); rintro e w' ⟨rfl, ⟨nd, rfl⟩⟩; (try exact tD)) | (go_at_call 45; (with_reducible refine (spec_PointTimes.calls k1 12 t195 t197 false t199 t200 true _ A17.out).mono ?_); rintro e w24 ⟨rfl, hb⟩; replace HO193 := Aside0.mk (Kd.R_below (rP HO193) hb); replace BK187 := bB BK187 hb; replace HB := bS HB hb; (try clear hb)) | ((with_reducible refine gate_dst (N := 8) rfl ?_); refine bE 8 #[.int .i64 0, .int .i64 0, .bool false] 23 ?_; intro gb202 hg w25 hbox hb; replace HO193 := Aside0.mk (Kd.R_below (rP HO193) hb); have BK202 := Aside0.mk (hbox); have GW202 := bG HB hg; have GE202 := bG HB hg; replace HB := bS HB hb; have NB187_202 := bL BK187 hg; have NB202_187 := bR BK187 hg; replace BK187 := bB BK187 hb; clear hb hbox hg; have hnb26 := NB202_187.out; have hnc26 := NB187_202.out; obtain ⟨hcz27_0, hcz27_1, hcz27_2, hfz27_0, hfz27_1, hfz27_2⟩ := bK3 (w := w25) BK202))
           repeat (go_quiet (first | ((with_reducible refine gate_dst (N := 15) rfl ?_); refine Kd.R_lit (Kd.int .u8) _ 5 ?hg (N := 15) ?hd (xs := ([(x3_1) % 256] : List Int)) (inner := [.int .u8 ((x3_1) % 256)]) (ok := fun _ => True) (okp := fun _ => True) ?hr ?hp (fun _ hk => hk) trivial (Below.refl _ _) (Nat.le_refl _) (by simp) ?_; (case hd => rfl); (case hg => rfl); (case hr => first | (go_simp; done) | (go_simp; rfl)); (case hp => exact (Reps.one (show Kd.M (Kd.int .u8) _ _ _ ((x3_1) % 256) [.int .u8 ((x3_1) % 256)] from rfl) (Reps.none _ _))); intro v192 w20 ho21 hb hg_ hnew_; clear hg_ hnew_; (first | rw [← Ny191.out] at ho21 | (simp only [Int.reduceToNat] at ho21; rw [← Ny191.out] at ho21)); have HO193 := Aside0.mk (Kd.R_lower ho21 (below_size (bZ HB))); replace BK187 := bB BK187 hb; replace HB := bS HB hb; clear hb ho21; have hcv22 := own_string (P := Tryd.prog) Tryd.underlying46 Tryd.underlying5 Tryd.underlying9 (Kd.own_of_R HO193.out)) | (go_at_call 41; (with_reducible refine (spec_Digest.calls ((strOfNums y191) ++ a0) t194 _ A5.out).mono ?_); rintro e w23 ⟨rfl, hb⟩; replace HO193 := Aside0.mk (Kd.R_below (rP HO193) hb); replace BK187 := bB BK187 hb; replace HB := bS HB hb; (try clear hb); have p7 : 0 ≤ (0 : Int) := (by omega); have q7 : 0 < t194.size := (by have : (0 : Int) < (t194.size : Int) := of_decide_eq_true (by first | (with_reducible assumption) | assumption); omega); have hx7 : ∀ h : 0 < t194.size, ((t194[0]'h).toNat : Int) = bt t194 0 := bt_at t194 0; clear p7; have qi7 : (0 < (t194.size : Int)) = True := eq_true (of_decide_eq_true (by first | (with_reducible assumption) | assumption)); replace q7 := eq_true q7; have p9 : 0 ≤ (1 : Int) := (by omega); have q9 : 1 < t194.size := (by have : (1 : Int) < (t194.size : Int) := of_decide_eq_true (by first | (with_reducible assumption) | assumption); omega); have hx9 : ∀ h : 1 < t194.size, ((t194[1]'h).toNat : Int) = bt t194 1 := bt_at t194 1; clear p9; have qi9 : (1 < (t194.size : Int)) = True := eq_true (of_decide_eq_true (by first | (with_reducible assumption) | assumption)); replace q9 := eq_true q9; have p11 : 0 ≤ (2 : Int) := (by omega); have q11 : 2 < t194.size := (by have : (2 : Int) < (t194.size : Int) := of_decide_eq_true (by first | (with_reducible assumption) | assumption); omega); have hx11 : ∀ h : 2 < t194.size, ((t194[2]'h).toNat : Int) = bt t194 2 := bt_at t194 2; clear p11; have qi11 : (2 < (t194.size : Int)) = True := eq_true (of_decide_eq_true (by first | (with_reducible assumption) | assumption)); replace q11 := eq_true q11; have p13 : 0 ≤ (3 : Int) := (by omega); have q13 : 3 < t194.size := (by have : (3 : Int) < (t194.size : Int) := of_decide_eq_true (by first | (with_reducible assumption) | assumption); omega); have hx13 : ∀ h : 3 < t194.size, ((t194[3]'h).toNat : Int) = bt t194 3 := bt_at t194 3; clear p13; have qi13 : (3 < (t194.size : Int)) = True := eq_true (of_decide_eq_true (by first | (with_reducible assumption) | assumption)); replace q13 := eq_true q13) | (go_at_call 42; (with_reducible refine (spec_FpOf.calls (Go.bits .or .i64 (Go.bits .or .i64 (Go.bits .or .i64 (wrap64 ((wrap64 (bt t194 0)) * 16777216)) (wrap64 ((wrap64 (bt t194 1)) * 65536))) (wrap64 ((wrap64 (bt t194 2)) * 256))) (wrap64 (bt t194 3))) t195 _ A14.out).mono ?_); rintro e w' ⟨rfl, ⟨nd, rfl⟩⟩; (try exact tD)) | (go_at_call 44; (with_reducible refine (spec_l07Right.calls t195 t196 _ A15.out).mono ?_); rintro e w' ⟨rfl, ⟨nd, rfl⟩⟩; (try exact tD)) | (go_at_call 43; (with_reducible refine (spec_FpRoot.calls k1 t196 t197 true _ A16.out).mono ?_); rintro e w' ⟨rfl, ⟨nd, rfl⟩⟩; (try exact tD)) | (go_at_call 45; (with_reducible refine (spec_PointTimes.calls k1 12 t195 t197 false t199 t200 true _ A17.out).mono ?_); rintro e w24 ⟨rfl, hb⟩; replace HO193 := Aside0.mk (Kd.R_below (rP HO193) hb); replace BK187 := bB BK187 hb; replace HB := bS HB hb; (try clear hb)) | ((with_reducible refine gate_dst (N := 8) rfl ?_); refine bE 8 #[.int .i64 0, .int .i64 0, .bool false] 23 ?_; intro gb202 hg w25 hbox hb; replace HO193 := Aside0.mk (Kd.R_below (rP HO193) hb); have BK202 := Aside0.mk (hbox); have GW202 := bG HB hg; have GE202 := bG HB hg; replace HB := bS HB hb; have NB187_202 := bL BK187 hg; have NB202_187 := bR BK187 hg; replace BK187 := bB BK187 hb; clear hb hbox hg; have hnb26 := NB202_187.out; have hnc26 := NB187_202.out; obtain ⟨hcz27_0, hcz27_1, hcz27_2, hfz27_0, hfz27_1, hfz27_2⟩ := bK3 (w := w25) BK202)); try go_wp2_with (first | ((with_reducible refine gate_dst (N := 15) rfl ?_); refine Kd.R_lit (Kd.int .u8) _ 5 ?hg (N := 15) ?hd (xs := ([(x3_1) % 256] : List Int)) (inner := [.int .u8 ((x3_1) % 256)]) (ok := fun _ => True) (okp := fun _ => True) ?hr ?hp (fun _ hk => hk) trivial (Below.refl _ _) (Nat.le_refl _) (by simp) ?_; (case hd => rfl); (case hg => rfl); (case hr => first | (go_simp; done) | (go_simp; rfl)); (case hp => exact (Reps.one (show Kd.M (Kd.int .u8) _ _ _ ((x3_1) % 256) [.int .u8 ((x3_1) % 256)] from rfl) (Reps.none _ _))); intro v192 w20 ho21 hb hg_ hnew_; clear hg_ hnew_; (first | rw [← Ny191.out] at ho21 | (simp only [Int.reduceToNat] at ho21; rw [← Ny191.out] at ho21)); have HO193 := Aside0.mk (Kd.R_lower ho21 (below_size (bZ HB))); replace BK187 := bB BK187 hb; replace HB := bS HB hb; clear hb ho21; have hcv22 := own_string (P := Tryd.prog) Tryd.underlying46 Tryd.underlying5 Tryd.underlying9 (Kd.own_of_R HO193.out)) | (go_at_call 41; (with_reducible refine (spec_Digest.calls ((strOfNums y191) ++ a0) t194 _ A5.out).mono ?_); rintro e w23 ⟨rfl, hb⟩; replace HO193 := Aside0.mk (Kd.R_below (rP HO193) hb); replace BK187 := bB BK187 hb; replace HB := bS HB hb; (try clear hb); have p7 : 0 ≤ (0 : Int) := (by omega); have q7 : 0 < t194.size := (by have : (0 : Int) < (t194.size : Int) := of_decide_eq_true (by first | (with_reducible assumption) | assumption); omega); have hx7 : ∀ h : 0 < t194.size, ((t194[0]'h).toNat : Int) = bt t194 0 := bt_at t194 0; clear p7; have qi7 : (0 < (t194.size : Int)) = True := eq_true (of_decide_eq_true (by first | (with_reducible assumption) | assumption)); replace q7 := eq_true q7; have p9 : 0 ≤ (1 : Int) := (by omega); have q9 : 1 < t194.size := (by have : (1 : Int) < (t194.size : Int) := of_decide_eq_true (by first | (with_reducible assumption) | assumption); omega); have hx9 : ∀ h : 1 < t194.size, ((t194[1]'h).toNat : Int) = bt t194 1 := bt_at t194 1; clear p9; have qi9 : (1 < (t194.size : Int)) = True := eq_true (of_decide_eq_true (by first | (with_reducible assumption) | assumption)); replace q9 := eq_true q9; have p11 : 0 ≤ (2 : Int) := (by omega); have q11 : 2 < t194.size := (by have : (2 : Int) < (t194.size : Int) := of_decide_eq_true (by first | (with_reducible assumption) | assumption); omega); have hx11 : ∀ h : 2 < t194.size, ((t194[2]'h).toNat : Int) = bt t194 2 := bt_at t194 2; clear p11; have qi11 : (2 < (t194.size : Int)) = True := eq_true (of_decide_eq_true (by first | (with_reducible assumption) | assumption)); replace q11 := eq_true q11; have p13 : 0 ≤ (3 : Int) := (by omega); have q13 : 3 < t194.size := (by have : (3 : Int) < (t194.size : Int) := of_decide_eq_true (by first | (with_reducible assumption) | assumption); omega); have hx13 : ∀ h : 3 < t194.size, ((t194[3]'h).toNat : Int) = bt t194 3 := bt_at t194 3; clear p13; have qi13 : (3 < (t194.size : Int)) = True := eq_true (of_decide_eq_true (by first | (with_reducible assumption) | assumption)); replace q13 := eq_true q13) | (go_at_call 42; (with_reducible refine (spec_FpOf.calls (Go.bits .or .i64 (Go.bits .or .i64 (Go.bits .or .i64 (wrap64 ((wrap64 (bt t194 0)) * 16777216)) (wrap64 ((wrap64 (bt t194 1)) * 65536))) (wrap64 ((wrap64 (bt t194 2)) * 256))) (wrap64 (bt t194 3))) t195 _ A14.out).mono ?_); rintro e w' ⟨rfl, ⟨nd, rfl⟩⟩; (try exact tD)) | (go_at_call 44; (with_reducible refine (spec_l07Right.calls t195 t196 _ A15.out).mono ?_); rintro e w' ⟨rfl, ⟨nd, rfl⟩⟩; (try exact tD)) | (go_at_call 43; (with_reducible refine (spec_FpRoot.calls k1 t196 t197 true _ A16.out).mono ?_); rintro e w' ⟨rfl, ⟨nd, rfl⟩⟩; (try exact tD)) | (go_at_call 45; (with_reducible refine (spec_PointTimes.calls k1 12 t195 t197 false t199 t200 true _ A17.out).mono ?_); rintro e w24 ⟨rfl, hb⟩; replace HO193 := Aside0.mk (Kd.R_below (rP HO193) hb); replace BK187 := bB BK187 hb; replace HB := bS HB hb; (try clear hb)) | ((with_reducible refine gate_dst (N := 8) rfl ?_); refine bE 8 #[.int .i64 0, .int .i64 0, .bool false] 23 ?_; intro gb202 hg w25 hbox hb; replace HO193 := Aside0.mk (Kd.R_below (rP HO193) hb); have BK202 := Aside0.mk (hbox); have GW202 := bG HB hg; have GE202 := bG HB hg; replace HB := bS HB hb; have NB187_202 := bL BK187 hg; have NB202_187 := bR BK187 hg; replace BK187 := bB BK187 hb; clear hb hbox hg; have hnb26 := NB202_187.out; have hnc26 := NB187_202.out; obtain ⟨hcz27_0, hcz27_1, hcz27_2, hfz27_0, hfz27_1, hfz27_2⟩ := bK3 (w := w25) BK202)))
           go_roundg k1
           case measure => have := HK1.out; omega
           case rel => exact ⟨(wrap64 (x3_1 + 1)), (x188000_1), (x188001_1), (x188002_1), rS, H', ⟨by have := HK1.out; omega⟩, ⟨bP BK187⟩, ⟨bZ HB⟩⟩
          ·replace c19 := Bool.eq_false_iff.mpr c19
           subst c19
           rw [if_neg (show ¬ (false = true) by decide)] at H
           simp only [Option.some.injEq, Prod.mk.injEq] at H
           obtain ⟨rfl, rfl, rfl⟩ := H
           go_wp2_with (first | ((with_reducible refine gate_dst (N := 15) rfl ?_); refine Kd.R_lit (Kd.int .u8) _ 5 ?hg (N := 15) ?hd (xs := ([(x3_1) % 256] : List Int)) (inner := [.int .u8 ((x3_1) % 256)]) (ok := fun _ => True) (okp := fun _ => True) ?hr ?hp (fun _ hk => hk) trivial (Below.refl _ _) (Nat.le_refl _) (by simp) ?_; (case hd => rfl); (case hg => rfl); (case hr => first | (go_simp; done) | (go_simp; rfl)); (case hp => exact (Reps.one (show Kd.M (Kd.int .u8) _ _ _ ((x3_1) % 256) [.int .u8 ((x3_1) % 256)] from rfl) (Reps.none _ _))); intro v192 w28 ho29 hb hg_ hnew_; clear hg_ hnew_; (first | rw [← Ny191.out] at ho29 | (simp only [Int.reduceToNat] at ho29; rw [← Ny191.out] at ho29)); have HO193 := Aside0.mk (Kd.R_lower ho29 (below_size (bZ HB))); replace BK187 := bB BK187 hb; replace HB := bS HB hb; clear hb ho29; have hcv30 := own_string (P := Tryd.prog) Tryd.underlying46 Tryd.underlying5 Tryd.underlying9 (Kd.own_of_R HO193.out)) | (go_at_call 41; (with_reducible refine (spec_Digest.calls ((strOfNums y191) ++ a0) t194 _ A5.out).mono ?_); rintro e w31 ⟨rfl, hb⟩; replace HO193 := Aside0.mk (Kd.R_below (rP HO193) hb); replace BK187 := bB BK187 hb; replace HB := bS HB hb; (try clear hb); have p7 : 0 ≤ (0 : Int) := (by omega); have q7 : 0 < t194.size := (by have : (0 : Int) < (t194.size : Int) := of_decide_eq_true (by first | (with_reducible assumption) | assumption); omega); have hx7 : ∀ h : 0 < t194.size, ((t194[0]'h).toNat : Int) = bt t194 0 := bt_at t194 0; clear p7; have qi7 : (0 < (t194.size : Int)) = True := eq_true (of_decide_eq_true (by first | (with_reducible assumption) | assumption)); replace q7 := eq_true q7; have p9 : 0 ≤ (1 : Int) := (by omega); have q9 : 1 < t194.size := (by have : (1 : Int) < (t194.size : Int) := of_decide_eq_true (by first | (with_reducible assumption) | assumption); omega); have hx9 : ∀ h : 1 < t194.size, ((t194[1]'h).toNat : Int) = bt t194 1 := bt_at t194 1; clear p9; have qi9 : (1 < (t194.size : Int)) = True := eq_true (of_decide_eq_true (by first | (with_reducible assumption) | assumption)); replace q9 := eq_true q9; have p11 : 0 ≤ (2 : Int) := (by omega); have q11 : 2 < t194.size := (by have : (2 : Int) < (t194.size : Int) := of_decide_eq_true (by first | (with_reducible assumption) | assumption); omega); have hx11 : ∀ h : 2 < t194.size, ((t194[2]'h).toNat : Int) = bt t194 2 := bt_at t194 2; clear p11; have qi11 : (2 < (t194.size : Int)) = True := eq_true (of_decide_eq_true (by first | (with_reducible assumption) | assumption)); replace q11 := eq_true q11; have p13 : 0 ≤ (3 : Int) := (by omega); have q13 : 3 < t194.size := (by have : (3 : Int) < (t194.size : Int) := of_decide_eq_true (by first | (with_reducible assumption) | assumption); omega); have hx13 : ∀ h : 3 < t194.size, ((t194[3]'h).toNat : Int) = bt t194 3 := bt_at t194 3; clear p13; have qi13 : (3 < (t194.size : Int)) = True := eq_true (of_decide_eq_true (by first | (with_reducible assumption) | assumption)); replace q13 := eq_true q13) | (go_at_call 42; (with_reducible refine (spec_FpOf.calls (Go.bits .or .i64 (Go.bits .or .i64 (Go.bits .or .i64 (wrap64 ((wrap64 (bt t194 0)) * 16777216)) (wrap64 ((wrap64 (bt t194 1)) * 65536))) (wrap64 ((wrap64 (bt t194 2)) * 256))) (wrap64 (bt t194 3))) t195 _ A14.out).mono ?_); rintro e w' ⟨rfl, ⟨nd, rfl⟩⟩; (try exact tD)) | (go_at_call 44; (with_reducible refine (spec_l07Right.calls t195 t196 _ A15.out).mono ?_); rintro e w' ⟨rfl, ⟨nd, rfl⟩⟩; (try exact tD)) | (go_at_call 43; (with_reducible refine (spec_FpRoot.calls k1 t196 t197 true _ A16.out).mono ?_); rintro e w' ⟨rfl, ⟨nd, rfl⟩⟩; (try exact tD)) | (go_at_call 45; (with_reducible refine (spec_PointTimes.calls k1 12 t195 t197 false t199 t200 false _ A17.out).mono ?_); rintro e w32 ⟨rfl, hb⟩; replace HO193 := Aside0.mk (Kd.R_below (rP HO193) hb); replace BK187 := bB BK187 hb; replace HB := bS HB hb; (try clear hb)) | ((with_reducible refine gate_dst (N := 8) rfl ?_); refine bE 8 #[.int .i64 0, .int .i64 0, .bool false] 23 ?_; intro gb202 hg w33 hbox hb; replace HO193 := Aside0.mk (Kd.R_below (rP HO193) hb); have BK202 := Aside0.mk (hbox); have GW202 := bG HB hg; have GE202 := bG HB hg; replace HB := bS HB hb; have NB187_202 := bL BK187 hg; have NB202_187 := bR BK187 hg; replace BK187 := bB BK187 hb; clear hb hbox hg; have hnb34 := NB202_187.out; have hnc34 := NB187_202.out; obtain ⟨hcz35_0, hcz35_1, hcz35_2, hfz35_0, hfz35_1, hfz35_2⟩ := bK3 (w := w33) BK202; obtain ⟨hcz36_0, hcz36_1, hcz36_2, hfz36_0, hfz36_1, hfz36_2⟩ := bK3 (w := w33) BK187))
           repeat (go_quiet (first | ((with_reducible refine gate_dst (N := 15) rfl ?_); refine Kd.R_lit (Kd.int .u8) _ 5 ?hg (N := 15) ?hd (xs := ([(x3_1) % 256] : List Int)) (inner := [.int .u8 ((x3_1) % 256)]) (ok := fun _ => True) (okp := fun _ => True) ?hr ?hp (fun _ hk => hk) trivial (Below.refl _ _) (Nat.le_refl _) (by simp) ?_; (case hd => rfl); (case hg => rfl); (case hr => first | (go_simp; done) | (go_simp; rfl)); (case hp => exact (Reps.one (show Kd.M (Kd.int .u8) _ _ _ ((x3_1) % 256) [.int .u8 ((x3_1) % 256)] from rfl) (Reps.none _ _))); intro v192 w28 ho29 hb hg_ hnew_; clear hg_ hnew_; (first | rw [← Ny191.out] at ho29 | (simp only [Int.reduceToNat] at ho29; rw [← Ny191.out] at ho29)); have HO193 := Aside0.mk (Kd.R_lower ho29 (below_size (bZ HB))); replace BK187 := bB BK187 hb; replace HB := bS HB hb; clear hb ho29; have hcv30 := own_string (P := Tryd.prog) Tryd.underlying46 Tryd.underlying5 Tryd.underlying9 (Kd.own_of_R HO193.out)) | (go_at_call 41; (with_reducible refine (spec_Digest.calls ((strOfNums y191) ++ a0) t194 _ A5.out).mono ?_); rintro e w31 ⟨rfl, hb⟩; replace HO193 := Aside0.mk (Kd.R_below (rP HO193) hb); replace BK187 := bB BK187 hb; replace HB := bS HB hb; (try clear hb); have p7 : 0 ≤ (0 : Int) := (by omega); have q7 : 0 < t194.size := (by have : (0 : Int) < (t194.size : Int) := of_decide_eq_true (by first | (with_reducible assumption) | assumption); omega); have hx7 : ∀ h : 0 < t194.size, ((t194[0]'h).toNat : Int) = bt t194 0 := bt_at t194 0; clear p7; have qi7 : (0 < (t194.size : Int)) = True := eq_true (of_decide_eq_true (by first | (with_reducible assumption) | assumption)); replace q7 := eq_true q7; have p9 : 0 ≤ (1 : Int) := (by omega); have q9 : 1 < t194.size := (by have : (1 : Int) < (t194.size : Int) := of_decide_eq_true (by first | (with_reducible assumption) | assumption); omega); have hx9 : ∀ h : 1 < t194.size, ((t194[1]'h).toNat : Int) = bt t194 1 := bt_at t194 1; clear p9; have qi9 : (1 < (t194.size : Int)) = True := eq_true (of_decide_eq_true (by first | (with_reducible assumption) | assumption)); replace q9 := eq_true q9; have p11 : 0 ≤ (2 : Int) := (by omega); have q11 : 2 < t194.size := (by have : (2 : Int) < (t194.size : Int) := of_decide_eq_true (by first | (with_reducible assumption) | assumption); omega); have hx11 : ∀ h : 2 < t194.size, ((t194[2]'h).toNat : Int) = bt t194 2 := bt_at t194 2; clear p11; have qi11 : (2 < (t194.size : Int)) = True := eq_true (of_decide_eq_true (by first | (with_reducible assumption) | assumption)); replace q11 := eq_true q11; have p13 : 0 ≤ (3 : Int) := (by omega); have q13 : 3 < t194.size := (by have : (3 : Int) < (t194.size : Int) := of_decide_eq_true (by first | (with_reducible assumption) | assumption); omega); have hx13 : ∀ h : 3 < t194.size, ((t194[3]'h).toNat : Int) = bt t194 3 := bt_at t194 3; clear p13; have qi13 : (3 < (t194.size : Int)) = True := eq_true (of_decide_eq_true (by first | (with_reducible assumption) | assumption)); replace q13 := eq_true q13) | (go_at_call 42; (with_reducible refine (spec_FpOf.calls (Go.bits .or .i64 (Go.bits .or .i64 (Go.bits .or .i64 (wrap64 ((wrap64 (bt t194 0)) * 16777216)) (wrap64 ((wrap64 (bt t194 1)) * 65536))) (wrap64 ((wrap64 (bt t194 2)) * 256))) (wrap64 (bt t194 3))) t195 _ A14.out).mono ?_); rintro e w' ⟨rfl, ⟨nd, rfl⟩⟩; (try exact tD)) | (go_at_call 44; (with_reducible refine (spec_l07Right.calls t195 t196 _ A15.out).mono ?_); rintro e w' ⟨rfl, ⟨nd, rfl⟩⟩; (try exact tD)) | (go_at_call 43; (with_reducible refine (spec_FpRoot.calls k1 t196 t197 true _ A16.out).mono ?_); rintro e w' ⟨rfl, ⟨nd, rfl⟩⟩; (try exact tD)) | (go_at_call 45; (with_reducible refine (spec_PointTimes.calls k1 12 t195 t197 false t199 t200 false _ A17.out).mono ?_); rintro e w32 ⟨rfl, hb⟩; replace HO193 := Aside0.mk (Kd.R_below (rP HO193) hb); replace BK187 := bB BK187 hb; replace HB := bS HB hb; (try clear hb)) | ((with_reducible refine gate_dst (N := 8) rfl ?_); refine bE 8 #[.int .i64 0, .int .i64 0, .bool false] 23 ?_; intro gb202 hg w33 hbox hb; replace HO193 := Aside0.mk (Kd.R_below (rP HO193) hb); have BK202 := Aside0.mk (hbox); have GW202 := bG HB hg; have GE202 := bG HB hg; replace HB := bS HB hb; have NB187_202 := bL BK187 hg; have NB202_187 := bR BK187 hg; replace BK187 := bB BK187 hb; clear hb hbox hg; have hnb34 := NB202_187.out; have hnc34 := NB187_202.out; obtain ⟨hcz35_0, hcz35_1, hcz35_2, hfz35_0, hfz35_1, hfz35_2⟩ := bK3 (w := w33) BK202; obtain ⟨hcz36_0, hcz36_1, hcz36_2, hfz36_0, hfz36_1, hfz36_2⟩ := bK3 (w := w33) BK187)); try go_wp2_with (first | ((with_reducible refine gate_dst (N := 15) rfl ?_); refine Kd.R_lit (Kd.int .u8) _ 5 ?hg (N := 15) ?hd (xs := ([(x3_1) % 256] : List Int)) (inner := [.int .u8 ((x3_1) % 256)]) (ok := fun _ => True) (okp := fun _ => True) ?hr ?hp (fun _ hk => hk) trivial (Below.refl _ _) (Nat.le_refl _) (by simp) ?_; (case hd => rfl); (case hg => rfl); (case hr => first | (go_simp; done) | (go_simp; rfl)); (case hp => exact (Reps.one (show Kd.M (Kd.int .u8) _ _ _ ((x3_1) % 256) [.int .u8 ((x3_1) % 256)] from rfl) (Reps.none _ _))); intro v192 w28 ho29 hb hg_ hnew_; clear hg_ hnew_; (first | rw [← Ny191.out] at ho29 | (simp only [Int.reduceToNat] at ho29; rw [← Ny191.out] at ho29)); have HO193 := Aside0.mk (Kd.R_lower ho29 (below_size (bZ HB))); replace BK187 := bB BK187 hb; replace HB := bS HB hb; clear hb ho29; have hcv30 := own_string (P := Tryd.prog) Tryd.underlying46 Tryd.underlying5 Tryd.underlying9 (Kd.own_of_R HO193.out)) | (go_at_call 41; (with_reducible refine (spec_Digest.calls ((strOfNums y191) ++ a0) t194 _ A5.out).mono ?_); rintro e w31 ⟨rfl, hb⟩; replace HO193 := Aside0.mk (Kd.R_below (rP HO193) hb); replace BK187 := bB BK187 hb; replace HB := bS HB hb; (try clear hb); have p7 : 0 ≤ (0 : Int) := (by omega); have q7 : 0 < t194.size := (by have : (0 : Int) < (t194.size : Int) := of_decide_eq_true (by first | (with_reducible assumption) | assumption); omega); have hx7 : ∀ h : 0 < t194.size, ((t194[0]'h).toNat : Int) = bt t194 0 := bt_at t194 0; clear p7; have qi7 : (0 < (t194.size : Int)) = True := eq_true (of_decide_eq_true (by first | (with_reducible assumption) | assumption)); replace q7 := eq_true q7; have p9 : 0 ≤ (1 : Int) := (by omega); have q9 : 1 < t194.size := (by have : (1 : Int) < (t194.size : Int) := of_decide_eq_true (by first | (with_reducible assumption) | assumption); omega); have hx9 : ∀ h : 1 < t194.size, ((t194[1]'h).toNat : Int) = bt t194 1 := bt_at t194 1; clear p9; have qi9 : (1 < (t194.size : Int)) = True := eq_true (of_decide_eq_true (by first | (with_reducible assumption) | assumption)); replace q9 := eq_true q9; have p11 : 0 ≤ (2 : Int) := (by omega); have q11 : 2 < t194.size := (by have : (2 : Int) < (t194.size : Int) := of_decide_eq_true (by first | (with_reducible assumption) | assumption); omega); have hx11 : ∀ h : 2 < t194.size, ((t194[2]'h).toNat : Int) = bt t194 2 := bt_at t194 2; clear p11; have qi11 : (2 < (t194.size : Int)) = True := eq_true (of_decide_eq_true (by first | (with_reducible assumption) | assumption)); replace q11 := eq_true q11; have p13 : 0 ≤ (3 : Int) := (by omega); have q13 : 3 < t194.size := (by have : (3 : Int) < (t194.size : Int) := of_decide_eq_true (by first | (with_reducible assumption) | assumption); omega); have hx13 : ∀ h : 3 < t194.size, ((t194[3]'h).toNat : Int) = bt t194 3 := bt_at t194 3; clear p13; have qi13 : (3 < (t194.size : Int)) = True := eq_true (of_decide_eq_true (by first | (with_reducible assumption) | assumption)); replace q13 := eq_true q13) | (go_at_call 42; (with_reducible refine (spec_FpOf.calls (Go.bits .or .i64 (Go.bits .or .i64 (Go.bits .or .i64 (wrap64 ((wrap64 (bt t194 0)) * 16777216)) (wrap64 ((wrap64 (bt t194 1)) * 65536))) (wrap64 ((wrap64 (bt t194 2)) * 256))) (wrap64 (bt t194 3))) t195 _ A14.out).mono ?_); rintro e w' ⟨rfl, ⟨nd, rfl⟩⟩; (try exact tD)) | (go_at_call 44; (with_reducible refine (spec_l07Right.calls t195 t196 _ A15.out).mono ?_); rintro e w' ⟨rfl, ⟨nd, rfl⟩⟩; (try exact tD)) | (go_at_call 43; (with_reducible refine (spec_FpRoot.calls k1 t196 t197 true _ A16.out).mono ?_); rintro e w' ⟨rfl, ⟨nd, rfl⟩⟩; (try exact tD)) | (go_at_call 45; (with_reducible refine (spec_PointTimes.calls k1 12 t195 t197 false t199 t200 false _ A17.out).mono ?_); rintro e w32 ⟨rfl, hb⟩; replace HO193 := Aside0.mk (Kd.R_below (rP HO193) hb); replace BK187 := bB BK187 hb; replace HB := bS HB hb; (try clear hb)) | ((with_reducible refine gate_dst (N := 8) rfl ?_); refine bE 8 #[.int .i64 0, .int .i64 0, .bool false] 23 ?_; intro gb202 hg w33 hbox hb; replace HO193 := Aside0.mk (Kd.R_below (rP HO193) hb); have BK202 := Aside0.mk (hbox); have GW202 := bG HB hg; have GE202 := bG HB hg; replace HB := bS HB hb; have NB187_202 := bL BK187 hg; have NB202_187 := bR BK187 hg; replace BK187 := bB BK187 hb; clear hb hbox hg; have hnb34 := NB202_187.out; have hnc34 := NB187_202.out; obtain ⟨hcz35_0, hcz35_1, hcz35_2, hfz35_0, hfz35_1, hfz35_2⟩ := bK3 (w := w33) BK202; obtain ⟨hcz36_0, hcz36_1, hcz36_2, hfz36_0, hfz36_1, hfz36_2⟩ := bK3 (w := w33) BK187)))
           refine rC gb187 23 #[.int .i64 t199, .int .i64 t200, .bool false] (bU BK187) Tryd.underlying23 ?_
           exact ⟨rR, bZ HB⟩
         ·replace c18 := Bool.eq_false_iff.mpr c18
          subst c18
          rw [if_neg (show ¬ (false = true) by decide)] at H
          have H' := Aside0.mk H
          clear H
          go_wp2_with (first | ((with_reducible refine gate_dst (N := 15) rfl ?_); refine Kd.R_lit (Kd.int .u8) _ 5 ?hg (N := 15) ?hd (xs := ([(x3_1) % 256] : List Int)) (inner := [.int .u8 ((x3_1) % 256)]) (ok := fun _ => True) (okp := fun _ => True) ?hr ?hp (fun _ hk => hk) trivial (Below.refl _ _) (Nat.le_refl _) (by simp) ?_; (case hd => rfl); (case hg => rfl); (case hr => first | (go_simp; done) | (go_simp; rfl)); (case hp => exact (Reps.one (show Kd.M (Kd.int .u8) _ _ _ ((x3_1) % 256) [.int .u8 ((x3_1) % 256)] from rfl) (Reps.none _ _))); intro v192 w37 ho38 hb hg_ hnew_; clear hg_ hnew_; (first | rw [← Ny191.out] at ho38 | (simp only [Int.reduceToNat] at ho38; rw [← Ny191.out] at ho38)); have HO193 := Aside0.mk (Kd.R_lower ho38 (below_size (bZ HB))); replace BK187 := bB BK187 hb; replace HB := bS HB hb; clear hb ho38; have hcv39 := own_string (P := Tryd.prog) Tryd.underlying46 Tryd.underlying5 Tryd.underlying9 (Kd.own_of_R HO193.out)) | (go_at_call 41; (with_reducible refine (spec_Digest.calls ((strOfNums y191) ++ a0) t194 _ A5.out).mono ?_); rintro e w40 ⟨rfl, hb⟩; replace HO193 := Aside0.mk (Kd.R_below (rP HO193) hb); replace BK187 := bB BK187 hb; replace HB := bS HB hb; (try clear hb); have p7 : 0 ≤ (0 : Int) := (by omega); have q7 : 0 < t194.size := (by have : (0 : Int) < (t194.size : Int) := of_decide_eq_true (by first | (with_reducible assumption) | assumption); omega); have hx7 : ∀ h : 0 < t194.size, ((t194[0]'h).toNat : Int) = bt t194 0 := bt_at t194 0; clear p7; have qi7 : (0 < (t194.size : Int)) = True := eq_true (of_decide_eq_true (by first | (with_reducible assumption) | assumption)); replace q7 := eq_true q7; have p9 : 0 ≤ (1 : Int) := (by omega); have q9 : 1 < t194.size := (by have : (1 : Int) < (t194.size : Int) := of_decide_eq_true (by first | (with_reducible assumption) | assumption); omega); have hx9 : ∀ h : 1 < t194.size, ((t194[1]'h).toNat : Int) = bt t194 1 := bt_at t194 1; clear p9; have qi9 : (1 < (t194.size : Int)) = True := eq_true (of_decide_eq_true (by first | (with_reducible assumption) | assumption)); replace q9 := eq_true q9; have p11 : 0 ≤ (2 : Int) := (by omega); have q11 : 2 < t194.size := (by have : (2 : Int) < (t194.size : Int) := of_decide_eq_true (by first | (with_reducible assumption) | assumption); omega); have hx11 : ∀ h : 2 < t194.size, ((t194[2]'h).toNat : Int) = bt t194 2 := bt_at t194 2; clear p11; have qi11 : (2 < (t194.size : Int)) = True := eq_true (of_decide_eq_true (by first | (with_reducible assumption) | assumption)); replace q11 := eq_true q11; have p13 : 0 ≤ (3 : Int) := (by omega); have q13 : 3 < t194.size := (by have : (3 : Int) < (t194.size : Int) := of_decide_eq_true (by first | (with_reducible assumption) | assumption); omega); have hx13 : ∀ h : 3 < t194.size, ((t194[3]'h).toNat : Int) = bt t194 3 := bt_at t194 3; clear p13; have qi13 : (3 < (t194.size : Int)) = True := eq_true (of_decide_eq_true (by first | (with_reducible assumption) | assumption)); replace q13 := eq_true q13) | (go_at_call 42; (with_reducible refine (spec_FpOf.calls (Go.bits .or .i64 (Go.bits .or .i64 (Go.bits .or .i64 (wrap64 ((wrap64 (bt t194 0)) * 16777216)) (wrap64 ((wrap64 (bt t194 1)) * 65536))) (wrap64 ((wrap64 (bt t194 2)) * 256))) (wrap64 (bt t194 3))) t195 _ A14.out).mono ?_); rintro e w' ⟨rfl, ⟨nd, rfl⟩⟩; (try exact tD)) | (go_at_call 44; (with_reducible refine (spec_l07Right.calls t195 t196 _ A15.out).mono ?_); rintro e w' ⟨rfl, ⟨nd, rfl⟩⟩; (try exact tD)) | (go_at_call 43; (with_reducible refine (spec_FpRoot.calls k1 t196 t197 false _ A16.out).mono ?_); rintro e w' ⟨rfl, ⟨nd, rfl⟩⟩; (try exact tD)) | (go_at_call 45; (with_reducible refine (spec_PointTimes.calls k1 12 t195 t197 false t199 t200 t201 _ A17.out).mono ?_); rintro e w41 ⟨rfl, hb⟩; replace HO193 := Aside0.mk (Kd.R_below (rP HO193) hb); replace BK187 := bB BK187 hb; replace HB := bS HB hb; (try clear hb)) | ((with_reducible refine gate_dst (N := 8) rfl ?_); refine bE 8 #[.int .i64 0, .int .i64 0, .bool false] 23 ?_; intro gb202 hg w42 hbox hb; replace HO193 := Aside0.mk (Kd.R_below (rP HO193) hb); have BK202 := Aside0.mk (hbox); have GW202 := bG HB hg; have GE202 := bG HB hg; replace HB := bS HB hb; have NB187_202 := bL BK187 hg; have NB202_187 := bR BK187 hg; replace BK187 := bB BK187 hb; clear hb hbox hg; have hnb43 := NB202_187.out; have hnc43 := NB187_202.out; obtain ⟨hcz44_0, hcz44_1, hcz44_2, hfz44_0, hfz44_1, hfz44_2⟩ := bK3 (w := w42) BK202))
          repeat (go_quiet (first | ((with_reducible refine gate_dst (N := 15) rfl ?_); refine Kd.R_lit (Kd.int .u8) _ 5 ?hg (N := 15) ?hd (xs := ([(x3_1) % 256] : List Int)) (inner := [.int .u8 ((x3_1) % 256)]) (ok := fun _ => True) (okp := fun _ => True) ?hr ?hp (fun _ hk => hk) trivial (Below.refl _ _) (Nat.le_refl _) (by simp) ?_; (case hd => rfl); (case hg => rfl); (case hr => first | (go_simp; done) | (go_simp; rfl)); (case hp => exact (Reps.one (show Kd.M (Kd.int .u8) _ _ _ ((x3_1) % 256) [.int .u8 ((x3_1) % 256)] from rfl) (Reps.none _ _))); intro v192 w37 ho38 hb hg_ hnew_; clear hg_ hnew_; (first | rw [← Ny191.out] at ho38 | (simp only [Int.reduceToNat] at ho38; rw [← Ny191.out] at ho38)); have HO193 := Aside0.mk (Kd.R_lower ho38 (below_size (bZ HB))); replace BK187 := bB BK187 hb; replace HB := bS HB hb; clear hb ho38; have hcv39 := own_string (P := Tryd.prog) Tryd.underlying46 Tryd.underlying5 Tryd.underlying9 (Kd.own_of_R HO193.out)) | (go_at_call 41; (with_reducible refine (spec_Digest.calls ((strOfNums y191) ++ a0) t194 _ A5.out).mono ?_); rintro e w40 ⟨rfl, hb⟩; replace HO193 := Aside0.mk (Kd.R_below (rP HO193) hb); replace BK187 := bB BK187 hb; replace HB := bS HB hb; (try clear hb); have p7 : 0 ≤ (0 : Int) := (by omega); have q7 : 0 < t194.size := (by have : (0 : Int) < (t194.size : Int) := of_decide_eq_true (by first | (with_reducible assumption) | assumption); omega); have hx7 : ∀ h : 0 < t194.size, ((t194[0]'h).toNat : Int) = bt t194 0 := bt_at t194 0; clear p7; have qi7 : (0 < (t194.size : Int)) = True := eq_true (of_decide_eq_true (by first | (with_reducible assumption) | assumption)); replace q7 := eq_true q7; have p9 : 0 ≤ (1 : Int) := (by omega); have q9 : 1 < t194.size := (by have : (1 : Int) < (t194.size : Int) := of_decide_eq_true (by first | (with_reducible assumption) | assumption); omega); have hx9 : ∀ h : 1 < t194.size, ((t194[1]'h).toNat : Int) = bt t194 1 := bt_at t194 1; clear p9; have qi9 : (1 < (t194.size : Int)) = True := eq_true (of_decide_eq_true (by first | (with_reducible assumption) | assumption)); replace q9 := eq_true q9; have p11 : 0 ≤ (2 : Int) := (by omega); have q11 : 2 < t194.size := (by have : (2 : Int) < (t194.size : Int) := of_decide_eq_true (by first | (with_reducible assumption) | assumption); omega); have hx11 : ∀ h : 2 < t194.size, ((t194[2]'h).toNat : Int) = bt t194 2 := bt_at t194 2; clear p11; have qi11 : (2 < (t194.size : Int)) = True := eq_true (of_decide_eq_true (by first | (with_reducible assumption) | assumption)); replace q11 := eq_true q11; have p13 : 0 ≤ (3 : Int) := (by omega); have q13 : 3 < t194.size := (by have : (3 : Int) < (t194.size : Int) := of_decide_eq_true (by first | (with_reducible assumption) | assumption); omega); have hx13 : ∀ h : 3 < t194.size, ((t194[3]'h).toNat : Int) = bt t194 3 := bt_at t194 3; clear p13; have qi13 : (3 < (t194.size : Int)) = True := eq_true (of_decide_eq_true (by first | (with_reducible assumption) | assumption)); replace q13 := eq_true q13) | (go_at_call 42; (with_reducible refine (spec_FpOf.calls (Go.bits .or .i64 (Go.bits .or .i64 (Go.bits .or .i64 (wrap64 ((wrap64 (bt t194 0)) * 16777216)) (wrap64 ((wrap64 (bt t194 1)) * 65536))) (wrap64 ((wrap64 (bt t194 2)) * 256))) (wrap64 (bt t194 3))) t195 _ A14.out).mono ?_); rintro e w' ⟨rfl, ⟨nd, rfl⟩⟩; (try exact tD)) | (go_at_call 44; (with_reducible refine (spec_l07Right.calls t195 t196 _ A15.out).mono ?_); rintro e w' ⟨rfl, ⟨nd, rfl⟩⟩; (try exact tD)) | (go_at_call 43; (with_reducible refine (spec_FpRoot.calls k1 t196 t197 false _ A16.out).mono ?_); rintro e w' ⟨rfl, ⟨nd, rfl⟩⟩; (try exact tD)) | (go_at_call 45; (with_reducible refine (spec_PointTimes.calls k1 12 t195 t197 false t199 t200 t201 _ A17.out).mono ?_); rintro e w41 ⟨rfl, hb⟩; replace HO193 := Aside0.mk (Kd.R_below (rP HO193) hb); replace BK187 := bB BK187 hb; replace HB := bS HB hb; (try clear hb)) | ((with_reducible refine gate_dst (N := 8) rfl ?_); refine bE 8 #[.int .i64 0, .int .i64 0, .bool false] 23 ?_; intro gb202 hg w42 hbox hb; replace HO193 := Aside0.mk (Kd.R_below (rP HO193) hb); have BK202 := Aside0.mk (hbox); have GW202 := bG HB hg; have GE202 := bG HB hg; replace HB := bS HB hb; have NB187_202 := bL BK187 hg; have NB202_187 := bR BK187 hg; replace BK187 := bB BK187 hb; clear hb hbox hg; have hnb43 := NB202_187.out; have hnc43 := NB187_202.out; obtain ⟨hcz44_0, hcz44_1, hcz44_2, hfz44_0, hfz44_1, hfz44_2⟩ := bK3 (w := w42) BK202)); try go_wp2_with (first | ((with_reducible refine gate_dst (N := 15) rfl ?_); refine Kd.R_lit (Kd.int .u8) _ 5 ?hg (N := 15) ?hd (xs := ([(x3_1) % 256] : List Int)) (inner := [.int .u8 ((x3_1) % 256)]) (ok := fun _ => True) (okp := fun _ => True) ?hr ?hp (fun _ hk => hk) trivial (Below.refl _ _) (Nat.le_refl _) (by simp) ?_; (case hd => rfl); (case hg => rfl); (case hr => first | (go_simp; done) | (go_simp; rfl)); (case hp => exact (Reps.one (show Kd.M (Kd.int .u8) _ _ _ ((x3_1) % 256) [.int .u8 ((x3_1) % 256)] from rfl) (Reps.none _ _))); intro v192 w37 ho38 hb hg_ hnew_; clear hg_ hnew_; (first | rw [← Ny191.out] at ho38 | (simp only [Int.reduceToNat] at ho38; rw [← Ny191.out] at ho38)); have HO193 := Aside0.mk (Kd.R_lower ho38 (below_size (bZ HB))); replace BK187 := bB BK187 hb; replace HB := bS HB hb; clear hb ho38; have hcv39 := own_string (P := Tryd.prog) Tryd.underlying46 Tryd.underlying5 Tryd.underlying9 (Kd.own_of_R HO193.out)) | (go_at_call 41; (with_reducible refine (spec_Digest.calls ((strOfNums y191) ++ a0) t194 _ A5.out).mono ?_); rintro e w40 ⟨rfl, hb⟩; replace HO193 := Aside0.mk (Kd.R_below (rP HO193) hb); replace BK187 := bB BK187 hb; replace HB := bS HB hb; (try clear hb); have p7 : 0 ≤ (0 : Int) := (by omega); have q7 : 0 < t194.size := (by have : (0 : Int) < (t194.size : Int) := of_decide_eq_true (by first | (with_reducible assumption) | assumption); omega); have hx7 : ∀ h : 0 < t194.size, ((t194[0]'h).toNat : Int) = bt t194 0 := bt_at t194 0; clear p7; have qi7 : (0 < (t194.size : Int)) = True := eq_true (of_decide_eq_true (by first | (with_reducible assumption) | assumption)); replace q7 := eq_true q7; have p9 : 0 ≤ (1 : Int) := (by omega); have q9 : 1 < t194.size := (by have : (1 : Int) < (t194.size : Int) := of_decide_eq_true (by first | (with_reducible assumption) | assumption); omega); have hx9 : ∀ h : 1 < t194.size, ((t194[1]'h).toNat : Int) = bt t194 1 := bt_at t194 1; clear p9; have qi9 : (1 < (t194.size : Int)) = True := eq_true (of_decide_eq_true (by first | (with_reducible assumption) | assumption)); replace q9 := eq_true q9; have p11 : 0 ≤ (2 : Int) := (by omega); have q11 : 2 < t194.size := (by have : (2 : Int) < (t194.size : Int) := of_decide_eq_true (by first | (with_reducible assumption) | assumption); omega); have hx11 : ∀ h : 2 < t194.size, ((t194[2]'h).toNat : Int) = bt t194 2 := bt_at t194 2; clear p11; have qi11 : (2 < (t194.size : Int)) = True := eq_true (of_decide_eq_true (by first | (with_reducible assumption) | assumption)); replace q11 := eq_true q11; have p13 : 0 ≤ (3 : Int) := (by omega); have q13 : 3 < t194.size := (by have : (3 : Int) < (t194.size : Int) := of_decide_eq_true (by first | (with_reducible assumption) | assumption); omega); have hx13 : ∀ h : 3 < t194.size, ((t194[3]'h).toNat : Int) = bt t194 3 := bt_at t194 3; clear p13; have qi13 : (3 < (t194.size : Int)) = True := eq_true (of_decide_eq_true (by first | (with_reducible assumption) | assumption)); replace q13 := eq_true q13) | (go_at_call 42; (with_reducible refine (spec_FpOf.calls (Go.bits .or .i64 (Go.bits .or .i64 (Go.bits .or .i64 (wrap64 ((wrap64 (bt t194 0)) * 16777216)) (wrap64 ((wrap64 (bt t194 1)) * 65536))) (wrap64 ((wrap64 (bt t194 2)) * 256))) (wrap64 (bt t194 3))) t195 _ A14.out).mono ?_); rintro e w' ⟨rfl, ⟨nd, rfl⟩⟩; (try exact tD)) | (go_at_call 44; (with_reducible refine (spec_l07Right.calls t195 t196 _ A15.out).mono ?_); rintro e w' ⟨rfl, ⟨nd, rfl⟩⟩; (try exact tD)) | (go_at_call 43; (with_reducible refine (spec_FpRoot.calls k1 t196 t197 false _ A16.out).mono ?_); rintro e w' ⟨rfl, ⟨nd, rfl⟩⟩; (try exact tD)) | (go_at_call 45; (with_reducible refine (spec_PointTimes.calls k1 12 t195 t197 false t199 t200 t201 _ A17.out).mono ?_); rintro e w41 ⟨rfl, hb⟩; replace HO193 := Aside0.mk (Kd.R_below (rP HO193) hb); replace BK187 := bB BK187 hb; replace HB := bS HB hb; (try clear hb)) | ((with_reducible refine gate_dst (N := 8) rfl ?_); refine bE 8 #[.int .i64 0, .int .i64 0, .bool false] 23 ?_; intro gb202 hg w42 hbox hb; replace HO193 := Aside0.mk (Kd.R_below (rP HO193) hb); have BK202 := Aside0.mk (hbox); have GW202 := bG HB hg; have GE202 := bG HB hg; replace HB := bS HB hb; have NB187_202 := bL BK187 hg; have NB202_187 := bR BK187 hg; replace BK187 := bB BK187 hb; clear hb hbox hg; have hnb43 := NB202_187.out; have hnc43 := NB187_202.out; obtain ⟨hcz44_0, hcz44_1, hcz44_2, hfz44_0, hfz44_1, hfz44_2⟩ := bK3 (w := w42) BK202)))
          go_roundg k1
          case measure => have := HK1.out; omega
          case rel => exact ⟨(wrap64 (x3_1 + 1)), (x188000_1), (x188001_1), (x188002_1), rS, H', ⟨by have := HK1.out; omega⟩, ⟨bP BK187⟩, ⟨bZ HB⟩⟩
        ·rw [if_neg c12] at H
         exact absurd H (by simp)
       ·rw [if_neg c10] at H
        exact absurd H (by simp)
      ·rw [if_neg c8] at H
       exact absurd H (by simp)
     ·rw [if_neg c6] at H
      exact absurd H (by simp)
    ·rw [if_neg c4] at H
     exact absurd H (by simp)
   ·rw [if_neg c3] at H
    have c3b0 : decide (x3_1 < 64) = false := decide_eq_false c3
    clear c3
    replace H := Option.bind_eq_some_iff.mp H
    obtain ⟨⟨t188, t189, t190⟩, A450, H⟩ := H
    have A45 := Aside0.mk A450
    clear A450
    simp only [Option.some.injEq, Prod.mk.injEq] at H
    obtain ⟨rfl, rfl, rfl⟩ := H
    go_wp2_with (first | (go_at_call 46; (with_reducible refine (spec_Base.calls  t188 t189 t190 _ A45.out).mono ?_); rintro e w46 ⟨rfl, hb⟩; replace BK187 := bB BK187 hb; replace HB := bS HB hb; (try clear hb); obtain ⟨hcz47_0, hcz47_1, hcz47_2, hfz47_0, hfz47_1, hfz47_2⟩ := bK3 (w := w46) BK187))
    repeat (go_quiet (first | (go_at_call 46; (with_reducible refine (spec_Base.calls  t188 t189 t190 _ A45.out).mono ?_); rintro e w46 ⟨rfl, hb⟩; replace BK187 := bB BK187 hb; replace HB := bS HB hb; (try clear hb); obtain ⟨hcz47_0, hcz47_1, hcz47_2, hfz47_0, hfz47_1, hfz47_2⟩ := bK3 (w := w46) BK187)); try go_wp2_with (first | (go_at_call 46; (with_reducible refine (spec_Base.calls  t188 t189 t190 _ A45.out).mono ?_); rintro e w46 ⟨rfl, hb⟩; replace BK187 := bB BK187 hb; replace HB := bS HB hb; (try clear hb); obtain ⟨hcz47_0, hcz47_1, hcz47_2, hfz47_0, hfz47_1, hfz47_2⟩ := bK3 (w := w46) BK187)))
    refine rC gb187 23 #[.int .i64 t188, .int .i64 t189, .bool t190] (bU BK187) Tryd.underlying23 ?_
    exact ⟨rR, bZ HB⟩
/-! ### spec_InGroup: function 65 -/
def spec_InGroup.f (k : Nat) (a0_0 : Int) (a0_1 : Int) (a0_2 : Bool) : Option (Bool) := (spec_PointOk.f a0_0 a0_1 a0_2).bind fun t377 => (if t377 = true then ((spec_PointTimes.f k 1009 a0_0 a0_1 a0_2).bind fun bt378 => (some bt378.2.2)) else (some false))
theorem spec_InGroup.mono : ∀ a0 a1 a2 k, LeO (spec_InGroup.f k a0 a1 a2) (spec_InGroup.f (k + 1) a0 a1 a2) := by
 intro a0 a1 a2 k
 unfold spec_InGroup.f
 repeat' first
   | (with_reducible exact spec_PointTimes.mono _ _ _ _ _)
   | (with_reducible exact LeO.refl _)
   | (with_reducible exact LeO.none _)
   | (with_reducible refine LeO.ite ?_ ?_)
   | (with_reducible refine LeO.bind ?_ (fun _ => ?_))
   | exact spec_PointTimes.mono _ _ _ _ _
   | exact LeO.none _
   | refine LeO.ite ?_ ?_
   | refine LeO.bind ?_ (fun _ => ?_)
set_option maxHeartbeats 8000000 in
set_option maxRecDepth 100000 in
theorem spec_InGroup.calls (k : Nat) (a0_0 : Int) (a0_1 : Int) (a0_2 : Bool) (r : Bool) (w : World) (h : spec_InGroup.f k a0_0 a0_1 a0_2 = some r) :
  Calls Tryd.prog 65 #[.agg #[.int .i64 a0_0, .int .i64 a0_1, .bool a0_2]] w fun e w' => e = .returned (.bool r) ∧ Below w.heap.size w w' := by
 have hu23 := Tryd.underlying23
 have hfd23_0 : ∀ (x0 : Int) (x1 : Int) (x2 : Bool) (w_ : World), (Instr.field 23 (.agg #[.int .i64 x0, .int .i64 x1, .bool x2]) 0).run Tryd.prog w_ = .ok (.int .i64 x0) w_ := fun _ _ _ _ => by kernel_rfl
 have hfd23_1 : ∀ (x0 : Int) (x1 : Int) (x2 : Bool) (w_ : World), (Instr.field 23 (.agg #[.int .i64 x0, .int .i64 x1, .bool x2]) 1).run Tryd.prog w_ = .ok (.int .i64 x1) w_ := fun _ _ _ _ => by kernel_rfl
 have hfd23_2 : ∀ (x0 : Int) (x1 : Int) (x2 : Bool) (w_ : World), (Instr.field 23 (.agg #[.int .i64 x0, .int .i64 x1, .bool x2]) 2).run Tryd.prog w_ = .ok (.bool x2) w_ := fun _ _ _ _ => by kernel_rfl
 have HB := Aside0.mk (Below.refl w.heap.size w)
 have H : ((spec_PointOk.f a0_0 a0_1 a0_2).bind fun t377 => (if t377 = true then ((spec_PointTimes.f k 1009 a0_0 a0_1 a0_2).bind fun bt378 => (some bt378.2.2)) else (some false))) = some r := h
 clear h
 replace H := Option.bind_eq_some_iff.mp H
 obtain ⟨t377, A20, H⟩ := H
 have A2 := Aside0.mk A20
 clear A20
 by_cases c3 : t377 = true
 ·subst c3
  rw [if_pos rfl] at H
  replace H := Option.bind_eq_some_iff.mp H
  obtain ⟨⟨t378, t379, t380⟩, A40, H⟩ := H
  have A4 := Aside0.mk A40
  clear A40
  obtain rfl := Option.some.inj H
  go_enter Tryd.func65, Tryd.ntmps65
  go_wp2_with (first | ((with_reducible refine gate_dst (N := 1) rfl ?_); refine bE 1 #[.int .i64 a0_0, .int .i64 a0_1, .bool a0_2] 23 ?_; intro gb376 hg w5 hbox hb; have BK376 := Aside0.mk (hbox); have GW376 := bG HB hg; have GE376 := bG HB hg; replace HB := bS HB hb; clear hb hbox hg; obtain ⟨hcz6_0, hcz6_1, hcz6_2, hfz6_0, hfz6_1, hfz6_2⟩ := bK3 (w := w5) BK376) | ((with_reducible refine gate_callee (f := 87) rfl ?_); refine gL (some 4) Tryd.func87 #[.agg #[.int .i64 a0_0, .int .i64 a0_1, .bool a0_2]] ?_; (with_reducible refine (spec_PointOk.calls a0_0 a0_1 a0_2 true _ A2.out).mono ?_); rintro e w7 ⟨rfl, hb⟩; refine ⟨_, rfl, ?_⟩; replace BK376 := bB BK376 hb; replace HB := bS HB hb; (try clear hb); obtain ⟨hcz8_0, hcz8_1, hcz8_2, hfz8_0, hfz8_1, hfz8_2⟩ := bK3 (w := w7) BK376) | (go_at_call 45; (with_reducible refine (spec_PointTimes.calls k 1009 a0_0 a0_1 a0_2 t378 t379 t380 _ A4.out).mono ?_); rintro e w9 ⟨rfl, hb⟩; replace BK376 := bB BK376 hb; replace HB := bS HB hb; (try clear hb)))
  go_ret
  exact ⟨rR, bZ HB⟩
 ·replace c3 := Bool.eq_false_iff.mpr c3
  subst c3
  rw [if_neg (show ¬ (false = true) by decide)] at H
  obtain rfl := Option.some.inj H
  go_enter Tryd.func65, Tryd.ntmps65
  go_wp2_with (first | ((with_reducible refine gate_dst (N := 1) rfl ?_); refine bE 1 #[.int .i64 a0_0, .int .i64 a0_1, .bool a0_2] 23 ?_; intro gb376 hg w10 hbox hb; have BK376 := Aside0.mk (hbox); have GW376 := bG HB hg; have GE376 := bG HB hg; replace HB := bS HB hb; clear hb hbox hg; obtain ⟨hcz11_0, hcz11_1, hcz11_2, hfz11_0, hfz11_1, hfz11_2⟩ := bK3 (w := w10) BK376) | ((with_reducible refine gate_callee (f := 87) rfl ?_); refine gL (some 4) Tryd.func87 #[.agg #[.int .i64 a0_0, .int .i64 a0_1, .bool a0_2]] ?_; (with_reducible refine (spec_PointOk.calls a0_0 a0_1 a0_2 false _ A2.out).mono ?_); rintro e w12 ⟨rfl, hb⟩; refine ⟨_, rfl, ?_⟩; replace BK376 := bB BK376 hb; replace HB := bS HB hb; (try clear hb)))
  go_ret
  exact ⟨rR, bZ HB⟩
/-! ### spec_TwoMul: function 104 -/
def spec_TwoMul.f (a0_0 : Int) (a0_1 : Int) (a1_0 : Int) (a1_1 : Int) : Option (Int × Int) := (spec_FpMul.f a0_0 a1_0).bind fun t506 => ((spec_FpMul.f a0_1 a1_1).bind fun t507 => ((spec_FpSub.f t506 t507).bind fun t508 => ((spec_FpMul.f a0_0 a1_1).bind fun t509 => ((spec_FpMul.f a0_1 a1_0).bind fun t510 => ((spec_FpAdd.f t509 t510).bind fun t511 => (some (t508, t511)))))))
def spec_TwoMul.T1 : Bool × List (List Nat × List Nat) := (true, [([], []), ([0], [0]), ([], []), ([2], [2]), ([1, 3], [1, 3]), ([], []), ([5], [5]), ([], []), ([7], [7]), ([6, 8, 4], [6, 8]), ([4, 9, 9], [4, 9]), ([], []), ([11], [11]), ([], []), ([13], [13]), ([12, 14, 10], [12, 14]), ([], []), ([16], [16]), ([], []), ([18], [18]), ([17, 19, 15], [17, 19]), ([15, 20, 20], [15, 20]), ([10, 21], [10, 21]), ([22, 21, 0, 1, 2, 3, 4, 5, 6, 7, 8, 9, 10, 11, 12, 13, 14, 15, 16, 17, 18, 19, 20, 21, 22], [22])])
def spec_TwoMul.B1 : List Nat := [0, 1, 0, 4, 15, 0, 32, 0, 128, 511, 1023, 0, 2048, 0, 8192, 32767, 0, 65536, 0, 262144, 1048575, 2097151, 4194303, 8388607]
theorem spec_TwoMul.tab1 : rtab .any (opsOf Tryd.f104 1) = spec_TwoMul.T1 := by kernel_rfl
theorem spec_TwoMul.bits1 : waitsOk spec_TwoMul.T1.2 spec_TwoMul.B1 = true := by kernel_rfl
set_option maxHeartbeats 8000000 in
set_option maxRecDepth 100000 in
theorem spec_TwoMul.calls (a0_0 : Int) (a0_1 : Int) (a1_0 : Int) (a1_1 : Int) (r1 : Int) (r2 : Int) (w : World) (h : spec_TwoMul.f a0_0 a0_1 a1_0 a1_1 = some (r1, r2)) :
  Calls Tryd.prog 104 #[.agg #[.int .i64 a0_0, .int .i64 a0_1], .agg #[.int .i64 a1_0, .int .i64 a1_1]] w fun e w' => e = .returned (.agg #[.int .i64 r1, .int .i64 r2]) ∧ Below w.heap.size w w' := by
 have hu80 := Tryd.underlying80
 have HB := Aside0.mk (Below.refl w.heap.size w)
 have H : ((spec_FpMul.f a0_0 a1_0).bind fun t506 => ((spec_FpMul.f a0_1 a1_1).bind fun t507 => ((spec_FpSub.f t506 t507).bind fun t508 => ((spec_FpMul.f a0_0 a1_1).bind fun t509 => ((spec_FpMul.f a0_1 a1_0).bind fun t510 => ((spec_FpAdd.f t509 t510).bind fun t511 => (some (t508, t511)))))))) = some (r1, r2) := h
 clear h
 replace H := Option.bind_eq_some_iff.mp H
 obtain ⟨t506, A30, H⟩ := H
 have A3 := Aside0.mk A30
 clear A30
 replace H := Option.bind_eq_some_iff.mp H
 obtain ⟨t507, A40, H⟩ := H
 have A4 := Aside0.mk A40
 clear A40
 replace H := Option.bind_eq_some_iff.mp H
 obtain ⟨t508, A50, H⟩ := H
 have A5 := Aside0.mk A50
 clear A50
 replace H := Option.bind_eq_some_iff.mp H
 obtain ⟨t509, A60, H⟩ := H
 have A6 := Aside0.mk A60
 clear A60
 replace H := Option.bind_eq_some_iff.mp H
 obtain ⟨t510, A70, H⟩ := H
 have A7 := Aside0.mk A70
 clear A70
 replace H := Option.bind_eq_some_iff.mp H
 obtain ⟨t511, A80, H⟩ := H
 have A8 := Aside0.mk A80
 clear A80
 simp only [Option.some.injEq, Prod.mk.injEq] at H
 obtain ⟨rfl, rfl⟩ := H
 go_enter Tryd.func104, Tryd.ntmps104
 try go_wp2_with (first | ((with_reducible refine gate_dst (N := 2) rfl ?_); refine bE 2 #[.int .i64 a0_0, .int .i64 a0_1] 80 ?_; intro gb503 hg w9 hbox hb; have BK503 := Aside0.mk (hbox); have GW503 := bG HB hg; have GE503 := bG HB hg; replace HB := bS HB hb; clear hb hbox hg) | ((with_reducible refine gate_dst (N := 3) rfl ?_); refine bE 3 #[.int .i64 a1_0, .int .i64 a1_1] 80 ?_; intro gb504 hg w10 hbox hb; have BK504 := Aside0.mk (hbox); have GW504 := bG HB hg; have GE504 := bG HB hg; replace HB := bS HB hb; have NB503_504 := bL BK503 hg; have NB504_503 := bR BK503 hg; replace BK503 := bB BK503 hb; clear hb hbox hg) | ((with_reducible refine gate_dst (N := 4) rfl ?_); refine bE 4 #[.int .i64 0, .int .i64 0] 80 ?_; intro gb505 hg w11 hbox hb; have BK505 := Aside0.mk (hbox); have GW505 := bG HB hg; have GE505 := bG HB hg; replace HB := bS HB hb; have NB503_505 := bL BK503 hg; have NB505_503 := bR BK503 hg; replace BK503 := bB BK503 hb; have NB504_505 := bL BK504 hg; have NB505_504 := bR BK504 hg; replace BK504 := bB BK504 hb; clear hb hbox hg))
 replace BK503 := Aside0.mk (blk_drew BK503.out)
 replace BK504 := Aside0.mk (blk_drew BK504.out)
 replace BK505 := Aside0.mk (blk_drew BK505.out)
 replace HB := Aside0.mk (below_drew1 HB.out)
 refine start_ (n := 24) (S := fun w' => w'.cell? ⟨gb503, 0, none⟩ = some (.int .i64 a0_0) ∧ w'.cell? ⟨gb503, 1, none⟩ = some (.int .i64 a0_1) ∧ w'.cell? ⟨gb504, 0, none⟩ = some (.int .i64 a1_0) ∧ w'.cell? ⟨gb504, 1, none⟩ = some (.int .i64 a1_1)) (ds := []) #[false, false, false, false, false, false, false, false, false, false, false, false, false, false, false, false, false, false, false, false, false, false, false, false] (by kernel_rfl) rfl rfl ⟨bc BK503 0, bc BK503 1, bc BK504 0, bc BK504 1⟩ (fun hHeld => ?_); refine with_tabW spec_TwoMul.tab1 spec_TwoMul.bits1 (fun HT_ HW_ => ?_)
 generalize w11.drew = w12 at BK503 BK504 BK505 HB hHeld ⊢
 refine pI 0 (some 5) HT_.out ?_
 refine pI 2 (some 7) HT_.out ?_
 refine pI 5 (some 10) HT_.out ?_
 refine pI 7 (some 12) HT_.out ?_
 refine pI 11 (some 16) HT_.out ?_
 refine pI 13 (some 18) HT_.out ?_
 refine pI 16 (some 21) HT_.out ?_
 refine pI 18 (some 23) HT_.out ?_
 refine tI4 1 (some 6) HT_.out HW_.out hHeld ?_
 refine tI4 3 (some 8) HT_.out HW_.out hHeld ?_
 refine tI4 6 (some 11) HT_.out HW_.out hHeld ?_
 refine tI4 8 (some 13) HT_.out HW_.out hHeld ?_
 refine tI4 12 (some 17) HT_.out HW_.out hHeld ?_
 refine tI4 14 (some 19) HT_.out HW_.out hHeld ?_
 refine tI4 17 (some 22) HT_.out HW_.out hHeld ?_
 refine tI4 19 (some 24) HT_.out HW_.out hHeld ?_
 refine oI 4 (some 9) HT_.out (fun K hK => ?_)
 refine gO Tryd.func84 #[.int .i64 a0_0, .int .i64 a1_0] ?_
 with_reducible refine (spec_FpMul.calls a0_0 a1_0 t506 _ A3.out).mono ?_
 rintro e w' ⟨rfl, ⟨nd, rfl⟩⟩
 refine ⟨_, rfl, ?_⟩
 refine hK.out _ _ ⟨bc BK503 0, bc BK503 1, bc BK504 0, bc BK504 1⟩ (fun hHeld => ?_)
 clear hK K
 refine nO (some 9) ?_
 refine oI 9 (some 14) HT_.out (fun K hK => ?_)
 refine gO Tryd.func84 #[.int .i64 a0_1, .int .i64 a1_1] ?_
 with_reducible refine (spec_FpMul.calls a0_1 a1_1 t507 _ A4.out).mono ?_
 rintro e w' ⟨rfl, ⟨nd, rfl⟩⟩
 refine ⟨_, rfl, ?_⟩
 refine hK.out _ _ ⟨bc BK503 0, bc BK503 1, bc BK504 0, bc BK504 1⟩ (fun hHeld => ?_)
 clear hK K
 refine nO (some 14) ?_
 refine oI 10 (some 15) HT_.out (fun K hK => ?_)
 refine gO Tryd.func85 #[.int .i64 t506, .int .i64 t507] ?_
 with_reducible refine (spec_FpSub.calls t506 t507 t508 _ A5.out).mono ?_
 rintro e w' ⟨rfl, ⟨nd, rfl⟩⟩
 refine ⟨_, rfl, ?_⟩
 refine hK.out _ _ ⟨bc BK503 0, bc BK503 1, bc BK504 0, bc BK504 1⟩ (fun hHeld => ?_)
 clear hK K
 refine nO (some 15) ?_
 refine oI 15 (some 20) HT_.out (fun K hK => ?_)
 refine gO Tryd.func84 #[.int .i64 a0_0, .int .i64 a1_1] ?_
 with_reducible refine (spec_FpMul.calls a0_0 a1_1 t509 _ A6.out).mono ?_
 rintro e w' ⟨rfl, ⟨nd, rfl⟩⟩
 refine ⟨_, rfl, ?_⟩
 refine hK.out _ _ ⟨bc BK503 0, bc BK503 1, bc BK504 0, bc BK504 1⟩ (fun hHeld => ?_)
 clear hK K
 refine nO (some 20) ?_
 refine oI 20 (some 25) HT_.out (fun K hK => ?_)
 refine gO Tryd.func84 #[.int .i64 a0_1, .int .i64 a1_0] ?_
 with_reducible refine (spec_FpMul.calls a0_1 a1_0 t510 _ A7.out).mono ?_
 rintro e w' ⟨rfl, ⟨nd, rfl⟩⟩
 refine ⟨_, rfl, ?_⟩
 refine hK.out _ _ ⟨bc BK503 0, bc BK503 1, bc BK504 0, bc BK504 1⟩ (fun hHeld => ?_)
 clear hK K
 refine nO (some 25) ?_
 refine oI 21 (some 26) HT_.out (fun K hK => ?_)
 refine gO Tryd.func86 #[.int .i64 t509, .int .i64 t510] ?_
 with_reducible refine (spec_FpAdd.calls t509 t510 t511 _ A8.out).mono ?_
 rintro e w' ⟨rfl, ⟨nd, rfl⟩⟩
 refine ⟨_, rfl, ?_⟩
 refine hK.out _ _ ⟨bc BK503 0, bc BK503 1, bc BK504 0, bc BK504 1⟩ (fun hHeld => ?_)
 clear hK K
 refine nO (some 26) ?_
 refine pI 22 (some 27) HT_.out ?_
 refine oI 23 (none) HT_.out (fun K hK => ?_)
 have hs13 : w12.cell? ⟨gb505, 0, none⟩ = some (.int .i64 0) := bc BK505 0
 have hfs13 := blk_frozen BK505.out 0
 have hns13_0 := NB503_505.out
 have hns13_1 := NB504_505.out
 have hms13_0 := NB505_503.out
 have hms13_1 := NB505_504.out
 have hs14 : w12.cell? ⟨gb505, 1, none⟩ = some (.int .i64 0) := bc BK505 1
 have hfs14 := blk_frozen BK505.out 1
 have hns14_0 := NB503_505.out
 have hns14_1 := NB504_505.out
 have hms14_0 := NB505_503.out
 have hms14_1 := NB505_504.out
 refine skip_ (w1 := ?_) (by rfl) rfl ?_ ?_
 rotate_left
 ·go_simp
  rfl
 refine hK.out _ _ ⟨((cell_far (p := ⟨gb505, _, none⟩) NB503_505.out _).trans (((cell_far (p := ⟨gb505, _, none⟩) NB503_505.out _).trans (hHeld.1)))), ((cell_far (p := ⟨gb505, _, none⟩) NB503_505.out _).trans (((cell_far (p := ⟨gb505, _, none⟩) NB503_505.out _).trans (hHeld.2.1)))), ((cell_far (p := ⟨gb505, _, none⟩) NB504_505.out _).trans (((cell_far (p := ⟨gb505, _, none⟩) NB504_505.out _).trans (hHeld.2.2.1)))), ((cell_far (p := ⟨gb505, _, none⟩) NB504_505.out _).trans (((cell_far (p := ⟨gb505, _, none⟩) NB504_505.out _).trans (hHeld.2.2.2))))⟩ (fun hHeld => ?_)
 clear hK K
 refine done_ (done_of HT_.out (by kernel_rfl)) ?_
 try go_wp2
 refine rC gb505 80 #[.int .i64 t508, .int .i64 t511] (bU BK505) Tryd.underlying80 ?_
 exact ⟨rR, bZ HB⟩
/-! ### spec_PointAdd: function 115 -/
def spec_PointAdd.j0 : Nat → Bool → Int → Int → Bool → Int → Int → Bool → Option (Int × Int × Bool)
 | 0, _, _, _, _, _, _, _ => none
 | k + 1, x12, x513000, x513001, x513002, x514000, x514001, x514002 => if x12 = true then ((spec_l07Zero.f).bind fun bt517 => (some (bt517.1, bt517.2.1, bt517.2.2))) else ((spec_l07Add.f k x513000 x513001 x513002 x514000 x514001 x514002).bind fun bt520 => (some (bt520.1, bt520.2.1, bt520.2.2)))
def spec_PointAdd.f (k : Nat) (a0_0 : Int) (a0_1 : Int) (a0_2 : Bool) (a1_0 : Int) (a1_1 : Int) (a1_2 : Bool) : Option (Int × Int × Bool) := (spec_PointOk.f a0_0 a0_1 a0_2).bind fun t515 => (if t515 = true then ((spec_PointOk.f a1_0 a1_1 a1_2).bind fun t516 => (spec_PointAdd.j0 k (!t516) a0_0 a0_1 a0_2 a1_0 a1_1 a1_2)) else (spec_PointAdd.j0 k true a0_0 a0_1 a0_2 a1_0 a1_1 a1_2))
theorem spec_PointAdd.mono_l : ∀ k, (∀ y0 y1 y2 y3 y4 y5 y6, LeO (spec_PointAdd.j0 k y0 y1 y2 y3 y4 y5 y6) (spec_PointAdd.j0 (k + 1) y0 y1 y2 y3 y4 y5 y6))
 | 0 => fun _ _ _ _ _ _ _ r h => by simp [spec_PointAdd.j0] at h
 | k + 1 => by
  have ih0 := spec_PointAdd.mono_l k
  ·intro y0 y1 y2 y3 y4 y5 y6
   unfold spec_PointAdd.j0
   repeat' first
   | (with_reducible exact ih0 _ _ _ _ _ _ _)
   | (with_reducible exact spec_l07Add.mono _ _ _ _ _ _ _)
   | (with_reducible exact LeO.refl _)
   | (with_reducible exact LeO.none _)
   | (with_reducible refine LeO.ite ?_ ?_)
   | (with_reducible refine LeO.bind ?_ (fun _ => ?_))
   | exact ih0 _ _ _ _ _ _ _
   | exact spec_l07Add.mono _ _ _ _ _ _ _
   | exact LeO.none _
   | refine LeO.ite ?_ ?_
   | refine LeO.bind ?_ (fun _ => ?_)
theorem spec_PointAdd.mono : ∀ a0 a1 a2 a3 a4 a5 k, LeO (spec_PointAdd.f k a0 a1 a2 a3 a4 a5) (spec_PointAdd.f (k + 1) a0 a1 a2 a3 a4 a5) := by
 intro a0 a1 a2 a3 a4 a5 k
 have ih0 := spec_PointAdd.mono_l k
 unfold spec_PointAdd.f
 repeat' first
   | (with_reducible exact ih0 _ _ _ _ _ _ _)
   | (with_reducible exact spec_l07Add.mono _ _ _ _ _ _ _)
   | (with_reducible exact LeO.refl _)
   | (with_reducible exact LeO.none _)
   | (with_reducible refine LeO.ite ?_ ?_)
   | (with_reducible refine LeO.bind ?_ (fun _ => ?_))
   | exact ih0 _ _ _ _ _ _ _
   | exact spec_l07Add.mono _ _ _ _ _ _ _
   | exact LeO.none _
   | refine LeO.ite ?_ ?_
   | refine LeO.bind ?_ (fun _ => ?_)
set_option maxHeartbeats 8000000 in
set_option maxRecDepth 100000 in
theorem spec_PointAdd.calls (k : Nat) (a0_0 : Int) (a0_1 : Int) (a0_2 : Bool) (a1_0 : Int) (a1_1 : Int) (a1_2 : Bool) (r1 : Int) (r2 : Int) (r3 : Bool) (w : World) (h : spec_PointAdd.f k a0_0 a0_1 a0_2 a1_0 a1_1 a1_2 = some (r1, r2, r3)) :
  Calls Tryd.prog 115 #[.agg #[.int .i64 a0_0, .int .i64 a0_1, .bool a0_2], .agg #[.int .i64 a1_0, .int .i64 a1_1, .bool a1_2]] w fun e w' => e = .returned (.agg #[.int .i64 r1, .int .i64 r2, .bool r3]) ∧ Below w.heap.size w w' := by
 have hu23 := Tryd.underlying23
 have HB := Aside0.mk (Below.refl w.heap.size w)
 have H : ((spec_PointOk.f a0_0 a0_1 a0_2).bind fun t515 => (if t515 = true then ((spec_PointOk.f a1_0 a1_1 a1_2).bind fun t516 => (spec_PointAdd.j0 k (!t516) a0_0 a0_1 a0_2 a1_0 a1_1 a1_2)) else (spec_PointAdd.j0 k true a0_0 a0_1 a0_2 a1_0 a1_1 a1_2))) = some (r1, r2, r3) := h
 clear h
 have HC3 := Aside0.mk H
 clear H
 go_enter Tryd.func115, Tryd.ntmps115
 go_upto_region 1 with (first | ((with_reducible refine gate_dst (N := 2) rfl ?_); refine bE 2 #[.int .i64 a0_0, .int .i64 a0_1, .bool a0_2] 23 ?_; intro gb512 hg w4 hbox hb; have BK512 := Aside0.mk (hbox); have GW512 := bG HB hg; have GE512 := bG HB hg; replace HB := bS HB hb; clear hb hbox hg) | ((with_reducible refine gate_dst (N := 3) rfl ?_); refine bE 3 #[.int .i64 a1_0, .int .i64 a1_1, .bool a1_2] 23 ?_; intro gb513 hg w5 hbox hb; have BK513 := Aside0.mk (hbox); have GW513 := bG HB hg; have GE513 := bG HB hg; replace HB := bS HB hb; have NB512_513 := bL BK512 hg; have NB513_512 := bR BK512 hg; replace BK512 := bB BK512 hb; clear hb hbox hg) | ((with_reducible refine gate_dst (N := 4) rfl ?_); refine bE 4 #[.int .i64 0, .int .i64 0, .bool false] 23 ?_; intro gb514 hg w6 hbox hb; have BK514 := Aside0.mk (hbox); have GW514 := bG HB hg; have GE514 := bG HB hg; replace HB := bS HB hb; have NB512_514 := bL BK512 hg; have NB514_512 := bR BK512 hg; replace BK512 := bB BK512 hb; have NB513_514 := bL BK513 hg; have NB514_513 := bR BK513 hg; replace BK513 := bB BK513 hb; clear hb hbox hg))
 (try simp only [Act.put, List.setIfInBounds_toArray, List.set_cons_zero, List.set_cons_succ])
 go_cut [12] (fun v12 wc => ∃ (kq : Nat) (x12_2 : Bool), v12 = .bool x12_2 ∧ Aside0 (spec_PointAdd.j0 kq x12_2 a0_0 a0_1 a0_2 a1_0 a1_1 a1_2 = some (r1, r2, r3)) ∧ Aside0 (kq ≤ k) ∧ Aside0 (wc.heap[gb512]? = some (.cells #[.int .i64 a0_0, .int .i64 a0_1, .bool a0_2] 23 (0, 0))) ∧ Aside0 (wc.heap[gb513]? = some (.cells #[.int .i64 a1_0, .int .i64 a1_1, .bool a1_2] 23 (0, 0))) ∧ Aside0 (wc.heap[gb514]? = some (.cells #[.int .i64 0, .int .i64 0, .bool false] 23 (0, 0))) ∧ Aside0 (Below w.heap.size w wc))
 case first =>
  have H := HC3.out
  clear HC3
  replace H := Option.bind_eq_some_iff.mp H
  obtain ⟨t515, A70, H⟩ := H
  have A7 := Aside0.mk A70
  clear A70
  by_cases c8 : t515 = true
  ·subst c8
   rw [if_pos rfl] at H
   replace H := Option.bind_eq_some_iff.mp H
   obtain ⟨t516, A90, H⟩ := H
   have A9 := Aside0.mk A90
   clear A90
   have H' := Aside0.mk H
   clear H
   have hnb10 := NB512_513.out
   have hnc10 := NB513_512.out
   have hnb11 := NB512_514.out
   have hnc11 := NB514_512.out
   obtain ⟨hcz12_0, hcz12_1, hcz12_2, hfz12_0, hfz12_1, hfz12_2⟩ := bK3 (w := w6) BK512
   go_wp2_with (first | ((with_reducible refine gate_callee (f := 87) rfl ?_); refine gL (some 6) Tryd.func87 #[.agg #[.int .i64 a0_0, .int .i64 a0_1, .bool a0_2]] ?_; (with_reducible refine (spec_PointOk.calls a0_0 a0_1 a0_2 true _ A7.out).mono ?_); rintro e w13 ⟨rfl, hb⟩; refine ⟨_, rfl, ?_⟩; replace BK512 := bB BK512 hb; replace BK513 := bB BK513 hb; replace BK514 := bB BK514 hb; replace HB := bS HB hb; (try clear hb); have hnb14 := NB513_514.out; have hnc14 := NB514_513.out; obtain ⟨hcz15_0, hcz15_1, hcz15_2, hfz15_0, hfz15_1, hfz15_2⟩ := bK3 (w := w13) BK513) | (go_at_call 87; (with_reducible refine (spec_PointOk.calls a1_0 a1_1 a1_2 t516 _ A9.out).mono ?_); rintro e w16 ⟨rfl, hb⟩; replace BK512 := bB BK512 hb; replace BK513 := bB BK513 hb; replace BK514 := bB BK514 hb; replace HB := bS HB hb; (try clear hb)))
   go_meet
   case rel => exact ⟨_, (!t516), rS, H', ⟨by first | omega | exact Nat.le_refl _⟩, ⟨bP BK512⟩, ⟨bP BK513⟩, ⟨bP BK514⟩, ⟨bZ HB⟩⟩
  ·replace c8 := Bool.eq_false_iff.mpr c8
   subst c8
   rw [if_neg (show ¬ (false = true) by decide)] at H
   have H' := Aside0.mk H
   clear H
   have hnb17 := NB512_513.out
   have hnc17 := NB513_512.out
   have hnb18 := NB512_514.out
   have hnc18 := NB514_512.out
   obtain ⟨hcz19_0, hcz19_1, hcz19_2, hfz19_0, hfz19_1, hfz19_2⟩ := bK3 (w := w6) BK512
   go_wp2_with (first | ((with_reducible refine gate_callee (f := 87) rfl ?_); refine gL (some 6) Tryd.func87 #[.agg #[.int .i64 a0_0, .int .i64 a0_1, .bool a0_2]] ?_; (with_reducible refine (spec_PointOk.calls a0_0 a0_1 a0_2 false _ A7.out).mono ?_); rintro e w20 ⟨rfl, hb⟩; refine ⟨_, rfl, ?_⟩; replace BK512 := bB BK512 hb; replace BK513 := bB BK513 hb; replace BK514 := bB BK514 hb; replace HB := bS HB hb; (try clear hb)))
   go_meet
   case rel => exact ⟨_, (true), rS, H', ⟨by first | omega | exact Nat.le_refl _⟩, ⟨bP BK512⟩, ⟨bP BK513⟩, ⟨bP BK514⟩, ⟨bZ HB⟩⟩
 case rest =>
  clear HC3
  try clear c1
  try clear p2
  try clear c8
  try clear c10
  try clear c11
  try clear c14
  try clear c17
  try clear c18
  try clear hcz12_0
  try clear hcz12_1
  try clear hcz12_2
  try clear hcz15_0
  try clear hcz15_1
  try clear hcz15_2
  try clear hcz19_0
  try clear hcz19_1
  try clear hcz19_2
  try clear hfz12_0
  try clear hfz12_1
  try clear hfz12_2
  try clear hfz15_0
  try clear hfz15_1
  try clear hfz15_2
  try clear hfz19_0
  try clear hfz19_1
  try clear hfz19_2
  obtain ⟨kq, x12_2, rfl, HA, HJ2, BK512, BK513, BK514, HB⟩ := hcut
  cases kq with
  | zero => exact absurd HA.out (by simp [spec_PointAdd.j0])
  | succ kj2 =>
   have H := HA.out
   clear HA
   simp only [spec_PointAdd.j0] at H
   by_cases c21 : x12_2 = true
   ·subst c21
    rw [if_pos rfl] at H
    replace H := Option.bind_eq_some_iff.mp H
    obtain ⟨⟨t517, t518, t519⟩, A220, H⟩ := H
    have A22 := Aside0.mk A220
    clear A220
    simp only [Option.some.injEq, Prod.mk.injEq] at H
    obtain ⟨rfl, rfl, rfl⟩ := H
    go_wp2_with (first | ((with_reducible refine gate_callee (f := 56) rfl ?_); refine gL (some 13) Tryd.func56 #[] ?_; (with_reducible refine (spec_l07Zero.calls  t517 t518 t519 _ A22.out).mono ?_); rintro e w23 ⟨rfl, hb⟩; refine ⟨_, rfl, ?_⟩; replace BK512 := bB BK512 hb; replace BK513 := bB BK513 hb; replace BK514 := bB BK514 hb; replace HB := bS HB hb; (try clear hb); have hnb24 := NB514_512.out; have hnc24 := NB512_514.out; have hnb25 := NB514_513.out; have hnc25 := NB513_514.out; obtain ⟨hcz26_0, hcz26_1, hcz26_2, hfz26_0, hfz26_1, hfz26_2⟩ := bK3 (w := w23) BK514))
    refine rC gb514 23 #[.int .i64 t517, .int .i64 t518, .bool t519] (bU BK514) Tryd.underlying23 ?_
    exact ⟨rR, bZ HB⟩
   ·replace c21 := Bool.eq_false_iff.mpr c21
    subst c21
    rw [if_neg (show ¬ (false = true) by decide)] at H
    replace H := Option.bind_eq_some_iff.mp H
    obtain ⟨⟨t520, t521, t522⟩, A270, H⟩ := H
    have A27 := Aside0.mk A270
    clear A270
    simp only [Option.some.injEq, Prod.mk.injEq] at H
    obtain ⟨rfl, rfl, rfl⟩ := H
    have hnb28 := NB512_513.out
    have hnc28 := NB513_512.out
    have hnb29 := NB512_514.out
    have hnc29 := NB514_512.out
    obtain ⟨hcz30_0, hcz30_1, hcz30_2, hfz30_0, hfz30_1, hfz30_2⟩ := bK3 (w := wc) BK512
    have hnb31 := NB513_514.out
    have hnc31 := NB514_513.out
    obtain ⟨hcz32_0, hcz32_1, hcz32_2, hfz32_0, hfz32_1, hfz32_2⟩ := bK3 (w := wc) BK513
    go_wp2_with (first | ((with_reducible refine gate_callee (f := 89) rfl ?_); refine gL (some 16) Tryd.func89 #[.agg #[.int .i64 a0_0, .int .i64 a0_1, .bool a0_2], .agg #[.int .i64 a1_0, .int .i64 a1_1, .bool a1_2]] ?_; (with_reducible refine (spec_l07Add.calls kj2 a0_0 a0_1 a0_2 a1_0 a1_1 a1_2 t520 t521 t522 _ A27.out).mono ?_); rintro e w33 ⟨rfl, hb⟩; refine ⟨_, rfl, ?_⟩; replace BK512 := bB BK512 hb; replace BK513 := bB BK513 hb; replace BK514 := bB BK514 hb; replace HB := bS HB hb; (try clear hb); obtain ⟨hcz34_0, hcz34_1, hcz34_2, hfz34_0, hfz34_1, hfz34_2⟩ := bK3 (w := w33) BK514))
    refine rC gb514 23 #[.int .i64 t520, .int .i64 t521, .bool t522] (bU BK514) Tryd.underlying23 ?_
    exact ⟨rR, bZ HB⟩
/-! ### spec_PairLine: function 130 -/
def spec_PairLine.j0 : Nat → Bool → Int → Int → Bool → Int → Int → Bool → Int → Int → Bool → Int → Int → Option (Int × Int)
 | 0, _, _, _, _, _, _, _, _, _, _, _, _ => none
 | k + 1, x36, x524000, x524001, x524002, x525000, x525001, x525002, x526000, x526001, x526002, x528000, x528001 => if x36 = true then (some (x528000, x528001)) else ((spec_l07Slope.f k x524000 x524001 x524002 x525000 x525001 x525002).bind fun bt531 => (if bt531.2 = true then ((spec_FpSub.f 0 x526000).bind fun t533 => ((spec_FpSub.f t533 x524000).bind fun t534 => ((spec_FpSub.f 0 x524001).bind fun t535 => ((spec_FpMul.f bt531.1 t534).bind fun t536 => ((spec_FpSub.f t535 t536).bind fun t537 => (some (t537, x526001))))))) else (some (x528000, x528001))))
def spec_PairLine.f (k : Nat) (a0_0 : Int) (a0_1 : Int) (a0_2 : Bool) (a1_0 : Int) (a1_1 : Int) (a1_2 : Bool) (a2_0 : Int) (a2_1 : Int) (a2_2 : Bool) : Option (Int × Int) := if a0_2 = true then (spec_PairLine.j0 k true a0_0 a0_1 a0_2 a1_0 a1_1 a1_2 a2_0 a2_1 a2_2 1 0) else (if a1_2 = true then (spec_PairLine.j0 k true a0_0 a0_1 a0_2 a1_0 a1_1 a1_2 a2_0 a2_1 a2_2 1 0) else (if a2_2 = true then (spec_PairLine.j0 k true a0_0 a0_1 a0_2 a1_0 a1_1 a1_2 a2_0 a2_1 a2_2 1 0) else ((spec_PointOk.f a0_0 a0_1 a0_2).bind fun t528 => (if t528 = true then ((spec_PointOk.f a1_0 a1_1 a1_2).bind fun t529 => (if t529 = true then ((spec_PointOk.f a2_0 a2_1 a2_2).bind fun t530 => (spec_PairLine.j0 k (!t530) a0_0 a0_1 a0_2 a1_0 a1_1 a1_2 a2_0 a2_1 a2_2 1 0)) else (spec_PairLine.j0 k true a0_0 a0_1 a0_2 a1_0 a1_1 a1_2 a2_0 a2_1 a2_2 1 0))) else (spec_PairLine.j0 k true a0_0 a0_1 a0_2 a1_0 a1_1 a1_2 a2_0 a2_1 a2_2 1 0)))))
theorem spec_PairLine.mono_l : ∀ k, (∀ y0 y1 y2 y3 y4 y5 y6 y7 y8 y9 y10 y11, LeO (spec_PairLine.j0 k y0 y1 y2 y3 y4 y5 y6 y7 y8 y9 y10 y11) (spec_PairLine.j0 (k + 1) y0 y1 y2 y3 y4 y5 y6 y7 y8 y9 y10 y11))
 | 0 => fun _ _ _ _ _ _ _ _ _ _ _ _ r h => by simp [spec_PairLine.j0] at h
 | k + 1 => by
  have ih0 := spec_PairLine.mono_l k
  ·intro y0 y1 y2 y3 y4 y5 y6 y7 y8 y9 y10 y11
   unfold spec_PairLine.j0
   repeat' first
   | (with_reducible exact ih0 _ _ _ _ _ _ _ _ _ _ _ _)
   | (with_reducible exact spec_l07Slope.mono _ _ _ _ _ _ _)
   | (with_reducible exact LeO.refl _)
   | (with_reducible exact LeO.none _)
   | (with_reducible refine LeO.ite ?_ ?_)
   | (with_reducible refine LeO.bind ?_ (fun _ => ?_))
   | exact ih0 _ _ _ _ _ _ _ _ _ _ _ _
   | exact spec_l07Slope.mono _ _ _ _ _ _ _
   | exact LeO.none _
   | refine LeO.ite ?_ ?_
   | refine LeO.bind ?_ (fun _ => ?_)
theorem spec_PairLine.mono : ∀ a0 a1 a2 a3 a4 a5 a6 a7 a8 k, LeO (spec_PairLine.f k a0 a1 a2 a3 a4 a5 a6 a7 a8) (spec_PairLine.f (k + 1) a0 a1 a2 a3 a4 a5 a6 a7 a8) := by
 intro a0 a1 a2 a3 a4 a5 a6 a7 a8 k
 have ih0 := spec_PairLine.mono_l k
 unfold spec_PairLine.f
 repeat' first
   | (with_reducible exact ih0 _ _ _ _ _ _ _ _ _ _ _ _)
   | (with_reducible exact spec_l07Slope.mono _ _ _ _ _ _ _)
   | (with_reducible exact LeO.refl _)
   | (with_reducible exact LeO.none _)
   | (with_reducible refine LeO.ite ?_ ?_)
   | (with_reducible refine LeO.bind ?_ (fun _ => ?_))
   | exact ih0 _ _ _ _ _ _ _ _ _ _ _ _
   | exact spec_l07Slope.mono _ _ _ _ _ _ _
   | exact LeO.none _
   | refine LeO.ite ?_ ?_
   | refine LeO.bind ?_ (fun _ => ?_)
def spec_PairLine.T8 : Bool × List (List Nat × List Nat) := (true, [([], []), ([0], [0]), ([1], [1]), ([], []), ([], []), ([3, 4, 2], [3, 4]), ([2, 5, 5], [2, 5]), ([], []), ([7], [7]), ([6, 8], [6, 8]), ([9, 6, 0, 1, 2, 3, 4, 5, 6, 7, 8, 9], [9])])
def spec_PairLine.B8 : List Nat := [0, 1, 3, 0, 0, 31, 63, 0, 128, 511, 1023]
theorem spec_PairLine.tab8 : rtab .any (opsOf Tryd.f130 8) = spec_PairLine.T8 := by kernel_rfl
theorem spec_PairLine.bits8 : waitsOk spec_PairLine.T8.2 spec_PairLine.B8 = true := by kernel_rfl
set_option maxHeartbeats 8000000 in
set_option maxRecDepth 100000 in
theorem spec_PairLine.calls (k : Nat) (a0_0 : Int) (a0_1 : Int) (a0_2 : Bool) (a1_0 : Int) (a1_1 : Int) (a1_2 : Bool) (a2_0 : Int) (a2_1 : Int) (a2_2 : Bool) (r1 : Int) (r2 : Int) (w : World) (h : spec_PairLine.f k a0_0 a0_1 a0_2 a1_0 a1_1 a1_2 a2_0 a2_1 a2_2 = some (r1, r2)) :
  Calls Tryd.prog 130 #[.agg #[.int .i64 a0_0, .int .i64 a0_1, .bool a0_2], .agg #[.int .i64 a1_0, .int .i64 a1_1, .bool a1_2], .agg #[.int .i64 a2_0, .int .i64 a2_1, .bool a2_2]] w fun e w' => e = .returned (.agg #[.int .i64 r1, .int .i64 r2]) ∧ Below w.heap.size w w' := by
 have hu23 := Tryd.underlying23
 have hu80 := Tryd.underlying80
 have HB := Aside0.mk (Below.refl w.heap.size w)
 have H : (if a0_2 = true then (spec_PairLine.j0 k true a0_0 a0_1 a0_2 a1_0 a1_1 a1_2 a2_0 a2_1 a2_2 1 0) else (if a1_2 = true then (spec_PairLine.j0 k true a0_0 a0_1 a0_2 a1_0 a1_1 a1_2 a2_0 a2_1 a2_2 1 0) else (if a2_2 = true then (spec_PairLine.j0 k true a0_0 a0_1 a0_2 a1_0 a1_1 a1_2 a2_0 a2_1 a2_2 1 0) else ((spec_PointOk.f a0_0 a0_1 a0_2).bind fun t528 => (if t528 = true then ((spec_PointOk.f a1_0 a1_1 a1_2).bind fun t529 => (if t529 = true then ((spec_PointOk.f a2_0 a2_1 a2_2).bind fun t530 => (spec_PairLine.j0 k (!t530) a0_0 a0_1 a0_2 a1_0 a1_1 a1_2 a2_0 a2_1 a2_2 1 0)) else (spec_PairLine.j0 k true a0_0 a0_1 a0_2 a1_0 a1_1 a1_2 a2_0 a2_1 a2_2 1 0))) else (spec_PairLine.j0 k true a0_0 a0_1 a0_2 a1_0 a1_1 a1_2 a2_0 a2_1 a2_2 1 0)))))) = some (r1, r2) := h
 clear h
 have HC4 := Aside0.mk H
 clear H
 go_enter Tryd.func130, Tryd.ntmps130
 go_upto_region 2 with (first | ((with_reducible refine gate_dst (N := 3) rfl ?_); refine bE 3 #[.int .i64 a0_0, .int .i64 a0_1, .bool a0_2] 23 ?_; intro gb523 hg w5 hbox hb; have BK523 := Aside0.mk (hbox); have GW523 := bG HB hg; have GE523 := bG HB hg; replace HB := bS HB hb; clear hb hbox hg) | ((with_reducible refine gate_dst (N := 4) rfl ?_); refine bE 4 #[.int .i64 a1_0, .int .i64 a1_1, .bool a1_2] 23 ?_; intro gb524 hg w6 hbox hb; have BK524 := Aside0.mk (hbox); have GW524 := bG HB hg; have GE524 := bG HB hg; replace HB := bS HB hb; have NB523_524 := bL BK523 hg; have NB524_523 := bR BK523 hg; replace BK523 := bB BK523 hb; clear hb hbox hg) | ((with_reducible refine gate_dst (N := 5) rfl ?_); refine bE 5 #[.int .i64 a2_0, .int .i64 a2_1, .bool a2_2] 23 ?_; intro gb525 hg w7 hbox hb; have BK525 := Aside0.mk (hbox); have GW525 := bG HB hg; have GE525 := bG HB hg; replace HB := bS HB hb; have NB523_525 := bL BK523 hg; have NB525_523 := bR BK523 hg; replace BK523 := bB BK523 hb; have NB524_525 := bL BK524 hg; have NB525_524 := bR BK524 hg; replace BK524 := bB BK524 hb; clear hb hbox hg) | ((with_reducible refine gate_dst (N := 6) rfl ?_); refine bE 6 #[.int .i64 0, .int .i64 0] 80 ?_; intro gb526 hg w8 hbox hb; have BK526 := Aside0.mk (hbox); have GW526 := bG HB hg; have GE526 := bG HB hg; replace HB := bS HB hb; have NB523_526 := bL BK523 hg; have NB526_523 := bR BK523 hg; replace BK523 := bB BK523 hb; have NB524_526 := bL BK524 hg; have NB526_524 := bR BK524 hg; replace BK524 := bB BK524 hb; have NB525_526 := bL BK525 hg; have NB526_525 := bR BK525 hg; replace BK525 := bB BK525 hb; clear hb hbox hg) | ((with_reducible refine gate_dst (N := 7) rfl ?_); refine bE 7 #[.int .i64 0, .int .i64 0] 80 ?_; intro gb527 hg w9 hbox hb; have BK527 := Aside0.mk (hbox); have GW527 := bG HB hg; have GE527 := bG HB hg; replace HB := bS HB hb; have NB523_527 := bL BK523 hg; have NB527_523 := bR BK523 hg; replace BK523 := bB BK523 hb; have NB524_527 := bL BK524 hg; have NB527_524 := bR BK524 hg; replace BK524 := bB BK524 hb; have NB525_527 := bL BK525 hg; have NB527_525 := bR BK525 hg; replace BK525 := bB BK525 hb; have NB526_527 := bL BK526 hg; have NB527_526 := bR BK526 hg; replace BK526 := bB BK526 hb; clear hb hbox hg; have hnb10 := NB527_523.out; have hnc10 := NB523_527.out; have hnb11 := NB527_524.out; have hnc11 := NB524_527.out; have hnb12 := NB527_525.out; have hnc12 := NB525_527.out; have hnb13 := NB527_526.out; have hnc13 := NB526_527.out; obtain ⟨hcz14_0, hcz14_1, hfz14_0, hfz14_1⟩ := bK2 (w := w9) BK527))
 (try simp only [Act.put, List.setIfInBounds_toArray, List.set_cons_zero, List.set_cons_succ])
 go_cut [36] (fun v36 wc => ∃ (kq : Nat) (x36_3 : Bool), v36 = .bool x36_3 ∧ Aside0 (spec_PairLine.j0 kq x36_3 a0_0 a0_1 a0_2 a1_0 a1_1 a1_2 a2_0 a2_1 a2_2 1 0 = some (r1, r2)) ∧ Aside0 (kq ≤ k) ∧ Aside0 (wc.heap[gb523]? = some (.cells #[.int .i64 a0_0, .int .i64 a0_1, .bool a0_2] 23 (0, 0))) ∧ Aside0 (wc.heap[gb524]? = some (.cells #[.int .i64 a1_0, .int .i64 a1_1, .bool a1_2] 23 (0, 0))) ∧ Aside0 (wc.heap[gb525]? = some (.cells #[.int .i64 a2_0, .int .i64 a2_1, .bool a2_2] 23 (0, 0))) ∧ Aside0 (wc.heap[gb526]? = some (.cells #[.int .i64 0, .int .i64 0] 80 (0, 0))) ∧ Aside0 (wc.heap[gb527]? = some (.cells #[.int .i64 1, .int .i64 0] 80 (0, 0))) ∧ Aside0 (Below w.heap.size w wc))
 case first =>
  have H := HC4.out
  clear HC4
  by_cases c15 : a0_2 = true
  ·subst c15
   rw [if_pos rfl] at H
   have H' := Aside0.mk H
   clear H
   have hnb16 := NB523_524.out
   have hnc16 := NB524_523.out
   have hnb17 := NB523_525.out
   have hnc17 := NB525_523.out
   have hnb18 := NB523_526.out
   have hnc18 := NB526_523.out
   have hnb19 := NB523_527.out
   have hnc19 := NB527_523.out
   obtain ⟨hcz20_0, hcz20_1, hcz20_2, hfz20_0, hfz20_1, hfz20_2⟩ := bK3 (w := w9) BK523
   go_wp2
   go_meet
   case rel => exact ⟨_, (true), rS, H', ⟨by first | omega | exact Nat.le_refl _⟩, ⟨bP BK523⟩, ⟨bP BK524⟩, ⟨bP BK525⟩, ⟨bP BK526⟩, ⟨bU BK527⟩, ⟨bZ HB⟩⟩
  ·replace c15 := Bool.eq_false_iff.mpr c15
   subst c15
   rw [if_neg (show ¬ (false = true) by decide)] at H
   by_cases c21 : a1_2 = true
   ·subst c21
    rw [if_pos rfl] at H
    have H' := Aside0.mk H
    clear H
    have hnb22 := NB523_524.out
    have hnc22 := NB524_523.out
    have hnb23 := NB523_525.out
    have hnc23 := NB525_523.out
    have hnb24 := NB523_526.out
    have hnc24 := NB526_523.out
    have hnb25 := NB523_527.out
    have hnc25 := NB527_523.out
    obtain ⟨hcz26_0, hcz26_1, hcz26_2, hfz26_0, hfz26_1, hfz26_2⟩ := bK3 (w := w9) BK523
    have hnb27 := NB524_525.out
    have hnc27 := NB525_524.out
    have hnb28 := NB524_526.out
    have hnc28 := NB526_524.out
    have hnb29 := NB524_527.out
    have hnc29 := NB527_524.out
    obtain ⟨hcz30_0, hcz30_1, hcz30_2, hfz30_0, hfz30_1, hfz30_2⟩ := bK3 (w := w9) BK524
    go_wp2
    go_meet
    case rel => exact ⟨_, (true), rS, H', ⟨by first | omega | exact Nat.le_refl _⟩, ⟨bP BK523⟩, ⟨bP BK524⟩, ⟨bP BK525⟩, ⟨bP BK526⟩, ⟨bU BK527⟩, ⟨bZ HB⟩⟩
   ·replace c21 := Bool.eq_false_iff.mpr c21
    subst c21
    rw [if_neg (show ¬ (false = true) by decide)] at H
    by_cases c31 : a2_2 = true
    ·subst c31
     rw [if_pos rfl] at H
     have H' := Aside0.mk H
     clear H
     have hnb32 := NB523_524.out
     have hnc32 := NB524_523.out
     have hnb33 := NB523_525.out
     have hnc33 := NB525_523.out
     have hnb34 := NB523_526.out
     have hnc34 := NB526_523.out
     have hnb35 := NB523_527.out
     have hnc35 := NB527_523.out
     obtain ⟨hcz36_0, hcz36_1, hcz36_2, hfz36_0, hfz36_1, hfz36_2⟩ := bK3 (w := w9) BK523
     have hnb37 := NB524_525.out
     have hnc37 := NB525_524.out
     have hnb38 := NB524_526.out
     have hnc38 := NB526_524.out
     have hnb39 := NB524_527.out
     have hnc39 := NB527_524.out
     obtain ⟨hcz40_0, hcz40_1, hcz40_2, hfz40_0, hfz40_1, hfz40_2⟩ := bK3 (w := w9) BK524
     have hnb41 := NB525_526.out
     have hnc41 := NB526_525.out
     have hnb42 := NB525_527.out
     have hnc42 := NB527_525.out
     obtain ⟨hcz43_0, hcz43_1, hcz43_2, hfz43_0, hfz43_1, hfz43_2⟩ := bK3 (w := w9) BK525
     go_wp2
     go_meet
     case rel => exact ⟨_, (true), rS, H', ⟨by first | omega | exact Nat.le_refl _⟩, ⟨bP BK523⟩, ⟨bP BK524⟩, ⟨bP BK525⟩, ⟨bP BK526⟩, ⟨bU BK527⟩, ⟨bZ HB⟩⟩
    ·replace c31 := Bool.eq_false_iff.mpr c31
     subst c31
     rw [if_neg (show ¬ (false = true) by decide)] at H
     replace H := Option.bind_eq_some_iff.mp H
     obtain ⟨t528, A440, H⟩ := H
     have A44 := Aside0.mk A440
     clear A440
     by_cases c45 : t528 = true
     ·subst c45
      rw [if_pos rfl] at H
      replace H := Option.bind_eq_some_iff.mp H
      obtain ⟨t529, A460, H⟩ := H
      have A46 := Aside0.mk A460
      clear A460
      by_cases c47 : t529 = true
      ·subst c47
       rw [if_pos rfl] at H
       replace H := Option.bind_eq_some_iff.mp H
       obtain ⟨t530, A480, H⟩ := H
       have A48 := Aside0.mk A480
       clear A480
       have H' := Aside0.mk H
       clear H
       have hnb49 := NB523_524.out
       have hnc49 := NB524_523.out
       have hnb50 := NB523_525.out
       have hnc50 := NB525_523.out
       have hnb51 := NB523_526.out
       have hnc51 := NB526_523.out
       have hnb52 := NB523_527.out
       have hnc52 := NB527_523.out
       obtain ⟨hcz53_0, hcz53_1, hcz53_2, hfz53_0, hfz53_1, hfz53_2⟩ := bK3 (w := w9) BK523
       have hnb54 := NB524_525.out
       have hnc54 := NB525_524.out
       have hnb55 := NB524_526.out
       have hnc55 := NB526_524.out
       have hnb56 := NB524_527.out
       have hnc56 := NB527_524.out
       obtain ⟨hcz57_0, hcz57_1, hcz57_2, hfz57_0, hfz57_1, hfz57_2⟩ := bK3 (w := w9) BK524
       have hnb58 := NB525_526.out
       have hnc58 := NB526_525.out
       have hnb59 := NB525_527.out
       have hnc59 := NB527_525.out
       obtain ⟨hcz60_0, hcz60_1, hcz60_2, hfz60_0, hfz60_1, hfz60_2⟩ := bK3 (w := w9) BK525
       go_wp2_with (first | (go_at_call 87; (with_reducible refine (spec_PointOk.calls a0_0 a0_1 false true _ A44.out).mono ?_); rintro e w61 ⟨rfl, hb⟩; replace BK523 := bB BK523 hb; replace BK524 := bB BK524 hb; replace BK525 := bB BK525 hb; replace BK526 := bB BK526 hb; replace BK527 := bV 80 #[.int .i64 1, .int .i64 0] BK527 hb; replace HB := bS HB hb; (try clear hb); obtain ⟨hcz62_0, hcz62_1, hcz62_2, hfz62_0, hfz62_1, hfz62_2⟩ := bK3 (w := w61) BK524) | (go_at_call 87; (with_reducible refine (spec_PointOk.calls a1_0 a1_1 false true _ A46.out).mono ?_); rintro e w63 ⟨rfl, hb⟩; replace BK523 := bB BK523 hb; replace BK524 := bB BK524 hb; replace BK525 := bB BK525 hb; replace BK526 := bB BK526 hb; replace BK527 := bB BK527 hb; replace HB := bS HB hb; (try clear hb); obtain ⟨hcz64_0, hcz64_1, hcz64_2, hfz64_0, hfz64_1, hfz64_2⟩ := bK3 (w := w63) BK525) | (go_at_call 87; (with_reducible refine (spec_PointOk.calls a2_0 a2_1 false t530 _ A48.out).mono ?_); rintro e w65 ⟨rfl, hb⟩; replace BK523 := bB BK523 hb; replace BK524 := bB BK524 hb; replace BK525 := bB BK525 hb; replace BK526 := bB BK526 hb; replace BK527 := bB BK527 hb; replace HB := bS HB hb; (try clear hb)))
       go_meet
       case rel => exact ⟨_, (!t530), rS, H', ⟨by first | omega | exact Nat.le_refl _⟩, ⟨bP BK523⟩, ⟨bP BK524⟩, ⟨bP BK525⟩, ⟨bP BK526⟩, ⟨bP BK527⟩, ⟨bZ HB⟩⟩
      ·replace c47 := Bool.eq_false_iff.mpr c47
       subst c47
       rw [if_neg (show ¬ (false = true) by decide)] at H
       have H' := Aside0.mk H
       clear H
       have hnb66 := NB523_524.out
       have hnc66 := NB524_523.out
       have hnb67 := NB523_525.out
       have hnc67 := NB525_523.out
       have hnb68 := NB523_526.out
       have hnc68 := NB526_523.out
       have hnb69 := NB523_527.out
       have hnc69 := NB527_523.out
       obtain ⟨hcz70_0, hcz70_1, hcz70_2, hfz70_0, hfz70_1, hfz70_2⟩ := bK3 (w := w9) BK523
       have hnb71 := NB524_525.out
       have hnc71 := NB525_524.out
       have hnb72 := NB524_526.out
       have hnc72 := NB526_524.out
       have hnb73 := NB524_527.out
       have hnc73 := NB527_524.out
       obtain ⟨hcz74_0, hcz74_1, hcz74_2, hfz74_0, hfz74_1, hfz74_2⟩ := bK3 (w := w9) BK524
       have hnb75 := NB525_526.out
       have hnc75 := NB526_525.out
       have hnb76 := NB525_527.out
       have hnc76 := NB527_525.out
       obtain ⟨hcz77_0, hcz77_1, hcz77_2, hfz77_0, hfz77_1, hfz77_2⟩ := bK3 (w := w9) BK525
       go_wp2_with (first | (go_at_call 87; (with_reducible refine (spec_PointOk.calls a0_0 a0_1 false true _ A44.out).mono ?_); rintro e w78 ⟨rfl, hb⟩; replace BK523 := bB BK523 hb; replace BK524 := bB BK524 hb; replace BK525 := bB BK525 hb; replace BK526 := bB BK526 hb; replace BK527 := bV 80 #[.int .i64 1, .int .i64 0] BK527 hb; replace HB := bS HB hb; (try clear hb); obtain ⟨hcz79_0, hcz79_1, hcz79_2, hfz79_0, hfz79_1, hfz79_2⟩ := bK3 (w := w78) BK524) | (go_at_call 87; (with_reducible refine (spec_PointOk.calls a1_0 a1_1 false false _ A46.out).mono ?_); rintro e w80 ⟨rfl, hb⟩; replace BK523 := bB BK523 hb; replace BK524 := bB BK524 hb; replace BK525 := bB BK525 hb; replace BK526 := bB BK526 hb; replace BK527 := bB BK527 hb; replace HB := bS HB hb; (try clear hb)))
       go_meet
       case rel => exact ⟨_, (true), rS, H', ⟨by first | omega | exact Nat.le_refl _⟩, ⟨bP BK523⟩, ⟨bP BK524⟩, ⟨bP BK525⟩, ⟨bP BK526⟩, ⟨bP BK527⟩, ⟨bZ HB⟩⟩
     ·replace c45 := Bool.eq_false_iff.mpr c45
      subst c45
      rw [if_neg (show ¬ (false = true) by decide)] at H
      have H' := Aside0.mk H
      clear H
      have hnb81 := NB523_524.out
      have hnc81 := NB524_523.out
      have hnb82 := NB523_525.out
      have hnc82 := NB525_523.out
      have hnb83 := NB523_526.out
      have hnc83 := NB526_523.out
      have hnb84 := NB523_527.out
      have hnc84 := NB527_523.out
      obtain ⟨hcz85_0, hcz85_1, hcz85_2, hfz85_0, hfz85_1, hfz85_2⟩ := bK3 (w := w9) BK523
      have hnb86 := NB524_525.out
      have hnc86 := NB525_524.out
      have hnb87 := NB524_526.out
      have hnc87 := NB526_524.out
      have hnb88 := NB524_527.out
      have hnc88 := NB527_524.out
      obtain ⟨hcz89_0, hcz89_1, hcz89_2, hfz89_0, hfz89_1, hfz89_2⟩ := bK3 (w := w9) BK524
      have hnb90 := NB525_526.out
      have hnc90 := NB526_525.out
      have hnb91 := NB525_527.out
      have hnc91 := NB527_525.out
      obtain ⟨hcz92_0, hcz92_1, hcz92_2, hfz92_0, hfz92_1, hfz92_2⟩ := bK3 (w := w9) BK525
      go_wp2_with (first | (go_at_call 87; (with_reducible refine (spec_PointOk.calls a0_0 a0_1 false false _ A44.out).mono ?_); rintro e w93 ⟨rfl, hb⟩; replace BK523 := bB BK523 hb; replace BK524 := bB BK524 hb; replace BK525 := bB BK525 hb; replace BK526 := bB BK526 hb; replace BK527 := bV 80 #[.int .i64 1, .int .i64 0] BK527 hb; replace HB := bS HB hb; (try clear hb)))
      go_meet
      case rel => exact ⟨_, (true), rS, H', ⟨by first | omega | exact Nat.le_refl _⟩, ⟨bP BK523⟩, ⟨bP BK524⟩, ⟨bP BK525⟩, ⟨bP BK526⟩, ⟨bP BK527⟩, ⟨bZ HB⟩⟩
 case rest =>
  clear HC4
  try clear c1
  try clear c2
  try clear p2
  try clear c3
  try clear c4
  try clear c5
  try clear c6
  try clear c7
  try clear c8
  try clear c9
  try clear c10
  try clear c11
  try clear c12
  try clear c13
  try clear c15
  try clear c16
  try clear c17
  try clear c18
  try clear c19
  try clear c21
  try clear c22
  try clear c23
  try clear c24
  try clear c25
  try clear c27
  try clear c28
  try clear c29
  try clear c31
  try clear c32
  try clear c33
  try clear c34
  try clear c35
  try clear c37
  try clear c38
  try clear c39
  try clear c41
  try clear c42
  try clear c45
  try clear c47
  try clear c49
  try clear c50
  try clear c51
  try clear c52
  try clear c54
  try clear c55
  try clear c56
  try clear c58
  try clear c59
  try clear c66
  try clear c67
  try clear c68
  try clear c69
  try clear c71
  try clear c72
  try clear c73
  try clear c75
  try clear c76
  try clear c81
  try clear c82
  try clear c83
  try clear c84
  try clear c86
  try clear c87
  try clear c88
  try clear c90
  try clear c91
  try clear hcz14_0
  try clear hcz14_1
  try clear hcz20_0
  try clear hcz20_1
  try clear hcz20_2
  try clear hcz26_0
  try clear hcz26_1
  try clear hcz26_2
  try clear hcz30_0
  try clear hcz30_1
  try clear hcz30_2
  try clear hcz36_0
  try clear hcz36_1
  try clear hcz36_2
  try clear hcz40_0
  try clear hcz40_1
  try clear hcz40_2
  try clear hcz43_0
  try clear hcz43_1
  try clear hcz43_2
  try clear hcz53_0
  try clear hcz53_1
  try clear hcz53_2
  try clear hcz57_0
  try clear hcz57_1
  try clear hcz57_2
  try clear hcz60_0
  try clear hcz60_1
  try clear hcz60_2
  try clear hcz62_0
  try clear hcz62_1
  try clear hcz62_2
  try clear hcz64_0
  try clear hcz64_1
  try clear hcz64_2
  try clear hcz70_0
  try clear hcz70_1
  try clear hcz70_2
  try clear hcz74_0
  try clear hcz74_1
  try clear hcz74_2
  try clear hcz77_0
  try clear hcz77_1
  try clear hcz77_2
  try clear hcz79_0
  try clear hcz79_1
  try clear hcz79_2
  try clear hcz85_0
  try clear hcz85_1
  try clear hcz85_2
  try clear hcz89_0
  try clear hcz89_1
  try clear hcz89_2
  try clear hcz92_0
  try clear hcz92_1
  try clear hcz92_2
  try clear hfz14_0
  try clear hfz14_1
  try clear hfz20_0
  try clear hfz20_1
  try clear hfz20_2
  try clear hfz26_0
  try clear hfz26_1
  try clear hfz26_2
  try clear hfz30_0
  try clear hfz30_1
  try clear hfz30_2
  try clear hfz36_0
  try clear hfz36_1
  try clear hfz36_2
  try clear hfz40_0
  try clear hfz40_1
  try clear hfz40_2
  try clear hfz43_0
  try clear hfz43_1
  try clear hfz43_2
  try clear hfz53_0
  try clear hfz53_1
  try clear hfz53_2
  try clear hfz57_0
  try clear hfz57_1
  try clear hfz57_2
  try clear hfz60_0
  try clear hfz60_1
  try clear hfz60_2
  try clear hfz62_0
  try clear hfz62_1
  try clear hfz62_2
  try clear hfz64_0
  try clear hfz64_1
  try clear hfz64_2
  try clear hfz70_0
  try clear hfz70_1
  try clear hfz70_2
  try clear hfz74_0
  try clear hfz74_1
  try clear hfz74_2
  try clear hfz77_0
  try clear hfz77_1
  try clear hfz77_2
  try clear hfz79_0
  try clear hfz79_1
  try clear hfz79_2
  try clear hfz85_0
  try clear hfz85_1
  try clear hfz85_2
  try clear hfz89_0
  try clear hfz89_1
  try clear hfz89_2
  try clear hfz92_0
  try clear hfz92_1
  try clear hfz92_2
  obtain ⟨kq, x36_3, rfl, HA, HJ3, BK523, BK524, BK525, BK526, BK527, HB⟩ := hcut
  cases kq with
  | zero => exact absurd HA.out (by simp [spec_PairLine.j0])
  | succ kj3 =>
   have H := HA.out
   clear HA
   simp only [spec_PairLine.j0] at H
   by_cases c94 : x36_3 = true
   ·subst c94
    rw [if_pos rfl] at H
    simp only [Option.some.injEq, Prod.mk.injEq] at H
    obtain ⟨rfl, rfl⟩ := H
    have hnb95 := NB527_523.out
    have hnc95 := NB523_527.out
    have hnb96 := NB527_524.out
    have hnc96 := NB524_527.out
    have hnb97 := NB527_525.out
    have hnc97 := NB525_527.out
    have hnb98 := NB527_526.out
    have hnc98 := NB526_527.out
    obtain ⟨hcz99_0, hcz99_1, hfz99_0, hfz99_1⟩ := bK2 (w := wc) BK527
    have hnb100 := NB526_523.out
    have hnc100 := NB523_526.out
    have hnb101 := NB526_524.out
    have hnc101 := NB524_526.out
    have hnb102 := NB526_525.out
    have hnc102 := NB525_526.out
    obtain ⟨hcz103_0, hcz103_1, hfz103_0, hfz103_1⟩ := bK2 (w := wc) BK526
    go_wp2
    refine rC gb526 80 #[.int .i64 1, .int .i64 0] (bU BK526) Tryd.underlying80 ?_
    exact ⟨rR, bZ HB⟩
   ·replace c94 := Bool.eq_false_iff.mpr c94
    subst c94
    rw [if_neg (show ¬ (false = true) by decide)] at H
    replace H := Option.bind_eq_some_iff.mp H
    obtain ⟨⟨t531, t532⟩, A1040, H⟩ := H
    have A104 := Aside0.mk A1040
    clear A1040
    by_cases c105 : t532 = true
    ·subst c105
     rw [if_pos rfl] at H
     replace H := Option.bind_eq_some_iff.mp H
     obtain ⟨t533, A1060, H⟩ := H
     have A106 := Aside0.mk A1060
     clear A1060
     replace H := Option.bind_eq_some_iff.mp H
     obtain ⟨t534, A1070, H⟩ := H
     have A107 := Aside0.mk A1070
     clear A1070
     replace H := Option.bind_eq_some_iff.mp H
     obtain ⟨t535, A1080, H⟩ := H
     have A108 := Aside0.mk A1080
     clear A1080
     replace H := Option.bind_eq_some_iff.mp H
     obtain ⟨t536, A1090, H⟩ := H
     have A109 := Aside0.mk A1090
     clear A1090
     replace H := Option.bind_eq_some_iff.mp H
     obtain ⟨t537, A1100, H⟩ := H
     have A110 := Aside0.mk A1100
     clear A1100
     simp only [Option.some.injEq, Prod.mk.injEq] at H
     obtain ⟨rfl, rfl⟩ := H
     have hnb111 := NB523_524.out
     have hnc111 := NB524_523.out
     have hnb112 := NB523_525.out
     have hnc112 := NB525_523.out
     have hnb113 := NB523_526.out
     have hnc113 := NB526_523.out
     have hnb114 := NB523_527.out
     have hnc114 := NB527_523.out
     obtain ⟨hcz115_0, hcz115_1, hcz115_2, hfz115_0, hfz115_1, hfz115_2⟩ := bK3 (w := wc) BK523
     have hnb116 := NB524_525.out
     have hnc116 := NB525_524.out
     have hnb117 := NB524_526.out
     have hnc117 := NB526_524.out
     have hnb118 := NB524_527.out
     have hnc118 := NB527_524.out
     obtain ⟨hcz119_0, hcz119_1, hcz119_2, hfz119_0, hfz119_1, hfz119_2⟩ := bK3 (w := wc) BK524
     try go_wp2_with (first | ((with_reducible refine gate_callee (f := 120) rfl ?_); refine gL (some 41) Tryd.func120 #[.agg #[.int .i64 a0_0, .int .i64 a0_1, .bool a0_2], .agg #[.int .i64 a1_0, .int .i64 a1_1, .bool a1_2]] ?_; (with_reducible refine (spec_l07Slope.calls kj3 a0_0 a0_1 a0_2 a1_0 a1_1 a1_2 t531 true _ A104.out).mono ?_); rintro e w120 ⟨rfl, hb⟩; refine ⟨_, rfl, ?_⟩; replace BK523 := bB BK523 hb; replace BK524 := bB BK524 hb; replace BK525 := bB BK525 hb; replace BK526 := bB BK526 hb; replace BK527 := bB BK527 hb; replace HB := bS HB hb; (try clear hb)))
     replace BK523 := Aside0.mk (blk_drew BK523.out)
     replace BK524 := Aside0.mk (blk_drew BK524.out)
     replace BK525 := Aside0.mk (blk_drew BK525.out)
     replace BK526 := Aside0.mk (blk_drew BK526.out)
     replace BK527 := Aside0.mk (blk_drew BK527.out)
     replace HB := Aside0.mk (below_drew1 HB.out)
     refine start_ (n := 7) (S := fun w' => w'.cell? ⟨gb525, 0, none⟩ = some (.int .i64 a2_0) ∧ w'.cell? ⟨gb525, 1, none⟩ = some (.int .i64 a2_1) ∧ w'.cell? ⟨gb525, 2, none⟩ = some (.bool a2_2) ∧ w'.cell? ⟨gb523, 0, none⟩ = some (.int .i64 a0_0) ∧ w'.cell? ⟨gb523, 1, none⟩ = some (.int .i64 a0_1) ∧ w'.cell? ⟨gb523, 2, none⟩ = some (.bool a0_2)) (ds := []) #[false, false, false, false, false, false, false] (by kernel_rfl) rfl rfl ⟨bc BK525 0, bc BK525 1, bc BK525 2, bc BK523 0, bc BK523 1, bc BK523 2⟩ (fun hHeld => ?_)
     generalize w120.drew = w121 at BK523 BK524 BK525 BK526 BK527 HB hHeld ⊢
     refine pure_ (i := 0) (N := some 47) (v := ?_) (a' := ?_) #[true, false, false, false, false, false, false] rfl rfl (by kernel_rfl) (fun _ _ _ h => h) (Or.inl ⟨by rfl, ?_⟩) ?_ ?_
     rotate_left
     ·intro w'
      go_simp
      with_reducible rfl
     rotate_left
     ·simp only [Act.put, List.setIfInBounds_toArray, List.set_cons_zero, List.set_cons_succ, i64_w, i32_w]
      rfl
     refine pure_ (i := 3) (N := some 50) (v := ?_) (a' := ?_) #[true, false, false, true, false, false, false] rfl rfl (by kernel_rfl) (fun _ _ _ h => h) (Or.inl ⟨by rfl, ?_⟩) ?_ ?_
     rotate_left
     ·intro w'
      go_simp
      with_reducible rfl
     rotate_left
     ·simp only [Act.put, List.setIfInBounds_toArray, List.set_cons_zero, List.set_cons_succ, i64_w, i32_w]
      rfl
     refine take_ (i := 1) (N := some 48) (v := ?_) (a' := ?_) #[true, true, false, true, false, false, false] rfl rfl (by kernel_rfl) (fun _ _ _ h => h) (Or.inl ⟨by rfl, ?_⟩) hHeld ?_ ?_
     rotate_left
     ·rintro w' ⟨s0, s1, s2, s3, s4, s5⟩
      go_simp
      with_reducible rfl
     rotate_left
     ·simp only [Act.put, List.setIfInBounds_toArray, List.set_cons_zero, List.set_cons_succ, i64_w, i32_w]
      rfl
     refine take_ (i := 4) (N := some 51) (v := ?_) (a' := ?_) #[true, true, false, true, true, false, false] rfl rfl (by kernel_rfl) (fun _ _ _ h => h) (Or.inl ⟨by rfl, ?_⟩) hHeld ?_ ?_
     rotate_left
     ·rintro w' ⟨s0, s1, s2, s3, s4, s5⟩
      go_simp
      with_reducible rfl
     rotate_left
     ·simp only [Act.put, List.setIfInBounds_toArray, List.set_cons_zero, List.set_cons_succ, i64_w, i32_w]
      rfl
     refine one_ (i := 2) (N := some 49) #[true, true, true, true, true, false, false] rfl rfl (by kernel_rfl) (by decide) (fun K hK => ?_)
     refine gO Tryd.func85 #[.int .i64 0, .int .i64 a2_0] ?_
     with_reducible refine (spec_FpSub.calls 0 a2_0 t533 _ A106.out).mono ?_
     rintro e w' ⟨rfl, ⟨nd, rfl⟩⟩
     refine ⟨_, rfl, ?_⟩
     refine hK.out _ _ ⟨bc BK525 0, bc BK525 1, bc BK525 2, bc BK523 0, bc BK523 1, bc BK523 2⟩ (fun hHeld => ?_)
     clear hK K
     refine nO (some 49) ?_
     refine one_ (i := 5) (N := some 52) #[true, true, true, true, true, true, false] rfl rfl (by kernel_rfl) (by decide) (fun K hK => ?_)
     refine gO Tryd.func85 #[.int .i64 t533, .int .i64 a0_0] ?_
     with_reducible refine (spec_FpSub.calls t533 a0_0 t534 _ A107.out).mono ?_
     rintro e w' ⟨rfl, ⟨nd, rfl⟩⟩
     refine ⟨_, rfl, ?_⟩
     refine hK.out _ _ ⟨bc BK525 0, bc BK525 1, bc BK525 2, bc BK523 0, bc BK523 1, bc BK523 2⟩ (fun hHeld => ?_)
     clear hK K
     refine nO (some 52) ?_
     refine pure_ (i := 6) (N := some 10) (v := ?_) (a' := ?_) #[true, true, true, true, true, true, true] rfl rfl (by kernel_rfl) (fun _ _ _ h => h) (Or.inl ⟨by rfl, ?_⟩) ?_ ?_
     rotate_left
     ·intro w'
      go_simp
      with_reducible rfl
     rotate_left
     ·simp only [Act.put, List.setIfInBounds_toArray, List.set_cons_zero, List.set_cons_succ, i64_w, i32_w]
      rfl
     refine done_ (by kernel_rfl) ?_
     try go_wp2
     (try simp only [World.drewN_drewN]); (try (rw [drewN_self w121]; generalize hq_ : World.drewN w121 _ = w121; replace BK523 : Aside0 (w121.heap[gb523]? = some (.cells #[.int .i64 a0_0, .int .i64 a0_1, .bool a0_2] 23 (0, 0))) := ⟨by rw [← hq_]; exact (bP BK523)⟩; replace BK524 : Aside0 (w121.heap[gb524]? = some (.cells #[.int .i64 a1_0, .int .i64 a1_1, .bool a1_2] 23 (0, 0))) := ⟨by rw [← hq_]; exact (bP BK524)⟩; replace BK525 : Aside0 (w121.heap[gb525]? = some (.cells #[.int .i64 a2_0, .int .i64 a2_1, .bool a2_2] 23 (0, 0))) := ⟨by rw [← hq_]; exact (bP BK525)⟩; replace BK526 : Aside0 (w121.heap[gb526]? = some (.cells #[.int .i64 0, .int .i64 0] 80 (0, 0))) := ⟨by rw [← hq_]; exact (bP BK526)⟩; replace BK527 : Aside0 (w121.heap[gb527]? = some (.cells #[.int .i64 1, .int .i64 0] 80 (0, 0))) := ⟨by rw [← hq_]; exact (bP BK527)⟩; replace HB : Aside0 (Below w.heap.size w w121) := ⟨by rw [← hq_]; exact (bZ HB)⟩; clear hq_))
     replace BK523 := Aside0.mk (blk_drew BK523.out)
     replace BK524 := Aside0.mk (blk_drew BK524.out)
     replace BK525 := Aside0.mk (blk_drew BK525.out)
     replace BK526 := Aside0.mk (blk_drew BK526.out)
     replace BK527 := Aside0.mk (blk_drew BK527.out)
     replace HB := Aside0.mk (below_drew1 HB.out)
     refine start_ (n := 11) (S := fun w' => w'.cell? ⟨gb523, 0, none⟩ = some (.int .i64 a0_0) ∧ w'.cell? ⟨gb523, 1, none⟩ = some (.int .i64 a0_1) ∧ w'.cell? ⟨gb523, 2, none⟩ = some (.bool a0_2) ∧ w'.cell? ⟨gb525, 0, none⟩ = some (.int .i64 a2_0) ∧ w'.cell? ⟨gb525, 1, none⟩ = some (.int .i64 a2_1) ∧ w'.cell? ⟨gb525, 2, none⟩ = some (.bool a2_2)) (ds := []) #[false, false, false, false, false, false, false, false, false, false, false] (by kernel_rfl) rfl rfl ⟨bc BK523 0, bc BK523 1, bc BK523 2, bc BK525 0, bc BK525 1, bc BK525 2⟩ (fun hHeld => ?_); refine with_tabW spec_PairLine.tab8 spec_PairLine.bits8 (fun HT_ HW_ => ?_)
     generalize w121.drew = w122 at BK523 BK524 BK525 BK526 BK527 HB hHeld ⊢
     refine pI 0 (some 53) HT_.out ?_
     refine pI 3 (some 56) HT_.out ?_
     refine pI 4 (some 57) HT_.out ?_
     refine pI 7 (some 60) HT_.out ?_
     refine tI6 1 (some 54) HT_.out HW_.out hHeld ?_
     refine tI6 8 (some 61) HT_.out HW_.out hHeld ?_
     refine oI 2 (some 55) HT_.out (fun K hK => ?_)
     refine gO Tryd.func85 #[.int .i64 0, .int .i64 a0_1] ?_
     with_reducible refine (spec_FpSub.calls 0 a0_1 t535 _ A108.out).mono ?_
     rintro e w' ⟨rfl, ⟨nd, rfl⟩⟩
     refine ⟨_, rfl, ?_⟩
     refine hK.out _ _ ⟨bc BK523 0, bc BK523 1, bc BK523 2, bc BK525 0, bc BK525 1, bc BK525 2⟩ (fun hHeld => ?_)
     clear hK K
     refine nO (some 55) ?_
     refine oI 5 (some 58) HT_.out (fun K hK => ?_)
     refine gO Tryd.func84 #[.int .i64 t531, .int .i64 t534] ?_
     with_reducible refine (spec_FpMul.calls t531 t534 t536 _ A109.out).mono ?_
     rintro e w' ⟨rfl, ⟨nd, rfl⟩⟩
     refine ⟨_, rfl, ?_⟩
     refine hK.out _ _ ⟨bc BK523 0, bc BK523 1, bc BK523 2, bc BK525 0, bc BK525 1, bc BK525 2⟩ (fun hHeld => ?_)
     clear hK K
     refine nO (some 58) ?_
     refine oI 6 (some 59) HT_.out (fun K hK => ?_)
     refine gO Tryd.func85 #[.int .i64 t535, .int .i64 t536] ?_
     with_reducible refine (spec_FpSub.calls t535 t536 t537 _ A110.out).mono ?_
     rintro e w' ⟨rfl, ⟨nd, rfl⟩⟩
     refine ⟨_, rfl, ?_⟩
     refine hK.out _ _ ⟨bc BK523 0, bc BK523 1, bc BK523 2, bc BK525 0, bc BK525 1, bc BK525 2⟩ (fun hHeld => ?_)
     clear hK K
     refine nO (some 59) ?_
     refine pI 9 (some 62) HT_.out ?_
     refine oI 10 (none) HT_.out (fun K hK => ?_)
     have hs123 : w122.cell? ⟨gb526, 0, none⟩ = some (.int .i64 0) := bc BK526 0
     have hfs123 := blk_frozen BK526.out 0
     have hns123_0 := NB523_526.out
     have hns123_1 := NB524_526.out
     have hns123_2 := NB525_526.out
     have hns123_4 := NB527_526.out
     have hms123_0 := NB526_523.out
     have hms123_1 := NB526_524.out
     have hms123_2 := NB526_525.out
     have hms123_4 := NB526_527.out
     have hs124 : w122.cell? ⟨gb526, 1, none⟩ = some (.int .i64 0) := bc BK526 1
     have hfs124 := blk_frozen BK526.out 1
     have hns124_0 := NB523_526.out
     have hns124_1 := NB524_526.out
     have hns124_2 := NB525_526.out
     have hns124_4 := NB527_526.out
     have hms124_0 := NB526_523.out
     have hms124_1 := NB526_524.out
     have hms124_2 := NB526_525.out
     have hms124_4 := NB526_527.out
     refine skip_ (w1 := ?_) (by rfl) rfl ?_ ?_
     rotate_left
     ·go_simp
      rfl
     refine hK.out _ _ ⟨((cell_far (p := ⟨gb526, _, none⟩) NB523_526.out _).trans (((cell_far (p := ⟨gb526, _, none⟩) NB523_526.out _).trans (hHeld.1)))), ((cell_far (p := ⟨gb526, _, none⟩) NB523_526.out _).trans (((cell_far (p := ⟨gb526, _, none⟩) NB523_526.out _).trans (hHeld.2.1)))), ((cell_far (p := ⟨gb526, _, none⟩) NB523_526.out _).trans (((cell_far (p := ⟨gb526, _, none⟩) NB523_526.out _).trans (hHeld.2.2.1)))), ((cell_far (p := ⟨gb526, _, none⟩) NB525_526.out _).trans (((cell_far (p := ⟨gb526, _, none⟩) NB525_526.out _).trans (hHeld.2.2.2.1)))), ((cell_far (p := ⟨gb526, _, none⟩) NB525_526.out _).trans (((cell_far (p := ⟨gb526, _, none⟩) NB525_526.out _).trans (hHeld.2.2.2.2.1)))), ((cell_far (p := ⟨gb526, _, none⟩) NB525_526.out _).trans (((cell_far (p := ⟨gb526, _, none⟩) NB525_526.out _).trans (hHeld.2.2.2.2.2))))⟩ (fun hHeld => ?_)
     clear hK K
     refine done_ (done_of HT_.out (by kernel_rfl)) ?_
     try go_wp2
     refine rC gb526 80 #[.int .i64 t537, .int .i64 a2_1] (bU BK526) Tryd.underlying80 ?_
     exact ⟨rR, bZ HB⟩
    ·replace c105 := Bool.eq_false_iff.mpr c105
     subst c105
     rw [if_neg (show ¬ (false = true) by decide)] at H
     simp only [Option.some.injEq, Prod.mk.injEq] at H
     obtain ⟨rfl, rfl⟩ := H
     have hnb125 := NB523_524.out
     have hnc125 := NB524_523.out
     have hnb126 := NB523_525.out
     have hnc126 := NB525_523.out
     have hnb127 := NB523_526.out
     have hnc127 := NB526_523.out
     have hnb128 := NB523_527.out
     have hnc128 := NB527_523.out
     obtain ⟨hcz129_0, hcz129_1, hcz129_2, hfz129_0, hfz129_1, hfz129_2⟩ := bK3 (w := wc) BK523
     have hnb130 := NB524_525.out
     have hnc130 := NB525_524.out
     have hnb131 := NB524_526.out
     have hnc131 := NB526_524.out
     have hnb132 := NB524_527.out
     have hnc132 := NB527_524.out
     obtain ⟨hcz133_0, hcz133_1, hcz133_2, hfz133_0, hfz133_1, hfz133_2⟩ := bK3 (w := wc) BK524
     go_wp2_with (first | ((with_reducible refine gate_callee (f := 120) rfl ?_); refine gL (some 41) Tryd.func120 #[.agg #[.int .i64 a0_0, .int .i64 a0_1, .bool a0_2], .agg #[.int .i64 a1_0, .int .i64 a1_1, .bool a1_2]] ?_; (with_reducible refine (spec_l07Slope.calls kj3 a0_0 a0_1 a0_2 a1_0 a1_1 a1_2 t531 false _ A104.out).mono ?_); rintro e w134 ⟨rfl, hb⟩; refine ⟨_, rfl, ?_⟩; replace BK523 := bB BK523 hb; replace BK524 := bB BK524 hb; replace BK525 := bB BK525 hb; replace BK526 := bB BK526 hb; replace BK527 := bB BK527 hb; replace HB := bS HB hb; (try clear hb); have hnb135 := NB527_525.out; have hnc135 := NB525_527.out; have hnb136 := NB527_526.out; have hnc136 := NB526_527.out; obtain ⟨hcz137_0, hcz137_1, hfz137_0, hfz137_1⟩ := bK2 (w := w134) BK527; have hnb138 := NB526_525.out; have hnc138 := NB525_526.out; obtain ⟨hcz139_0, hcz139_1, hfz139_0, hfz139_1⟩ := bK2 (w := w134) BK526))
     refine rC gb526 80 #[.int .i64 1, .int .i64 0] (bU BK526) Tryd.underlying80 ?_
     exact ⟨rR, bZ HB⟩
end Go.Proofs.YtkdmplfldfagnaaDoor.Pf
end
