/- What is proved here: part 2 of 5 of the proof of the given statement FnExactAllSigOk: the contracts of the Go functions that it reaches, the plain facts on lists and numbers, and (in the last part) the statement itself. No conditions beyond the given ones. -/
import Derived.Test.YtkdmplfldfagnaaDoorMFnExactAllSigOka
import Derived.Test.YtkdmplfldfagnaaDoorMFnExactAllSigOkwSlim
import Derived.ArgAppend

section
/- What is proved here: steps of Keccak as the program and the reference write it: what each function answers. No conditions but those that each theorem names. -/
namespace Go.Proofs.YtkdmplfldfagnaaDoor.Kp
open Go.RowKit Go.Proofs.YtkdmplfldfagnaaDoorW.PrintWords Go.Proofs.YtkdmplfldfagnaaDoorW.PrintLast Go.Proofs.YtkdmplfldfagnaaDoorW.PrintMore
set_option linter.unusedVariables false
set_option linter.unusedSimpArgs false
theorem run_loadA {P : Program} {W : World} {o : Oper} {ρ : Operand → Value} {t e : TypeId} {x : Operand} {g : Nat} {cs : Array Value} (ho : o.op = .load t x) (hp : ρ x = .pointer (some ⟨g, 0, none⟩)) (hb : W.heap[g]? = some (.cells cs e (0, 0))) {d : TypeDesc}
    (hu : P.underlying t = some d) (hd : (match d with | .struct _ | .array _ _ => true | _ => false) = true) (hi : (P.info? t).map (·.size) = some cs.size) : (execOp ρ o).run P W = .ok (.value (.agg cs)) W := by
  unfold execOp
  rw [ho]
  simp only [hp, Instr.loadAt, Instr.sureAddr, Sem.run_bind, Sem.run_pure, Result.andThen_ok, run_loadVar_row W g e t cs (0, 0) d hb hu hd hi]
theorem run_storeA {P : Program} {W : World} {o : Oper} {ρ : Operand → Value} {t e : TypeId} {x y : Operand} {g : Nat} {cs old : Array Value} (ho : o.op = .store t x y) (hp : ρ x = .pointer (some ⟨g, 0, none⟩)) (hv : ρ y = .agg cs) (hb : W.heap[g]? = some (.cells old e (0, 0)))
    (hi : (P.info? t).map (·.size) = some cs.size) (hold : old.size = cs.size) (h1 : cs.all (·.oneCell') = true) : (execOp ρ o).run P W = .ok .skip (W.setRow g cs) := by
  unfold execOp
  rw [ho]
  simp only [hp, hv, Instr.storeAt, Instr.sureAddr, Sem.run_bind, Sem.run_pure, Result.andThen_ok, run_storeVar_row W g e t old cs hb hi hold h1]
def allS (s : List Int) : Nat → List Int
  | 0 => s
  | k + 1 => roundS (allS s k) (ga rcL k)
theorem allS_len (s : List Int) (k : Nat) : (allS s k).length = s.length := by
  induction k with
  | zero => rfl
  | succ k ih => simp [allS, roundS_len, ih]
def spec_l03All.T6 : Bool × List (List Nat × List Nat) := (true, [([], []), ([], []), ([], []), ([2], [2]), ([3], [3]), ([0, 1, 4], [0, 1, 4]), ([5, 5, 0, 1, 2, 3, 4, 5], [5])])
def spec_l03All.B6 : List Nat := [0, 0, 0, 4, 12, 31, 63]
theorem spec_l03All.tab6 : rtab .any (opsOf Tryd.f81 6) = spec_l03All.T6 := by kernel_rfl
theorem spec_l03All.bits6 : waitsOk spec_l03All.T6.2 spec_l03All.B6 = true := by kernel_rfl
set_option maxHeartbeats 8000000 in
set_option maxRecDepth 100000 in
theorem spec_l03All.calls (s : List Int) (hs : s.length = 25) (w : World) :
    Calls Tryd.prog 81 #[.agg (ue s)] w fun e w' => e = .returned (.agg (ue (allS s 24))) ∧ Below w.heap.size w w' := by
  have HB := Aside0.mk (Below.refl w.heap.size w)
  have HS := Aside0.mk hs
  clear hs
  go_enter Tryd.func81, Tryd.ntmps81
  go_wp2_with (first | ((with_reducible refine gate_dst (N := 1) rfl ?_); refine box_event ?hg (N := 1) ?hd (cs := ue s) (t := 92) ?hr ?_; (case hd => rfl); (case hg => rfl); (case hr => first | (go_simp; done) | (go_simp; rfl)); intro gs hg w1_ hbox hb; have n0_ := Aside0.mk (below_then (show Below w.heap.size w _ by repeat (first | exact HB.out | apply Below.drew | apply pw_below_drewN)) (Below.size (show Below w.heap.size w _ by repeat (first | exact HB.out | apply Below.drew | apply pw_below_drewN))) hb); have n1_ := Aside0.mk (show w.heap.size ≤ gs by rw [hg]; exact (Below.size (show Below w.heap.size w _ by repeat (first | exact HB.out | apply Below.drew | apply pw_below_drewN)))); have BKs := Aside0.mk hbox; clear  HB; have HB := n0_; have GEs := n1_; clear n0_ n1_ hb hbox hg) | ((with_reducible refine gate_dst (N := 2) rfl ?_); refine box_event ?hg (N := 2) ?hd (cs := ue (List.replicate 25 0)) (t := 92) ?hr ?_; (case hd => rfl); (case hg => rfl); (case hr => first | (go_simp; done) | (go_simp; rfl)); intro gr hg w1_ hbox hb; have n0_ := Aside0.mk (blk_below (by (with_reducible repeat (first | refine blk_drewN ?_ _ | refine blk_drew ?_)); exact BKs.out) hb); have n1_ := Aside0.mk (below_then (show Below w.heap.size w _ by repeat (first | exact HB.out | apply Below.drew | apply pw_below_drewN)) (Below.size (show Below w.heap.size w _ by repeat (first | exact HB.out | apply Below.drew | apply pw_below_drewN))) hb); have n2_ := Aside0.mk (show w.heap.size ≤ gr by rw [hg]; exact (Below.size (show Below w.heap.size w _ by repeat (first | exact HB.out | apply Below.drew | apply pw_below_drewN)))); have n3_ := Aside0.mk (show gs ≠ gr by rw [hg]; exact Nat.ne_of_lt (blk_lt (o := .cells _ _ _) (by (with_reducible repeat (first | refine blk_drewN ?_ _ | refine blk_drew ?_)); exact BKs.out))); have BKr := Aside0.mk hbox; clear BKs HB; have BKs := n0_; have HB := n1_; have GEr := n2_; have NEsr := n3_; clear n0_ n1_ n2_ n3_ hb hbox hg) | (go_at_call 116; (with_reducible refine (spec_l03Offsets.calls _).mono ?_); rintro e w1_ ⟨rfl, hb⟩; have n0_ := Aside0.mk (below_then (show Below w.heap.size w _ by repeat (first | exact HB.out | apply Below.drew | apply pw_below_drewN)) (Below.size (show Below w.heap.size w _ by repeat (first | exact HB.out | apply Below.drew | apply pw_below_drewN))) hb); have m0_ := Aside0.mk (blk_below (by (with_reducible repeat (first | refine blk_drewN ?_ _ | refine blk_drew ?_)); exact BKs.out) hb); have m1_ := Aside0.mk (blk_below (by (with_reducible repeat (first | refine blk_drewN ?_ _ | refine blk_drew ?_)); exact BKr.out) hb); clear HB BKs BKr hb; have HB := n0_; have BKs := m0_; have BKr := m1_; clear n0_ m0_ m1_) | ((with_reducible refine gate_dst (N := 3) rfl ?_); refine box_event ?hg (N := 3) ?hd (cs := ue (List.replicate 25 0)) (t := 111) ?hr ?_; (case hd => rfl); (case hg => rfl); (case hr => first | (go_simp; done) | (go_simp; rfl)); intro go hg w1_ hbox hb; have n0_ := Aside0.mk (blk_below (by (with_reducible repeat (first | refine blk_drewN ?_ _ | refine blk_drew ?_)); exact BKs.out) hb); have n1_ := Aside0.mk (blk_below (by (with_reducible repeat (first | refine blk_drewN ?_ _ | refine blk_drew ?_)); exact BKr.out) hb); have n2_ := Aside0.mk (below_then (show Below w.heap.size w _ by repeat (first | exact HB.out | apply Below.drew | apply pw_below_drewN)) (Below.size (show Below w.heap.size w _ by repeat (first | exact HB.out | apply Below.drew | apply pw_below_drewN))) hb); have n3_ := Aside0.mk (show w.heap.size ≤ go by rw [hg]; exact (Below.size (show Below w.heap.size w _ by repeat (first | exact HB.out | apply Below.drew | apply pw_below_drewN)))); have n4_ := Aside0.mk (show gs ≠ go by rw [hg]; exact Nat.ne_of_lt (blk_lt (o := .cells _ _ _) (by (with_reducible repeat (first | refine blk_drewN ?_ _ | refine blk_drew ?_)); exact BKs.out))); have n5_ := Aside0.mk (show gr ≠ go by rw [hg]; exact Nat.ne_of_lt (blk_lt (o := .cells _ _ _) (by (with_reducible repeat (first | refine blk_drewN ?_ _ | refine blk_drew ?_)); exact BKr.out))); have BKo := Aside0.mk hbox; clear BKs BKr HB; have BKs := n0_; have BKr := n1_; have HB := n2_; have GEo := n3_; have NEso := n4_; have NEro := n5_; clear n0_ n1_ n2_ n3_ n4_ n5_ hb hbox hg) | ((with_reducible refine gate_store (t := 111) (p := 3) rfl ?_); refine store_row_event rfl 111 _ _ rfl go (ue (turnsL)) rfl rfl 111 (ue (List.replicate 25 0)) (by (with_reducible repeat (first | refine blk_drewN ?_ _ | refine blk_drew ?_)); exact BKo.out) (by kernel_rfl) rfl (ue_one _) ?_; intro w9_ h1_ h2_ h3_; have n0_ := Aside0.mk (h3_ w.heap.size w (show Below w.heap.size w _ by repeat (first | exact HB.out | apply Below.drew | apply pw_below_drewN)) GEo.out); have m0_ := Aside0.mk ((h2_ gs NEso.out).trans (by (with_reducible repeat (first | refine blk_drewN ?_ _ | refine blk_drew ?_)); exact BKs.out)); have m1_ := Aside0.mk ((h2_ gr NEro.out).trans (by (with_reducible repeat (first | refine blk_drewN ?_ _ | refine blk_drew ?_)); exact BKr.out)); clear HB BKo BKs BKr; have HB := n0_; have BKo := Aside0.mk h1_; have BKs := m0_; have BKr := m1_; clear n0_ h1_ h2_ h3_ m0_ m1_) | (go_at_call 117; (with_reducible refine (spec_l03Rounds.calls _).mono ?_); rintro e w1_ ⟨rfl, hb⟩; have n0_ := Aside0.mk (below_then (show Below w.heap.size w _ by repeat (first | exact HB.out | apply Below.drew | apply pw_below_drewN)) (Below.size (show Below w.heap.size w _ by repeat (first | exact HB.out | apply Below.drew | apply pw_below_drewN))) hb); have m0_ := Aside0.mk (blk_below (by (with_reducible repeat (first | refine blk_drewN ?_ _ | refine blk_drew ?_)); exact BKs.out) hb); have m1_ := Aside0.mk (blk_below (by (with_reducible repeat (first | refine blk_drewN ?_ _ | refine blk_drew ?_)); exact BKr.out) hb); have m2_ := Aside0.mk (blk_below (by (with_reducible repeat (first | refine blk_drewN ?_ _ | refine blk_drew ?_)); exact BKo.out) hb); clear HB BKs BKr BKo hb; have HB := n0_; have BKs := m0_; have BKr := m1_; have BKo := m2_; clear n0_ m0_ m1_ m2_) | ((with_reducible refine gate_dst (N := 4) rfl ?_); refine box_event ?hg (N := 4) ?hd (cs := ue (List.replicate 24 0)) (t := 113) ?hr ?_; (case hd => rfl); (case hg => rfl); (case hr => first | (go_simp; done) | (go_simp; rfl)); intro gk hg w1_ hbox hb; have n0_ := Aside0.mk (blk_below (by (with_reducible repeat (first | refine blk_drewN ?_ _ | refine blk_drew ?_)); exact BKs.out) hb); have n1_ := Aside0.mk (blk_below (by (with_reducible repeat (first | refine blk_drewN ?_ _ | refine blk_drew ?_)); exact BKr.out) hb); have n2_ := Aside0.mk (blk_below (by (with_reducible repeat (first | refine blk_drewN ?_ _ | refine blk_drew ?_)); exact BKo.out) hb); have n3_ := Aside0.mk (below_then (show Below w.heap.size w _ by repeat (first | exact HB.out | apply Below.drew | apply pw_below_drewN)) (Below.size (show Below w.heap.size w _ by repeat (first | exact HB.out | apply Below.drew | apply pw_below_drewN))) hb); have n4_ := Aside0.mk (show w.heap.size ≤ gk by rw [hg]; exact (Below.size (show Below w.heap.size w _ by repeat (first | exact HB.out | apply Below.drew | apply pw_below_drewN)))); have n5_ := Aside0.mk (show gs ≠ gk by rw [hg]; exact Nat.ne_of_lt (blk_lt (o := .cells _ _ _) (by (with_reducible repeat (first | refine blk_drewN ?_ _ | refine blk_drew ?_)); exact BKs.out))); have n6_ := Aside0.mk (show gr ≠ gk by rw [hg]; exact Nat.ne_of_lt (blk_lt (o := .cells _ _ _) (by (with_reducible repeat (first | refine blk_drewN ?_ _ | refine blk_drew ?_)); exact BKr.out))); have n7_ := Aside0.mk (show go ≠ gk by rw [hg]; exact Nat.ne_of_lt (blk_lt (o := .cells _ _ _) (by (with_reducible repeat (first | refine blk_drewN ?_ _ | refine blk_drew ?_)); exact BKo.out))); have BKk := Aside0.mk hbox; clear BKs BKr BKo HB; have BKs := n0_; have BKr := n1_; have BKo := n2_; have HB := n3_; have GEk := n4_; have NEsk := n5_; have NErk := n6_; have NEok := n7_; clear n0_ n1_ n2_ n3_ n4_ n5_ n6_ n7_ hb hbox hg) | ((with_reducible refine gate_store (t := 113) (p := 4) rfl ?_); refine store_row_event rfl 113 _ _ rfl gk (ue (rcL)) rfl rfl 113 (ue (List.replicate 24 0)) (by (with_reducible repeat (first | refine blk_drewN ?_ _ | refine blk_drew ?_)); exact BKk.out) (by kernel_rfl) rfl (ue_one _) ?_; intro w9_ h1_ h2_ h3_; have n0_ := Aside0.mk (h3_ w.heap.size w (show Below w.heap.size w _ by repeat (first | exact HB.out | apply Below.drew | apply pw_below_drewN)) GEk.out); have m0_ := Aside0.mk ((h2_ gs NEsk.out).trans (by (with_reducible repeat (first | refine blk_drewN ?_ _ | refine blk_drew ?_)); exact BKs.out)); have m1_ := Aside0.mk ((h2_ gr NErk.out).trans (by (with_reducible repeat (first | refine blk_drewN ?_ _ | refine blk_drew ?_)); exact BKr.out)); have m2_ := Aside0.mk ((h2_ go NEok.out).trans (by (with_reducible repeat (first | refine blk_drewN ?_ _ | refine blk_drew ?_)); exact BKo.out)); clear HB BKk BKs BKr BKo; have HB := n0_; have BKk := Aside0.mk h1_; have BKs := m0_; have BKr := m1_; have BKo := m2_; clear n0_ h1_ h2_ h3_ m0_ m1_ m2_))
  go_loopg [5] 25 (fun kq v5 w' => ∃ (k : Nat) (x : Int), v5 = .int .i64 x ∧ Aside0 (x = (k : Int) ∧ k + kq = 25 ∧ k ≤ 24) ∧ Aside0 (w'.heap[gs]? = some (.cells (ue (allS s k)) 92 (0, 0))) ∧ Aside0 (w'.heap[gr]? = some (.cells (ue (List.replicate 25 0)) 92 (0, 0))) ∧ Aside0 (w'.heap[go]? = some (.cells (ue (turnsL)) 111 (0, 0))) ∧ Aside0 (w'.heap[gk]? = some (.cells (ue (rcL)) 113 (0, 0))) ∧ Aside0 (Below w.heap.size w w'))
  case atStart => exact ⟨0, 0, rfl, ⟨rfl, rfl, by decide⟩, ⟨by (with_reducible repeat (first | refine blk_drewN ?_ _ | refine blk_drew ?_)); exact BKs.out⟩, ⟨by (with_reducible repeat (first | refine blk_drewN ?_ _ | refine blk_drew ?_)); exact BKr.out⟩, ⟨by (with_reducible repeat (first | refine blk_drewN ?_ _ | refine blk_drew ?_)); exact BKo.out⟩, ⟨by (with_reducible repeat (first | refine blk_drewN ?_ _ | refine blk_drew ?_)); exact BKk.out⟩, ⟨(show Below w.heap.size w _ by repeat (first | exact HB.out | apply Below.drew | apply pw_below_drewN))⟩⟩
  case round =>
    clear BKs BKr BKo BKk HB
    obtain ⟨K1, x, rfl, HK1, BKs, BKr, BKo, BKk, HB⟩ := hrel
    cases gk with
    | zero => exact absurd HK1.out (by omega)
    | succ k1 =>
      by_cases c : K1 < 24
      · have c0 : decide (x < 24) = true := decide_eq_true (by have := HK1.out; omega)
        have HC1 := Aside0.mk c
        clear c
        have px : (0 ≤ x) = True := eq_true (by have := HK1.out; have := HC1.out; omega)
        have qx : (x < 24) = True := eq_true (by have := HK1.out; have := HC1.out; omega)
        have hc0 : wr.cell? ⟨gk, x.toNat, none⟩ = some (.int .u64 (ga rcL x.toNat)) := (blk_cell BKk.out _).trans (ue_get (by show x.toNat < 24; have := HK1.out; have := HC1.out; omega))
        have HZ1 := Aside0.mk (show (Tryd.prog.info? 92).map (·.size) = some (ue (allS s K1)).size by rw [ue_size, allS_len, HS.out]; kernel_rfl)
        obtain ⟨nv, hnv⟩ : ∃ y_ : List Int, y_ = roundS (allS s K1) (ga rcL x.toNat) := ⟨_, rfl⟩
        have HNL := Aside0.mk (show nv.length = 25 by rw [hnv, roundS_len, allS_len, HS.out])
        have HNV := Aside0.mk hnv
        clear hnv
        have HZ2 := Aside0.mk (show (Tryd.prog.info? 92).map (·.size) = some (ue nv).size by rw [ue_size, HNL.out]; kernel_rfl)
        have HZ3 := Aside0.mk (show (ue (allS s K1)).size = (ue nv).size by rw [ue_size, ue_size, HNL.out, allS_len, HS.out])
        go_wp2
        refine start_ (n := 7) (S := fun w' => w'.heap[gs]? = some (.cells (ue (allS s K1)) 92 (0, 0)) ∧ w'.heap[go]? = some (.cells (ue turnsL) 111 (0, 0)) ∧ w'.cell? ⟨gk, x.toNat, none⟩ = some (.int .u64 (ga rcL x.toNat))) (ds := [6]) #[false, false, false, false, false, false, false] (by kernel_rfl) rfl rfl ⟨(by (with_reducible repeat (first | refine blk_drewN ?_ _ | refine blk_drew ?_)); exact BKs.out), (by (with_reducible repeat (first | refine blk_drewN ?_ _ | refine blk_drew ?_)); exact BKo.out), (by exact hc0)⟩ (fun hHeld => ?_)
        refine with_tabW spec_l03All.tab6 spec_l03All.bits6 (fun HT_ HW_ => ?_)
        refine pI 2 (some 14) HT_.out ?_
        refine pI 3 (some 15) HT_.out ?_
        refine take_ (i := 0) (N := some 12) (v := ?_) (a' := ?_) #[true, false, true, true, false, false, false] rfl rfl (take_ofW HT_.out HW_.out (by kernel_rfl)) (fun _ _ _ h => h) (Or.inl ⟨by rfl, ?_⟩) hHeld ?_ ?_
        rotate_left
        · rintro w' ⟨s0, s1, s2⟩
          refine run_loadA (t := 92) (x := .tmp 1) ?_ ?_ s0 Tryd.underlying92 rfl HZ1.out
          all_goals rfl
        rotate_left
        · simp only [Act.put, List.setIfInBounds_toArray, List.set_cons_zero, List.set_cons_succ, i64_w, i32_w]
          rfl
        refine take_ (i := 1) (N := some 13) (v := ?_) (a' := ?_) #[true, true, true, true, false, false, false] rfl rfl (take_ofW HT_.out HW_.out (by kernel_rfl)) (fun _ _ _ h => h) (Or.inl ⟨by rfl, ?_⟩) hHeld ?_ ?_
        rotate_left
        · rintro w' ⟨s0, s1, s2⟩
          refine run_loadA (t := 111) (x := .tmp 3) ?_ ?_ s1 Tryd.underlying111 rfl (by kernel_rfl)
          all_goals rfl
        rotate_left
        · simp only [Act.put, List.setIfInBounds_toArray, List.set_cons_zero, List.set_cons_succ, i64_w, i32_w]
          rfl
        refine tI3 4 (some 16) HT_.out HW_.out hHeld ?_
        refine oI 5 (some 17) HT_.out (fun K hK => ?_)
        refine goes_ Tryd.func118 (by kernel_rfl) rfl #[.agg (ue (allS s K1)), .agg (ue turnsL), .int .u64 (ga rcL x.toNat)] (by rfl) rfl rfl (by simp only [List.map_toArray, List.map_cons, List.map_nil]; rfl) ?_
        with_reducible refine (spec_l03Round.calls (allS s K1) (by rw [allS_len]; exact HS.out) (ga rcL x.toNat) _).mono ?_
        rintro e w3_ ⟨rfl, hb⟩
        rw [← HNV.out]
        have nB_ := Aside0.mk (below_then (show Below w.heap.size w _ by repeat (first | exact HB.out | apply Below.drew | apply pw_below_drewN)) (Below.size (show Below w.heap.size w _ by repeat (first | exact HB.out | apply Below.drew | apply pw_below_drewN))) hb)
        have ms_ := Aside0.mk (blk_below (by (with_reducible repeat (first | refine blk_drewN ?_ _ | refine blk_drew ?_)); exact BKs.out) hb)
        have mr_ := Aside0.mk (blk_below (by (with_reducible repeat (first | refine blk_drewN ?_ _ | refine blk_drew ?_)); exact BKr.out) hb)
        have mo_ := Aside0.mk (blk_below (by (with_reducible repeat (first | refine blk_drewN ?_ _ | refine blk_drew ?_)); exact BKo.out) hb)
        have mk_ := Aside0.mk (blk_below (by (with_reducible repeat (first | refine blk_drewN ?_ _ | refine blk_drew ?_)); exact BKk.out) hb)
        refine ⟨_, rfl, ?_⟩
        refine hK.out _ _ ⟨(by exact ms_.out), (by exact mo_.out), ((blk_cell mk_.out _).trans (ue_get (by show x.toNat < 24; have := HK1.out; have := HC1.out; omega)))⟩ (fun hHeld => ?_)
        clear hK K
        refine nO (some 17) ?_
        refine last_ (i := 6) (N := none) #[true, true, true, true, true, true, true] rfl rfl (one_of HT_.out (by kernel_rfl)) (by decide) (fun K hK => ?_)
        refine skip_ (w1 := World.setRow w3_ gs (ue nv)) (by rfl) rfl ?_ ?_
        · refine run_storeA (t := 92) (x := .tmp 1) (y := .tmp 17) ?_ ?_ ?_ ms_.out HZ2.out HZ3.out (ue_one _)
          all_goals rfl
        refine hK.out _ _ ?_
        clear hK K
        refine done_ (done_of HT_.out (by kernel_rfl)) ?_
        have q0_ := Aside0.mk (below_setRow nB_.out GEs.out (ue nv))
        have q1_ := Aside0.mk (setRow_heap w3_ gs _ (ue nv) _ _ ms_.out)
        have qr_ := Aside0.mk ((setRow_other w3_ gs gr (ue nv) NEsr.out.symm).trans mr_.out)
        have qo_ := Aside0.mk ((setRow_other w3_ gs go (ue nv) NEso.out.symm).trans mo_.out)
        have qk_ := Aside0.mk ((setRow_other w3_ gs gk (ue nv) NEsk.out.symm).trans mk_.out)
        clear HB BKs BKr BKo BKk
        generalize World.setRow w3_ gs (ue nv) = w8_ at q0_ q1_ qr_ qo_ qk_ ⊢
        have HB := q0_
        have BKs := q1_
        have BKr := qr_
        have BKo := qo_
        have BKk := qk_
        clear q0_ q1_ qr_ qo_ qk_ nB_ ms_ mr_ mo_ mk_
        go_wp2
        go_roundg k1
        case measure => omega
        case rel => exact ⟨K1 + 1, _, rfl, ⟨by have := HK1.out; have := HC1.out; first | omega | (unfold wrap64; omega), by have := HK1.out; have := HC1.out; omega, by have := HK1.out; have := HC1.out; omega⟩, ⟨by have h_ := BKs.out; rw [HNV.out, show x.toNat = K1 by have := HK1.out; have := HC1.out; omega] at h_; (with_reducible repeat (first | refine blk_drewN ?_ _ | refine blk_drew ?_)); exact h_⟩, ⟨by (with_reducible repeat (first | refine blk_drewN ?_ _ | refine blk_drew ?_)); exact BKr.out⟩, ⟨by (with_reducible repeat (first | refine blk_drewN ?_ _ | refine blk_drew ?_)); exact BKo.out⟩, ⟨by (with_reducible repeat (first | refine blk_drewN ?_ _ | refine blk_drew ?_)); exact BKk.out⟩, ⟨(show Below w.heap.size w _ by repeat (first | exact HB.out | apply Below.drew | apply pw_below_drewN))⟩⟩
      · have c0 : decide (x < 24) = false := decide_eq_false (by have := HK1.out; omega)
        obtain rfl : K1 = 24 := by have := HK1.out; omega
        clear c
        have HZ1 := Aside0.mk (show (Tryd.prog.info? 92).map (·.size) = some (ue (allS s 24)).size by rw [ue_size, allS_len, HS.out]; kernel_rfl)
        have HZ2 := Aside0.mk (show (ue (List.replicate 25 0)).size = (ue (allS s 24)).size by rw [ue_size, ue_size, allS_len, HS.out, List.length_replicate])
        go_wp2_with (first | ((with_reducible refine gate_dst (N := 18) rfl ?_); refine wpList_load_row rfl 92 _ rfl gs rfl 92 (ue (allS s 24)) (0, 0) _ (by (with_reducible repeat (first | refine blk_drewN ?_ _ | refine blk_drew ?_)); exact BKs.out) Tryd.underlying92 rfl HZ1.out ?_) | ((with_reducible refine gate_store (t := 92) (p := 2) rfl ?_); refine store_row_event rfl 92 _ _ rfl gr (ue (allS s 24)) rfl rfl 92 (ue (List.replicate 25 0)) (by (with_reducible repeat (first | refine blk_drewN ?_ _ | refine blk_drew ?_)); exact BKr.out) HZ1.out HZ2.out (ue_one _) ?_; intro w9_ h1_ h2_ h3_; have n0_ := Aside0.mk (h3_ w.heap.size w (show Below w.heap.size w _ by repeat (first | exact HB.out | apply Below.drew | apply pw_below_drewN)) GEr.out); clear HB BKr; have HB := n0_; have BKr := Aside0.mk h1_; clear n0_ h1_ h2_ h3_))
        refine bodyPost_ret (results_cell_row rfl _ _ gr 92 (ue (allS s 24)) (0, 0) _ rfl (by (with_reducible repeat (first | refine blk_drewN ?_ _ | refine blk_drew ?_)); exact BKr.out) Tryd.underlying92 rfl HZ1.out) rfl ?_
        exact ⟨rfl, (show Below w.heap.size w _ by repeat (first | exact HB.out | apply Below.drew | apply pw_below_drewN))⟩
end Go.Proofs.YtkdmplfldfagnaaDoor.Kp
end
section
/- What is proved here: steps of Keccak as the program and the reference write it: what each function answers. No conditions but those that each theorem names. -/
namespace Go.Proofs.YtkdmplfldfagnaaDoor.Kp
open Go.RowKit Go.Proofs.YtkdmplfldfagnaaDoorW.PrintWords Go.Proofs.YtkdmplfldfagnaaDoorW.PrintLast Go.Proofs.YtkdmplfldfagnaaDoorW.PrintMore
set_option linter.unusedVariables false
set_option linter.unusedSimpArgs false
def u8e (xs : List Int) : Array Value := (xs.map (Value.int .u8)).toArray
theorem u8e_get {xs : List Int} {i : Nat} (h : i < xs.length) : (u8e xs)[i]? = some (.int .u8 (ga xs i)) := by
  unfold u8e ga
  rw [List.getElem?_toArray, List.getElem?_map, List.getElem?_eq_getElem h, List.getD_eq_getElem?_getD, List.getElem?_eq_getElem h]
  rfl
theorem u8e_set (xs : List Int) (i : Nat) (v : Int) : (u8e xs).setIfInBounds i (.int .u8 v) = u8e (xs.set i v) := by
  unfold u8e
  rw [List.setIfInBounds_toArray, List.map_set]
theorem made200 : madeCells (Value.int .u8 0).cells (200 * 1) = u8e (List.replicate 200 0) := by kernel_rfl
section
variable {P : Program} {ops : Array Oper} {rest : List Oper} {o : Oper} {a : Act} {Q : Exit → Act → World → Prop}
theorem make_event {W : World} (hgd : o.guard = none) {N : Tmp} (_hd : o.dst = some N) {t e : TypeId} {x y : Operand} (ho : o.op = .makeSlice t x y) {i : TypeInfo} {z : Value} (ht : P.underlying t = some (.slice e)) (hi : P.info? e = some i) (hz : i.zero = some z)
    (n : Nat) (hx : a.eval x = .int .i64 (n : Int)) (hy : a.eval y = .int .i64 (n : Int)) (hb : (i.bytes : Int) * n ≤ 281474976710656) (h63 : n ≤ 1000000)
    (h : ∀ g, g = W.heap.size → ∀ w1, w1.heap[g]? = some (.cells (madeCells z.cells (n * i.size)) e (0, 0)) → Below W.heap.size W w1 → wpList P ops Q rest (a.put o.dst (.slice (some ⟨g, 0, none⟩) n n)) w1) : wpList P ops Q (o :: rest) a W := by
  have hr := run_make (P := P) W t e i z ht hi hz .i64 .i64 (n : Int) (n : Int) (by omega) (by omega) hb (by omega)
  simp only [Int.toNat_natCast] at hr
  refine Kd.event_run hgd (v := .slice (some ⟨W.heap.size, 0, none⟩) n n) (w1 := W.alloc (.cells (madeCells z.cells (n * i.size)) e)) ?_ (h _ rfl _ (blk_new W _) (below_alloc (Below.refl _ _) _))
  unfold execOp
  rw [ho]
  dsimp only
  rw [hx, hy, Sem.run_bind, hr]
  rfl
end
def byteS (a : List Int) (k : Nat) : Int := ga a (k / 8) / 2 ^ min (((8 * (k % 8) : Nat) : Int)).toNat 64 % 256
def tby (a : List Int) : Nat → List Int
  | 0 => List.replicate 200 0
  | k + 1 => (tby a k).set k (byteS a k)
theorem tby_len (a : List Int) (k : Nat) : (tby a k).length = 200 := by
  induction k with
  | zero => rfl
  | succ k ih => simp [tby, ih]
set_option maxHeartbeats 4000000 in
set_option maxRecDepth 100000 in
theorem spec_l03Text.calls (s : List Int) (hs : s.length = 25) (w : World) :
    Calls Tryd.prog 82 #[.agg (ue s)] w fun e w' => e = .returned (.string (strOfNums (tby s 200))) ∧ Below w.heap.size w w' := by
  have HB := Aside0.mk (Below.refl w.heap.size w)
  have HS := Aside0.mk hs
  clear hs
  obtain ⟨i0, hi, hz0, hz1, hz2⟩ := info_parts info5
  go_enter Tryd.func82, Tryd.ntmps82
  go_wp2_with (first | ((with_reducible refine gate_dst (N := 1) rfl ?_); refine box_event ?hg (N := 1) ?hd (cs := ue s) (t := 92) ?hr ?_; (case hd => rfl); (case hg => rfl); (case hr => first | (go_simp; done) | (go_simp; rfl)); intro gs hg w1_ hbox hb; have n0_ := Aside0.mk (below_then (show Below w.heap.size w _ by repeat (first | exact HB.out | apply Below.drew | apply pw_below_drewN)) (Below.size (show Below w.heap.size w _ by repeat (first | exact HB.out | apply Below.drew | apply pw_below_drewN))) hb); have BKs := Aside0.mk hbox; clear HB; have HB := n0_; clear n0_ hb hbox hg) | ((with_reducible refine gate_dst (N := 5) rfl ?_); refine make_event ?hg (N := 5) ?hd (t := 46) (e := 5) rfl Tryd.underlying46 hi hz0 200 rfl rfl (by rw [hz2]; decide) (by decide) ?_; (case hd => rfl); (case hg => rfl); intro gb hg w2_ hbox hb; have n0_ := Aside0.mk (below_then (show Below w.heap.size w _ by repeat (first | exact HB.out | apply Below.drew | apply pw_below_drewN)) (Below.size (show Below w.heap.size w _ by repeat (first | exact HB.out | apply Below.drew | apply pw_below_drewN))) hb); have m0_ := Aside0.mk (blk_below (by (with_reducible repeat (first | refine blk_drewN ?_ _ | refine blk_drew ?_)); exact BKs.out) hb); have GEs := Aside0.mk (show w.heap.size ≤ gb by rw [hg]; exact Below.size (show Below w.heap.size w _ by repeat (first | exact HB.out | apply Below.drew | apply pw_below_drewN))); have NE := Aside0.mk (show gs ≠ gb by rw [hg]; exact Nat.ne_of_lt (blk_lt (o := .cells _ _ _) (by (with_reducible repeat (first | refine blk_drewN ?_ _ | refine blk_drew ?_)); exact BKs.out))); have BKb := Aside0.mk (show w2_.heap[gb]? = some (.cells (u8e (List.replicate 200 0)) 5 (0, 0)) by rw [← made200, ← hz1]; exact hbox); clear HB BKs; have HB := n0_; have BKs := m0_; clear n0_ m0_ hb hbox hg))
  go_loopg [4] 201 (fun kq v4 w' => ∃ (k : Nat) (x : Int), v4 = .int .i64 x ∧ Aside0 (x = (k : Int) ∧ k + kq = 201 ∧ k ≤ 200) ∧ Aside0 (w'.heap[gs]? = some (.cells (ue s) 92 (0, 0))) ∧ Aside0 (w'.heap[gb]? = some (.cells (u8e (tby s k)) 5 (0, 0))) ∧ Aside0 (Below w.heap.size w w'))
  case atStart => exact ⟨0, 0, rfl, ⟨rfl, rfl, by decide⟩, ⟨by (with_reducible repeat (first | refine blk_drewN ?_ _ | refine blk_drew ?_)); exact BKs.out⟩, ⟨by (with_reducible repeat (first | refine blk_drewN ?_ _ | refine blk_drew ?_)); exact BKb.out⟩, ⟨(by repeat (first | exact HB.out | apply Below.drew | apply pw_below_drewN | refine Below.setCell ?_ GEs.out _))⟩⟩
  case round =>
    clear BKs BKb HB
    obtain ⟨K1, x, rfl, HK1, BKs, BKb, HB⟩ := hrel
    cases gk with
    | zero => exact absurd HK1.out (by omega)
    | succ k1 =>
      by_cases c : K1 < 200
      · have c0 : decide (x < 200) = true := decide_eq_true (by have := HK1.out; omega)
        have HC1 := Aside0.mk c
        clear c
        obtain ⟨q, hq, eq⟩ : ∃ y_, Int.tdiv x 8 = y_ ∧ Aside0 (y_ = ((K1 / 8 : Nat) : Int)) := ⟨_, rfl, ⟨by have := HK1.out; rw [Int.tdiv_eq_ediv_of_nonneg (by omega)]; omega⟩⟩
        have hwq : wrap64 q = q := by have := eq.out; have := HC1.out; unfold wrap64; omega
        obtain ⟨m, hm, em⟩ : ∃ y_, Int.tmod x 8 = y_ ∧ Aside0 (y_ = ((K1 % 8 : Nat) : Int)) := ⟨_, rfl, ⟨by have := HK1.out; rw [Int.tmod_eq_emod_of_nonneg (by omega)]; omega⟩⟩
        have hu1 : IntKind.u64.wrap m = m := by have := em.out; rw [IntKind.wrap_u64]; omega
        obtain ⟨n, hn, en⟩ : ∃ y_, IntKind.u64.wrap (8 * m) = y_ ∧ Aside0 (y_ = ((8 * (K1 % 8) : Nat) : Int)) := ⟨_, rfl, ⟨by have := em.out; rw [IntKind.wrap_u64]; omega⟩⟩
        have pq : (0 ≤ q) = True := eq_true (by have := eq.out; omega)
        have qq : (q < 25) = True := eq_true (by have := eq.out; have := HC1.out; omega)
        have px : (0 ≤ x) = True := eq_true (by have := HK1.out; omega)
        have qx : (x < 200) = True := eq_true (by have := HK1.out; have := HC1.out; omega)
        have pn : (0 ≤ n) = True := eq_true (by have := en.out; omega)
        have hc0 : wr.cell? ⟨gs, q.toNat, none⟩ = some (.int .u64 (ga s q.toNat)) := (blk_cell BKs.out _).trans (ue_get (by rw [HS.out]; have := eq.out; have := HC1.out; omega))
        have hst : wr.cell? ⟨gb, x.toNat, none⟩ = some (.int .u8 (ga (tby s K1) x.toNat)) := (blk_cell BKb.out _).trans (u8e_get (by rw [tby_len]; have := HK1.out; have := HC1.out; omega))
        have hfz : wr.frozen? ⟨gb, x.toNat, none⟩ = false := blk_frozen BKb.out _
        go_wp2
        go_roundg k1
        case measure => omega
        case rel => exact ⟨K1 + 1, _, rfl, ⟨by have := HK1.out; first | omega | (unfold wrap64; omega), by have := HK1.out; omega, by have := HK1.out; have := HC1.out; omega⟩, ⟨by (with_reducible repeat (first | refine blk_drewN ?_ _ | refine blk_drew ?_)); refine blk_far ?_ (p := ⟨gb, _, none⟩) NE.out _; (with_reducible repeat (first | refine blk_drewN ?_ _ | refine blk_drew ?_)); exact BKs.out⟩, ⟨by (with_reducible repeat (first | refine blk_drewN ?_ _ | refine blk_drew ?_)); refine blk_put (cs := u8e (tby s K1)) (by (with_reducible repeat (first | refine blk_drewN ?_ _ | refine blk_drew ?_)); exact BKb.out) x.toNat _ ?_; rw [u8e_set]; simp only [tby, byteS]; rw [show x.toNat = K1 by have := HK1.out; omega, show q.toNat = K1 / 8 by have := eq.out; omega, en.out]⟩, ⟨(by repeat (first | exact HB.out | apply Below.drew | apply pw_below_drewN | refine Below.setCell ?_ GEs.out _))⟩⟩
      · have c0 : decide (x < 200) = false := decide_eq_false (by have := HK1.out; omega)
        obtain rfl : K1 = 200 := by have := HK1.out; omega
        clear c
        go_wp2_with (first | ((with_reducible refine gate_dst (N := 24) rfl ?_); refine conv2_event ?hg (N := 24) ?hd (src := 46) (dst := 9) (e := 5) rfl (g := gb) (n := 200) (c := 200) ?hx Tryd.underlying46 Tryd.underlying5 Tryd.underlying9 (tby s 200) ?hlen ?hcell ?_; (case hg => rfl); (case hd => rfl); (case hx => rfl); (case hlen => exact tby_len s 200); (case hcell => intro i hi; exact (blk_cell (by (with_reducible repeat (first | refine blk_drewN ?_ _ | refine blk_drew ?_)); exact BKb.out) i).trans (u8e_get (by rw [tby_len]; exact hi)))))
        go_ret
        exact ⟨rfl, (by repeat (first | exact HB.out | apply Below.drew | apply pw_below_drewN | refine Below.setCell ?_ GEs.out _))⟩
end Go.Proofs.YtkdmplfldfagnaaDoor.Kp
end
section
/- What is proved here: steps of Keccak as the program and the reference write it: what each function answers. No conditions but those that each theorem names. -/
namespace Go.Proofs.YtkdmplfldfagnaaDoor.Kp
open Go.RowKit Go.Proofs.YtkdmplfldfagnaaDoorW.PrintWords Go.Proofs.YtkdmplfldfagnaaDoorW.PrintLast Go.Proofs.YtkdmplfldfagnaaDoorW.PrintMore
set_option linter.unusedVariables false
set_option linter.unusedSimpArgs false
theorem setCells_one (w : World) (g o : Nat) (v : Value) : w.setCells g o [v] = w.setCell ⟨g, o, none⟩ v := by
  first | rfl | simp [World.setCells]
def BR (w : World) (base : Nat) (v : Value) (xs : List Int) : Prop := ∃ g c cs fr, v = .slice (some ⟨g, 0, none⟩) xs.length c ∧ base ≤ g ∧ w.heap[g]? = some (.cells cs 5 fr) ∧ c ≤ cs.size ∧ xs.length ≤ cs.size ∧ (fr = (0, 0) ∨ fr = (cs.size, cs.size + 1)) ∧ ∀ i, i < xs.length → cs[i]? = some (.int .u8 (ga xs i))
theorem BR.move {w w' : World} {base : Nat} {v : Value} {xs : List Int} (h : BR w base v xs) (hb : Below w.heap.size w w') : BR w' base v xs := by
  obtain ⟨g, c, cs, fr, h1, h2, h3, h4⟩ := h
  exact ⟨g, c, cs, fr, h1, h2, (hb.block g (blk_lt h3)).trans h3, h4⟩
theorem fr_no {w : World} {g i : Nat} {cs : Array Value} {t : TypeId} {fr : Nat × Nat} (h : w.heap[g]? = some (.cells cs t fr)) (hf : fr = (0, 0) ∨ fr = (cs.size, cs.size + 1)) (hi : i < cs.size) : w.frozen? ⟨g, i, none⟩ = false := by
  unfold World.frozen?
  dsimp only
  rw [h]
  rcases hf with rfl | rfl
  · simp
  · dsimp only
    rw [decide_eq_false (by omega)]; rfl
section
variable {P : Program} {ops : Array Oper} {rest : List Oper} {o : Oper} {a : Act} {Q : Exit → Act → World → Prop}
theorem conv_eventB {W : World} (hgd : o.guard = none) {N : Tmp} (_hd : o.dst = some N) {src dst : TypeId} {x : Operand} (ho : o.op = .convert src dst x) {S : ByteArray} (hx : a.eval x = .string S)
    (hs : P.underlying src = some .string) (hd : P.underlying dst = some (.slice 5)) (he : P.underlying 5 = some (.int .u8)) {base : Nat} (hbase : base ≤ W.heap.size)
    (h : ∀ v w1, BR w1 base v (nb S) → Below W.heap.size W w1 → wpList P ops Q rest (a.put o.dst v) w1) : wpList P ops Q (o :: rest) a W := by
  have hcs : (Lib.bytesCells W 5 S).size = S.size + (grownCap W S.size 0 5 - S.size) := by
    unfold Lib.bytesCells
    rw [Array.size_append, Array.size_map, Array.size_replicate]
    rfl
  refine Kd.event_run hgd (v := .slice (some ⟨W.heap.size, 0, none⟩) S.size (grownCap W S.size 0 5)) (w1 := Lib.bytesWorld W 5 S) ?_ (h _ _ ⟨W.heap.size, _, Lib.bytesCells W 5 S, _, by rw [nb_len], hbase, Lib.bytesWorld_at_new W 5 S, by omega, by rw [nb_len]; omega, Or.inr rfl, fun i hi => ?_⟩ (below_bytesWorld W 5 S))
  · have := Lib.run_convert_string_bytes (P := P) W src dst 5 S hs hd he
    unfold execOp
    rw [ho]
    dsimp only
    rw [hx]
    rw [Sem.run_bind, this]
    rfl
  · rw [nb_len] at hi
    rw [← cell_of_row _ _ i _ _ _ (Lib.bytesWorld_at_new W 5 S), Lib.bytesWorld_cell W 5 S i hi, nb_get _ _ hi]
theorem br_append {W w0 : World} (hgd : o.guard = none) (s x : Operand) (t : TypeId) (hop : o.op = Op.call { callee := Callee.builtin Builtin.append, args := #[s, x], argTypes := #[t, t] })
    (i : TypeInfo) (h1 : P.underlying t = some (.slice 5)) (h2 : P.info? 5 = some i) (h3 : i.zero = some (.int .u8 0)) (h4 : i.size = 1) (h5 : i.bytes = 1)
    {v : Value} {xs : List Int} {y : Int} {base : Nat} (hs : a.eval s = v) (HR : BR W base v xs) {gx : Nat} (hx : a.eval x = .slice (some ⟨gx, 0, none⟩) 1 1) (hxb : W.heap[gx]? = some (.cells #[.int .u8 y] 5 (0, 0)))
    (hB : Below base w0 W) (hbase : base ≤ W.heap.size) (hl : xs.length ≤ 140737488352000)
    (h : ∀ v' w', BR w' base v' (xs ++ [y]) → Below base w0 w' → wpList P ops Q rest (a.put o.dst v') w') : wpList P ops Q (o :: rest) a W := by
  obtain ⟨g, c, cs, fr, rfl, hg, hb, hc, hn, hf, hcs⟩ := HR
  refine wpList_append_arg (P := P) W hgd s x t hop 5 i (.int .u8 0) 1 1 h1 h2 h3 h4 h5 rfl (by decide) g 0 xs.length c (xs.map (Value.int .u8)) hs (by simp) ?_ ⟨gx, 0, none⟩ 1 1 [.int .u8 y] hx rfl ?_ ?_ ?_ (by unfold maxLen; omega) (by omega) ?_ ?_
  · intro j u hj
    have hjl : j < xs.length := by
      rcases Nat.lt_or_ge j xs.length with h | h
      · exact h
      · simp [List.getElem?_eq_none (show (xs.map (Value.int .u8)).length ≤ j by simpa using h)] at hj
    rw [Nat.zero_add, cell_of_row W g j cs _ _ hb, hcs j hjl]
    rw [List.getElem?_map, List.getElem?_eq_getElem hjl] at hj
    rw [← hj]
    unfold ga
    rw [List.getD_eq_getElem?_getD, List.getElem?_eq_getElem hjl]
    rfl
  · intro j u hj
    have hj0 : j = 0 := by
      rcases Nat.lt_or_ge j 1 with h | h
      · omega
      · simp [List.getElem?_eq_none (show [(Value.int .u8 y)].length ≤ j by simpa using h)] at hj
    subst hj0
    have hadd : (⟨gx, 0, none⟩ : Addr).add 0 = ⟨gx, 0, none⟩ := rfl
    rw [hadd, blk_cell hxb]
    exact hj
  · intro u hu
    rw [List.mem_singleton] at hu
    subst hu
    rfl
  · intro hr j hj
    have hj0 : j = 0 := by simpa using hj
    subst hj0
    have hlt : 0 + xs.length * 1 + 0 < cs.size := by omega
    exact ⟨by rw [cell_of_row W g _ cs _ _ hb, Array.getElem?_eq_getElem hlt]; rfl, fr_no hb hf hlt⟩
  · intro hr
    rw [setCells_one]
    refine h _ _ ⟨g, c, cs.setIfInBounds (0 + xs.length * 1) (.int .u8 y), fr, by simp, hg, blkf_set hb _ _, by simpa using hc, by simp; omega, by simpa using hf, fun i hi => ?_⟩ (hB.setCell hg _)
    rw [List.length_append, List.length_singleton] at hi
    rw [Array.getElem?_setIfInBounds]
    unfold ga
    by_cases e : xs.length = i
    · subst e
      rw [if_pos (by omega), if_pos (by omega), List.getD_eq_getElem?_getD, List.getElem?_append_right (Nat.le_refl _)]
      simp
    · rw [if_neg (by omega), hcs i (by omega), List.getD_eq_getElem?_getD, List.getElem?_append_left (by omega)]
      unfold ga
      rw [List.getD_eq_getElem?_getD]
  · intro hr v' w' ho hgr
    obtain ⟨hlen, ho⟩ := ho
    rcases ho with ⟨_, h0⟩ | ⟨g', cap, cur, rfl, hbg, hh, hle, _, hsz, htk⟩
    · omega
    · refine h _ _ ⟨g', cap, cur, (0, 0), by simp, Nat.le_trans hbase hbg, hh, by omega, by simp; omega, Or.inl rfl, fun i hi => ?_⟩ (hB.grown hgr hbase (fun _ h => by cases h))
      rw [List.length_append, List.length_singleton] at hi
      have e : cur[i]? = (xs.map (Value.int .u8) ++ [.int .u8 y])[i]? := by
        rw [← htk, List.getElem?_take, if_pos (by omega)]
        simp
      rw [e]
      unfold ga
      rw [List.getD_eq_getElem?_getD]
      by_cases e2 : xs.length = i
      · subst e2
        simp
      · rw [List.getElem?_append_left (by simp; omega), List.getElem?_append_left (by omega), List.getElem?_map, List.getElem?_eq_getElem (by omega)]
        rfl
end
end Go.Proofs.YtkdmplfldfagnaaDoor.Kp
end
section
/- What is proved here: steps of Keccak as the program and the reference write it: what each function answers. No conditions but those that each theorem names. -/
namespace Go.Proofs.YtkdmplfldfagnaaDoor.Kp
open Go.RowKit Go.Proofs.YtkdmplfldfagnaaDoorW.PrintWords Go.Proofs.YtkdmplfldfagnaaDoorW.PrintLast Go.Proofs.YtkdmplfldfagnaaDoorW.PrintMore
set_option linter.unusedVariables false
set_option linter.unusedSimpArgs false
theorem BR.form {w : World} {base : Nat} {v : Value} {xs : List Int} (h : BR w base v xs) : ∃ g c, v = .slice (some ⟨g, 0, none⟩) xs.length c := by
  obtain ⟨g, c, cs, fr, h1, _⟩ := h
  exact ⟨g, c, h1⟩
theorem lit_event {P : Program} {ops : Array Oper} {rest : List Oper} {o : Oper} {a : Act} {Q : Exit → Act → World → Prop} {W : World} (hgd : o.guard = none) {N : Tmp} (_hd : o.dst = some N) {cs : Array Value} {t : TypeId} {n : Nat}
    (hrun : (execOp a.eval o).run P W = .ok (.value (.slice (some ⟨W.heap.size, 0, none⟩) n n)) (W.alloc (.cells cs t (0, 0))))
    (h : ∀ g, g = W.heap.size → ∀ w1, w1.heap[g]? = some (.cells cs t (0, 0)) → Below W.heap.size W w1 → wpList P ops Q rest (a.put o.dst (.slice (some ⟨g, 0, none⟩) n n)) w1) : wpList P ops Q (o :: rest) a W :=
  Kd.event_run hgd hrun (h _ rfl _ (blk_new W _) (below_alloc (Below.refl _ _) _))
def pk (t : ByteArray) (k : Nat) : List Int := nb t ++ [1] ++ List.replicate k 0
theorem pk_len (t : ByteArray) (k : Nat) : (pk t k).length = t.size + 1 + k := by
  unfold pk
  rw [List.length_append, List.length_append, List.length_replicate, nb_len]
  rfl
theorem pk_succ (t : ByteArray) (k : Nat) : pk t k ++ [0] = pk t (k + 1) := by
  unfold pk
  rw [List.replicate_succ', List.append_assoc (nb t ++ [1])]
theorem pk_pad (t : ByteArray) : pk t (135 - t.size % 136) = padRaw (nb t) := by
  unfold pk padRaw
  rw [nb_len]
set_option maxHeartbeats 4000000 in
set_option maxRecDepth 100000 in
theorem spec_KeccakPad.calls (t : ByteArray) (ht : t.size ≤ 140737488351232) (w : World) :
    Calls Tryd.prog 79 #[.string t] w fun e w' => e = .returned (.string (strOfNums (padL (nb t)))) ∧ Below w.heap.size w w' := by
  have HB := Aside0.mk (Below.refl w.heap.size w)
  have HTt := Aside0.mk ht
  clear ht
  obtain ⟨i0, hi, hz0, hz1, hz2⟩ := info_parts info5
  obtain ⟨Z, hZ⟩ : ∃ Z, Z = 135 - t.size % 136 := ⟨_, rfl⟩
  have HZ := Aside0.mk hZ
  clear hZ
  go_enter Tryd.func79, Tryd.ntmps79
  go_wp2_with (first | ((with_reducible refine gate_dst (N := 5) rfl ?_); refine conv_eventB ?hg (N := 5) ?hd (src := 9) (dst := 46) (S := t) rfl ?hx Tryd.underlying9 Tryd.underlying46 Tryd.underlying5 (base := w.heap.size) (Below.size (show Below w.heap.size w _ by repeat (first | exact HB.out | apply Below.drew | apply pw_below_drewN))) ?_; (case hg => rfl); (case hd => rfl); (case hx => rfl); intro v1_ w1_ hbr hb; have n0_ := Aside0.mk (below_then (show Below w.heap.size w _ by repeat (first | exact HB.out | apply Below.drew | apply pw_below_drewN)) (Below.size (show Below w.heap.size w _ by repeat (first | exact HB.out | apply Below.drew | apply pw_below_drewN))) hb); have HBR := Aside0.mk hbr; clear HB; have HB := n0_; clear n0_ hb hbr) | ((with_reducible refine gate_dst (N := 7) rfl ?_); refine lit_event ?hg (N := 7) ?hd (cs := #[.int .u8 1]) (t := 5) (n := 1) ?hr ?_; (case hd => rfl); (case hg => rfl); (case hr => first | (go_simp; done) | (go_simp; rfl)); intro gx hg w2_ hbox hb; have n0_ := Aside0.mk (below_then (show Below w.heap.size w _ by repeat (first | exact HB.out | apply Below.drew | apply pw_below_drewN)) (Below.size (show Below w.heap.size w _ by repeat (first | exact HB.out | apply Below.drew | apply pw_below_drewN))) hb); have n1_ := Aside0.mk (BR.move (by exact HBR.out) hb); have BKx := Aside0.mk hbox; clear HB HBR; have HB := n0_; have HBR := n1_; clear n0_ n1_ hb hbox hg) | ((with_reducible refine gate_builtin (b := .append) (xs := #[.tmp 6, .tmp 7]) rfl ?_); at_builtin; refine br_append (w0 := w) rfl (.tmp 6) (.tmp 7) 46 rfl i0 Tryd.underlying46 hi hz0 hz1 hz2 rfl (by exact HBR.out) rfl (by exact BKx.out) (show Below w.heap.size w _ by repeat (first | exact HB.out | apply Below.drew | apply pw_below_drewN)) (Below.size (show Below w.heap.size w _ by repeat (first | exact HB.out | apply Below.drew | apply pw_below_drewN))) (by rw [nb_len]; have := HTt.out; omega) ?_; intro v3_ w3_ hbr hb; have n0_ := Aside0.mk hb; have n1_ := Aside0.mk (show BR w3_ w.heap.size v3_ (pk t 0) by have h_ := hbr; unfold pk; rw [List.replicate_zero, List.append_nil]; exact h_); clear HB HBR; have HB := n0_; have HBR := n1_; clear n0_ n1_ hb hbr))
  go_loopg [3] (Z + 1) (fun kq v3 w' => ∃ (k : Nat) (u : Value), v3 = u ∧ Aside0 (k + kq = Z + 1 ∧ k ≤ Z) ∧ Aside0 (BR w' w.heap.size u (pk t k)) ∧ Aside0 (Below w.heap.size w w'))
  case atStart => exact ⟨0, _, rfl, ⟨by omega, by omega⟩, ⟨by exact HBR.out⟩, ⟨(show Below w.heap.size w _ by repeat (first | exact HB.out | apply Below.drew | apply pw_below_drewN))⟩⟩
  case round =>
    clear HB HBR BKx
    obtain ⟨K1, u, rfl, HK1, HBR, HB⟩ := hrel
    cases gk with
    | zero => exact absurd HK1.out (by omega)
    | succ k1 =>
      obtain ⟨g, cp, hv⟩ := HBR.out.form
      subst hv
      obtain ⟨n, hn⟩ : ∃ n, n = (pk t K1).length := ⟨_, rfl⟩
      have HN := Aside0.mk (show n = t.size + 1 + K1 by rw [hn, pk_len])
      have HNe := Aside0.mk hn
      rw [← hn] at HBR ⊢
      clear hn
      obtain ⟨m, hm, em⟩ : ∃ y_, Int.tmod (n : Int) 136 = y_ ∧ Aside0 (y_ = ((n % 136 : Nat) : Int)) := ⟨_, rfl, ⟨by rw [Int.tmod_eq_emod_of_nonneg (by omega)]; omega⟩⟩
      by_cases c : K1 < Z
      · have cm : m ≠ 0 := by have := em.out; have := HN.out; have := HZ.out; omega
        have c0 : (m == 0) = false := beq_eq_false_iff_ne.mpr cm
        have c1 : (m != 0) = true := bne_iff_ne.mpr cm
        have HC1 := Aside0.mk c
        clear c cm
        go_wp2_with (first | ((with_reducible refine gate_dst (N := 14) rfl ?_); refine lit_event ?hg (N := 14) ?hd (cs := #[.int .u8 0]) (t := 5) (n := 1) ?hr ?_; (case hd => rfl); (case hg => rfl); (case hr => first | (go_simp; done) | (go_simp; rfl)); intro gx hg w2_ hbox hb; have n0_ := Aside0.mk (below_then (show Below w.heap.size w _ by repeat (first | exact HB.out | apply Below.drew | apply pw_below_drewN)) (Below.size (show Below w.heap.size w _ by repeat (first | exact HB.out | apply Below.drew | apply pw_below_drewN))) hb); have n1_ := Aside0.mk (BR.move (by exact HBR.out) hb); have BKx := Aside0.mk hbox; clear HB HBR; have HB := n0_; have HBR := n1_; clear n0_ n1_ hb hbox hg) | ((with_reducible refine gate_builtin (b := .append) (xs := #[.tmp 13, .tmp 14]) rfl ?_); at_builtin; refine br_append (w0 := w) rfl (.tmp 13) (.tmp 14) 46 rfl i0 Tryd.underlying46 hi hz0 hz1 hz2 rfl (by exact HBR.out) rfl (by exact BKx.out) (show Below w.heap.size w _ by repeat (first | exact HB.out | apply Below.drew | apply pw_below_drewN)) (Below.size (show Below w.heap.size w _ by repeat (first | exact HB.out | apply Below.drew | apply pw_below_drewN))) (by rw [← HNe.out]; have := HTt.out; have := HN.out; have := HC1.out; have := HZ.out; omega) ?_; intro v3_ w3_ hbr hb; have n0_ := Aside0.mk hb; have n1_ := Aside0.mk (show BR w3_ w.heap.size v3_ (pk t (K1 + 1)) by rw [← pk_succ]; exact hbr); clear HB HBR; have HB := n0_; have HBR := n1_; clear n0_ n1_ hb hbr))
        go_roundg k1
        case measure => omega
        case rel => exact ⟨K1 + 1, _, rfl, ⟨by have := HK1.out; omega, by have := HC1.out; omega⟩, ⟨by exact HBR.out⟩, ⟨(show Below w.heap.size w _ by repeat (first | exact HB.out | apply Below.drew | apply pw_below_drewN))⟩⟩
      · obtain rfl : K1 = Z := by have := HK1.out; omega
        have cm : m = 0 := by have := em.out; have := HN.out; have := HZ.out; omega
        have c0 : (m == 0) = true := beq_iff_eq.mpr cm
        have c1 : (m != 0) = false := bne_eq_false_iff_eq.mpr cm
        clear c cm
        have HPK := Aside0.mk (show pk t K1 = padRaw (nb t) by rw [HZ.out]; exact pk_pad t)
        obtain ⟨g', c', cs, fr, hv, hg, hb, hc, hn, hf, hcs⟩ := HBR.out
        obtain ⟨rfl, rfl⟩ : g = g' ∧ cp = c' := by injection hv with h1 _ h3; injection h1 with h1; injection h1 with h1; exact ⟨h1, h3⟩
        have HBK := Aside0.mk hb
        have GEs := Aside0.mk hg
        have HSC := Aside0.mk (show n ≤ cs.size by rw [HNe.out]; exact hn)
        have HFR := Aside0.mk hf
        have HCE := Aside0.mk (show ∀ i, i < n → cs[i]? = some (.int .u8 (ga (padRaw (nb t)) i)) by intro i hi; rw [← HPK.out]; exact hcs i (by rw [← HNe.out]; exact hi))
        clear hv hg hb hc hn hf hcs
        obtain ⟨li, hli, eli⟩ : ∃ y_, wrap64 ((n : Int) - 1) = y_ ∧ Aside0 (y_ = ((n - 1 : Nat) : Int)) := ⟨_, rfl, ⟨by have := HN.out; have := HTt.out; have := HZ.out; unfold wrap64; omega⟩⟩
        have pl : (0 ≤ li) = True := eq_true (by have := eli.out; omega)
        have ql : (li < (n : Int)) = True := eq_true (by have := eli.out; have := HN.out; omega)
        have hcl : wr.cell? ⟨g, li.toNat, none⟩ = some (.int .u8 (ga (padRaw (nb t)) li.toNat)) := (cell_of_row wr g _ cs _ _ HBK.out).trans (HCE.out _ (by have := eli.out; have := HN.out; omega))
        have hfz : wr.frozen? ⟨g, li.toNat, none⟩ = false := fr_no HBK.out HFR.out (by have := eli.out; have := HN.out; have := HSC.out; omega)
        go_wp2_with (first | ((with_reducible refine gate_dst (N := 29) rfl ?_); refine conv2_event ?hg (N := 29) ?hd (src := 46) (dst := 9) (e := 5) rfl (g := g) (n := n) (c := cp) ?hx Tryd.underlying46 Tryd.underlying5 Tryd.underlying9 (padL (nb t)) ?hlen ?hcell ?_; (case hg => rfl); (case hd => rfl); (case hx => rfl); (case hlen => rw [padL_len, ← HPK.out, ← HNe.out]); (case hcell => intro i hi; refine (cell_of_row _ g i _ _ _ (blkf_set HBK.out li.toNat _)).trans ?_; rw [show li.toNat = n - 1 by have := eli.out; omega]; exact pad_cells (by rw [← HPK.out, ← HNe.out]) (by omega) HSC.out HCE.out i hi)))
        go_ret
        exact ⟨rfl, (by repeat (first | exact HB.out | apply Below.drew | apply pw_below_drewN | refine Below.setCell ?_ GEs.out _))⟩
end Go.Proofs.YtkdmplfldfagnaaDoor.Kp
end
section
namespace Go.Proofs.YtkdmplfldfagnaaDoor.Kp
open Go.RowKit Go.Proofs.YtkdmplfldfagnaaDoorW.PrintWords Go.Proofs.YtkdmplfldfagnaaDoorW.PrintLast Go.Proofs.YtkdmplfldfagnaaDoorW.PrintMore
attribute [local go_sem] max2_int min2_int max_two min_two max_three min_three max_four min_four   -- for this text's walks alone
set_option linter.unusedVariables false
set_option linter.unusedSimpArgs false
/-! ### spec_l03Word: function 80 -/
def spec_l03Word.l0 : Nat → ByteArray → Int → Int → Int → Option (Int)
 | 0, _, _, _, _ => none
 | k + 1, x0, x1, x5, x6 => if x6 ≥ 0 then (if 0 ≤ (wrap64 (x1 + x6)) then (if (wrap64 (x1 + x6)) < (x0.size : Int) then (spec_l03Word.l0 k x0 x1 (Go.bits .or .u64 (IntKind.u64.wrap (x5 * 256)) (IntKind.u64.wrap (bt x0 (wrap64 (x1 + x6))))) (wrap64 (x6 - 1))) else (none)) else (none)) else (some x5)
def spec_l03Word.f (k : Nat) (a0 : ByteArray) (a1 : Int) : Option (Int) := spec_l03Word.l0 k a0 a1 0 7
theorem spec_l03Word.mono_l : ∀ k, (∀ y0 y1 y2 y3, LeO (spec_l03Word.l0 k y0 y1 y2 y3) (spec_l03Word.l0 (k + 1) y0 y1 y2 y3))
 | 0 => fun _ _ _ _ r h => by simp [spec_l03Word.l0] at h
 | k + 1 => by
  have ih0 := spec_l03Word.mono_l k
  ·intro y0 y1 y2 y3
   unfold spec_l03Word.l0
   repeat' first
   | (with_reducible exact ih0 _ _ _ _)
   | (with_reducible exact LeO.refl _)
   | (with_reducible exact LeO.none _)
   | (with_reducible refine LeO.ite ?_ ?_)
   | (with_reducible refine LeO.bind ?_ (fun _ => ?_))
   | exact ih0 _ _ _ _
   | exact LeO.none _
   | refine LeO.ite ?_ ?_
   | refine LeO.bind ?_ (fun _ => ?_)
theorem spec_l03Word.mono : ∀ a0 a1 k, LeO (spec_l03Word.f k a0 a1) (spec_l03Word.f (k + 1) a0 a1) := by
 intro a0 a1 k
 have ih0 := spec_l03Word.mono_l k
 unfold spec_l03Word.f
 repeat' first
   | (with_reducible exact ih0 _ _ _ _)
   | (with_reducible exact LeO.refl _)
   | (with_reducible exact LeO.none _)
   | (with_reducible refine LeO.ite ?_ ?_)
   | (with_reducible refine LeO.bind ?_ (fun _ => ?_))
   | exact ih0 _ _ _ _
   | exact LeO.none _
   | refine LeO.ite ?_ ?_
   | refine LeO.bind ?_ (fun _ => ?_)
set_option maxHeartbeats 8000000 in
set_option maxRecDepth 100000 in
theorem spec_l03Word.calls (k : Nat) (a0 : ByteArray) (a1 : Int) (r : Int) (w : World) (h : spec_l03Word.f k a0 a1 = some r) :
  Calls Tryd.prog 80 #[.string a0, .int .i64 a1] w fun e w' => e = .returned (.int .u64 r) ∧ Drawn0 w w' := by
 have H : (spec_l03Word.l0 k a0 a1 0 7) = some r := h
 clear h
 have H' := Aside0.mk H
 clear H
 go_enter Tryd.func80, Tryd.ntmps80
 go_wp2
 go_loopg [5, 6] k (fun kq v5 v6 w' => ∃ (x5_1 : Int) (x6_1 : Int), v5 = .int .u64 x5_1 ∧ v6 = .int .i64 x6_1 ∧ Aside0 (spec_l03Word.l0 kq a0 a1 x5_1 x6_1 = some r) ∧ Aside0 (kq ≤ k) ∧ Drawn0 w w')
 case atStart => exact ⟨(0), (7), rS, rS, H', ⟨Nat.le_refl _⟩, by repeat (first | exact Drawn0.refl _ | apply Drawn0.step)⟩
 case round =>
  clear H'
  try clear p2
  obtain ⟨x5_1, x6_1, rfl, rfl, HA, HK1, ⟨m1, rfl⟩⟩ := hrel
  cases gk with
  | zero => exact absurd HA.out (by simp [spec_l03Word.l0])
  | succ k1 =>
   have H := HA.out
   clear HA
   simp only [spec_l03Word.l0] at H
   by_cases c3 : x6_1 ≥ 0
   ·rw [if_pos c3] at H
    have c3b0 : decide (0 ≤ x6_1) = true := decide_eq_true c3
    clear c3
    obtain ⟨ji4, hji4⟩ : ∃ j_ : Int, (wrap64 (a1 + x6_1)) = j_ := ⟨_, rfl⟩
    replace H : (if 0 ≤ (ji4) then (if (ji4) < (a0.size : Int) then (spec_l03Word.l0 k1 a0 a1 (Go.bits .or .u64 (IntKind.u64.wrap (x5_1 * 256)) (IntKind.u64.wrap (bt a0 (ji4)))) (wrap64 (x6_1 - 1))) else (none)) else (none)) = some r := by first | (rw [hji4] at H; exact H) | (simp only [hji4] at H ⊢; exact H)
    have hji4w : (IntKind.i64.wrap (a1 + x6_1)) = ji4 := (i64_w _).trans hji4
    by_cases c5 : 0 ≤ (ji4)
    ·rw [if_pos c5] at H
     have c5b0 : decide (0 ≤ (ji4)) = true := decide_eq_true c5
     clear c5
     by_cases c6 : (ji4) < (a0.size : Int)
     ·rw [if_pos c6] at H
      have c6b0 : decide ((ji4) < (a0.size : Int)) = true := decide_eq_true c6
      clear c6
      have H' := Aside0.mk H
      clear H
      have p7 : 0 ≤ ((ji4) : Int) := of_decide_eq_true (by first | (with_reducible assumption) | assumption)
      have q7 : (ji4) < (a0.size : Int) := of_decide_eq_true (by first | (with_reducible assumption) | assumption)
      have hx7 := bt_at a0 (ji4)
      replace p7 := eq_true p7
      replace q7 := eq_true q7
      go_wp2
      go_roundg k1
      case measure => have := HK1.out; omega
      case rel => exact ⟨(Go.bits .or .u64 (IntKind.u64.wrap (x5_1 * 256)) (IntKind.u64.wrap (bt a0 (ji4)))), (wrap64 (x6_1 - 1)), (by first | rfl | (simp; done) | (simp only [← hji4] <;> (first | rfl | simp)) | (simp [*]; done)), rS, H', ⟨by have := HK1.out; omega⟩, by repeat (first | exact Drawn0.refl _ | apply Drawn0.step)⟩
     ·rw [if_neg c6] at H
      exact absurd H (by simp)
    ·rw [if_neg c5] at H
     exact absurd H (by simp)
   ·rw [if_neg c3] at H
    have c3b0 : decide (0 ≤ x6_1) = false := decide_eq_false c3
    clear c3
    obtain rfl := Option.some.inj H
    go_wp2
    go_ret
    exact ⟨rS, rD⟩
end Go.Proofs.YtkdmplfldfagnaaDoor.Kp
end
section
/- What is proved here: steps of Keccak as the program and the reference write it: what each function answers. No conditions but those that each theorem names. -/
namespace Go.Proofs.YtkdmplfldfagnaaDoor.Kp
open Go.RowKit Go.Proofs.YtkdmplfldfagnaaDoorW.PrintWords Go.Proofs.YtkdmplfldfagnaaDoorW.PrintLast Go.Proofs.YtkdmplfldfagnaaDoorW.PrintMore
set_option linter.unusedVariables false
set_option linter.unusedSimpArgs false
theorem word_l0 (k : Nat) : ∀ (p : ByteArray) (a x i : Int), spec_l03Word.l0 k p a x i = impl_wordAt.l0 k p a x i := by
  induction k with
  | zero => intro p a x i; rfl
  | succ k ih => intro p a x i; simp only [spec_l03Word.l0, impl_wordAt.l0, ih]
theorem word_f (p : ByteArray) (a : Nat) (h : a + 8 ≤ p.size) (hp : p.size ≤ 281474976710656) : spec_l03Word.f 9 p (a : Int) = some (wv p a) := by
  rw [← wordAt_f p a h hp]
  exact word_l0 9 p _ _ _
def abstS (p : ByteArray) : Nat → List Int
  | 0 => List.replicate 25 0
  | j + 1 => allS (xst (abstS p j) p (136 * j) 17) 24
theorem abstS_len (p : ByteArray) (j : Nat) : (abstS p j).length = 25 := by
  induction j with
  | zero => rfl
  | succ j ih => simp only [abstS, allS_len, xst_len]; exact ih
def digS (t : ByteArray) : ByteArray := (strOfNums (tby (abstS (padT t) (t.size / 136 + 1)) 200)).extract 0 32
def spec_Digest.f (a0 : ByteArray) : Option ByteArray := if a0.size ≤ 140737488351232 then some (digS a0) else none
theorem tby_size (s : List Int) : (strOfNums (tby s 200)).size = 200 := by
  rw [strOf_size, tby_len]
def spec_Digest.T9 : Bool × List (List Nat × List Nat) := (true, [([], []), ([], []), ([1], [1]), ([2], [2]), ([], []), ([], []), ([], []), ([6], [6]), ([5, 7], [5, 7]), ([4, 8], [4, 8]), ([3, 9], [3, 9]), ([0, 0, 1, 2, 3, 4, 5, 6, 7, 8, 9, 10], [0]), ([11, 10, 9, 0, 1, 2, 3, 4, 5, 6, 7, 8, 9, 10], [10, 11])])
def spec_Digest.B9 : List Nat := [0, 0, 2, 6, 0, 0, 0, 64, 224, 496, 1022, 2047, 4095]
theorem spec_Digest.tab9 : rtab .any (opsOf Tryd.f41 9) = spec_Digest.T9 := by kernel_rfl
theorem spec_Digest.bits9 : waitsOk spec_Digest.T9.2 spec_Digest.B9 = true := by kernel_rfl
set_option maxHeartbeats 8000000 in
set_option maxRecDepth 100000 in
theorem spec_Digest.calls (t : ByteArray) (r : ByteArray) (w : World) (h : spec_Digest.f t = some r) :
    Calls Tryd.prog 41 #[.string t] w fun e w' => e = .returned (.string r) ∧ Below w.heap.size w w' := by
  unfold spec_Digest.f at h
  by_cases ht : t.size ≤ 140737488351232
  case neg => rw [if_neg ht] at h; exact absurd h (by simp)
  rw [if_pos ht] at h
  obtain rfl := Option.some.inj h
  clear h
  have HTt := Aside0.mk ht
  have HB := Aside0.mk (Below.refl w.heap.size w)
  clear ht
  obtain ⟨pd, hpd⟩ : ∃ p_, p_ = padT t := ⟨_, rfl⟩
  have HPD := Aside0.mk hpd
  have HPS := Aside0.mk (show pd.size = 136 * (t.size / 136 + 1) by rw [hpd]; exact padT_size t)
  clear hpd
  go_enter Tryd.func41, Tryd.ntmps41
  go_wp2_with (first | (go_at_call 79; (with_reducible refine (spec_KeccakPad.calls t HTt.out _).mono ?_); rintro e w1_ ⟨rfl, hb⟩; have n0_ := Aside0.mk (below_then (by repeat (first | exact HB.out | apply Below.drew | apply pw_below_drewN)) (Below.size (by repeat (first | exact HB.out | apply Below.drew | apply pw_below_drewN))) hb); clear HB; have HB := n0_; clear n0_ hb; rw [show strOfNums (padL (nb t)) = pd from HPD.out.symm]) | ((with_reducible refine gate_dst (N := 9) rfl ?_); refine wpList_buildA rfl 92 _ rfl (cs := ue (List.replicate 25 0)) ?hb ?_; (case hb => exact built0_92)) | ((with_reducible refine gate_dst (N := 4) rfl ?_); refine box_event ?hg (N := 4) ?hd (cs := ue (List.replicate 25 0)) (t := 92) ?hr ?_; (case hd => rfl); (case hg => rfl); (case hr => first | (go_simp; done) | (go_simp; rfl)); intro g hg w2_ hbox hb; have n0_ := Aside0.mk (below_then (by repeat (first | exact HB.out | apply Below.drew | apply pw_below_drewN)) (Below.size (by repeat (first | exact HB.out | apply Below.drew | apply pw_below_drewN))) hb); have GEs := Aside0.mk (show w.heap.size ≤ g by rw [hg]; exact Below.size (by repeat (first | exact HB.out | apply Below.drew | apply pw_below_drewN))); clear HB; have HB := n0_; have BKs := Aside0.mk hbox; clear n0_ hb hbox hg) | ((with_reducible refine gate_store (t := 92) (p := 4) rfl ?_); refine store_row_event rfl 92 _ _ rfl g (ue (List.replicate 25 0)) rfl rfl 92 (ue (List.replicate 25 0)) (by (with_reducible repeat (first | refine blk_drewN ?_ _ | refine blk_drew ?_)); exact BKs.out) (by kernel_rfl) rfl (ue_one _) ?_; intro w9_ h1_ h2_ h3_; have n0_ := Aside0.mk (h3_ w.heap.size w (by repeat (first | exact HB.out | apply Below.drew | apply pw_below_drewN | refine Below.setCell ?_ GEs.out _)) GEs.out); clear HB BKs; have HB := n0_; have BKs := Aside0.mk h1_; clear n0_ h1_ h2_ h3_))
  go_loopg [5] (t.size / 136 + 2) (fun kq v5 w' => ∃ (j : Nat) (x : Int), v5 = .int .i64 x ∧ Aside0 (x = ((136 * j : Nat) : Int) ∧ j + kq = t.size / 136 + 2 ∧ j ≤ t.size / 136 + 1) ∧ Aside0 (w'.heap[g]? = some (.cells (ue (abstS pd j)) 92 (0, 0))) ∧ Aside0 (Below w.heap.size w w'))
  case atStart => exact ⟨0, 0, rfl, ⟨rfl, by omega, by omega⟩, ⟨by (with_reducible repeat (first | refine blk_drewN ?_ _ | refine blk_drew ?_)); exact BKs.out⟩, ⟨(by repeat (first | exact HB.out | apply Below.drew | apply pw_below_drewN | refine Below.setCell ?_ GEs.out _))⟩⟩
  case round =>
    clear BKs HB
    obtain ⟨J, at_, rfl, HK1, BKs, HB⟩ := hrel
    cases gk with
    | zero => exact absurd HK1.out (by omega)
    | succ k1 =>
      by_cases c : J < t.size / 136 + 1
      · have c0 : decide (at_ < (pd.size : Int)) = true := decide_eq_true (by have := HK1.out; have := HPS.out; omega)
        have HC1 := Aside0.mk c
        clear c
        go_wp2
        go_loopg [6] 18 (fun kq v6 w' => ∃ (k : Nat) (x : Int), v6 = .int .i64 x ∧ Aside0 (x = (k : Int) ∧ k + kq = 18 ∧ k ≤ 17) ∧ Aside0 (w'.heap[g]? = some (.cells (ue (xst (abstS pd J) pd (136 * J) k)) 92 (0, 0))) ∧ Aside0 (Below w.heap.size w w'))
        case atStart => exact ⟨0, 0, rfl, ⟨rfl, rfl, by decide⟩, ⟨by (with_reducible repeat (first | refine blk_drewN ?_ _ | refine blk_drew ?_)); exact BKs.out⟩, ⟨(by repeat (first | exact HB.out | apply Below.drew | apply pw_below_drewN | refine Below.setCell ?_ GEs.out _))⟩⟩
        case round =>
          clear BKs HB c0
          obtain ⟨K2, x, rfl, HK2, BKs, HB⟩ := hrel
          cases gk with
          | zero => exact absurd HK2.out (by omega)
          | succ k2 =>
            by_cases c : K2 < 17
            · have c0 : decide (x < 17) = true := decide_eq_true (by have := HK2.out; omega)
              have HC2 := Aside0.mk c
              clear c
              obtain ⟨a1, ha1, ea1⟩ : ∃ y_, wrap64 (8 * x) = y_ ∧ Aside0 (y_ = ((8 * K2 : Nat) : Int)) := ⟨_, rfl, ⟨by have := HK1.out; have := HC1.out; have := HK2.out; have := HC2.out; have := HPS.out; have := HTt.out; first | (unfold wrap64; omega) | (rw [Int.tmod_eq_emod_of_nonneg (by omega)]; omega)⟩⟩
              obtain ⟨a2, ha2, ea2⟩ : ∃ a2 : Nat, wrap64 (at_ + a1) = (a2 : Int) ∧ Aside0 (a2 = 136 * J + 8 * K2) := ⟨136 * J + 8 * K2, by have := HK1.out; have := HC1.out; have := HK2.out; have := HC2.out; have := HPS.out; have := HTt.out; have := ea1.out; unfold wrap64; omega, ⟨rfl⟩⟩
              have px : (0 ≤ x) = True := eq_true (by have := HK1.out; have := HC1.out; have := HK2.out; have := HC2.out; have := HPS.out; have := HTt.out; have := ea1.out; have := ea2.out; omega)
              have qx_25 : (x < 25) = True := eq_true (by have := HK1.out; have := HC1.out; have := HK2.out; have := HC2.out; have := HPS.out; have := HTt.out; have := ea1.out; have := ea2.out; omega)
              have hc0 : wr.cell? ⟨g, x.toNat, none⟩ = some (.int .u64 (ga (xst (abstS pd J) pd (136 * J) K2) x.toNat)) := (blk_cell BKs.out _).trans (ue_get (by rw [xst_len, abstS_len]; have := HK1.out; have := HC1.out; have := HK2.out; have := HC2.out; have := HPS.out; have := HTt.out; have := ea1.out; have := ea2.out; omega))
              have hfz : wr.frozen? ⟨g, x.toNat, none⟩ = false := blk_frozen BKs.out _
              have HW := Aside0.mk (word_f pd a2 (by have := HK1.out; have := HC1.out; have := HK2.out; have := HC2.out; have := HPS.out; have := HTt.out; have := ea1.out; have := ea2.out; omega) (by have := HK1.out; have := HC1.out; have := HK2.out; have := HC2.out; have := HPS.out; have := HTt.out; have := ea1.out; have := ea2.out; omega))
              go_wp2
              refine start_ (n := 13) (S := fun w' => w'.cell? ⟨g, x.toNat, none⟩ = some (.int .u64 (ga (xst (abstS pd J) pd (136 * J) K2) x.toNat))) (ds := [12]) #[false, false, false, false, false, false, false, false, false, false, false, false, false] (by kernel_rfl) rfl rfl (hc0) (fun hHeld => ?_)
              refine with_tabW spec_Digest.tab9 spec_Digest.bits9 (fun HT_ HW_ => ?_)
              refine pI 0 (some 20) HT_.out ?_
              refine pI 1 (some 21) HT_.out ?_
              refine pI 2 (some 22) HT_.out ?_
              refine pI 4 (some 24) HT_.out ?_
              refine pI 5 (some 25) HT_.out ?_
              refine pI 6 (some 26) HT_.out ?_
              refine pI 7 (some 27) HT_.out ?_
              refine pI 8 (some 28) HT_.out ?_
              refine tI1 3 (some 23) HT_.out HW_.out hHeld ?_
              refine oI 9 (some 29) HT_.out (fun K hK => ?_)
              refine goes_ Tryd.func80 (by kernel_rfl) rfl #[.string pd, .int .i64 (wrap64 (at_ + a1))] (by rfl) rfl rfl (by simp only [List.map_toArray, List.map_cons, List.map_nil]; rfl) ?_
              rw [ha2]
              with_reducible refine (spec_l03Word.calls 9 _ _ _ _ HW.out).mono ?_
              rintro e w3_ ⟨rfl, ⟨nd, rfl⟩⟩
              refine ⟨_, rfl, ?_⟩
              refine hK.out _ _ ((by exact hHeld)) (fun hHeld => ?_)
              clear hK K
              refine nO (some 29) ?_
              refine pI 10 (some 30) HT_.out ?_
              refine pI 11 (some 31) HT_.out ?_
              refine last_ (i := 12) (N := none) #[true, true, true, true, true, true, true, true, true, true, true, true, true] rfl rfl (one_of HT_.out (by kernel_rfl)) (by decide) (fun K hK => ?_)
              refine skip_ (w1 := ?_) (by rfl) rfl ?_ ?_
              rotate_left
              · go_simp
                rfl
              refine hK.out _ _ ?_
              clear hK K
              refine done_ (done_of HT_.out (by kernel_rfl)) ?_
              go_wp2
              go_roundg k2
              case measure => omega
              case rel => exact ⟨K2 + 1, _, rfl, ⟨by have := HK1.out; have := HC1.out; have := HK2.out; have := HC2.out; have := HPS.out; have := HTt.out; have := ea1.out; have := ea2.out; first | omega | (unfold wrap64; omega), by have := HK1.out; have := HC1.out; have := HK2.out; have := HC2.out; have := HPS.out; have := HTt.out; have := ea1.out; have := ea2.out; omega, by have := HK1.out; have := HC1.out; have := HK2.out; have := HC2.out; have := HPS.out; have := HTt.out; have := ea1.out; have := ea2.out; omega⟩, ⟨by (with_reducible repeat (first | refine blk_drewN ?_ _ | refine blk_drew ?_)); refine blk_put (cs := ue (xst (abstS pd J) pd (136 * J) K2)) (by (with_reducible repeat (first | refine blk_drewN ?_ _ | refine blk_drew ?_)); exact BKs.out) x.toNat _ ?_; rw [ue_set]; simp only [xst]; rw [show x.toNat = K2 by have := HK1.out; have := HC1.out; have := HK2.out; have := HC2.out; have := HPS.out; have := HTt.out; have := ea1.out; have := ea2.out; omega, show a2 = 136 * J + 8 * K2 by have := HK1.out; have := HC1.out; have := HK2.out; have := HC2.out; have := HPS.out; have := HTt.out; have := ea1.out; have := ea2.out; omega]⟩, ⟨(by repeat (first | exact HB.out | apply Below.drew | apply pw_below_drewN | refine Below.setCell ?_ GEs.out _))⟩⟩
            · have c0 : decide (x < 17) = false := decide_eq_false (by have := HK2.out; omega)
              obtain rfl : K2 = 17 := by have := HK2.out; omega
              clear c HK2
              obtain ⟨ov, hov⟩ : ∃ y_ : List Int, y_ = xst (abstS pd J) pd (136 * J) 17 := ⟨_, rfl⟩
              obtain ⟨nv, hnv⟩ : ∃ y_ : List Int, y_ = allS ov 24 := ⟨_, rfl⟩
              have HOL := Aside0.mk (show ov.length = 25 by rw [hov, xst_len, abstS_len])
              have HNL := Aside0.mk (show nv.length = 25 by rw [hnv, allS_len, HOL.out])
              have HOV := Aside0.mk hov
              have HNV := Aside0.mk hnv
              have n0_ := Aside0.mk (show wr.heap[g]? = some (.cells (ue ov) 92 (0, 0)) by rw [hov]; exact BKs.out)
              clear BKs hov hnv
              have BKs := n0_
              clear n0_
              have HZ1 := Aside0.mk (show (Tryd.prog.info? 92).map (·.size) = some (ue ov).size by rw [ue_size, HOL.out]; kernel_rfl)
              have HZ2 := Aside0.mk (show (Tryd.prog.info? 92).map (·.size) = some (ue nv).size by rw [ue_size, HNL.out]; kernel_rfl)
              have HZ3 := Aside0.mk (show (ue ov).size = (ue nv).size by rw [ue_size, ue_size, HOL.out, HNL.out])
              go_wp2_with (first | ((with_reducible refine gate_dst (N := 32) rfl ?_); refine wpList_load_row rfl 92 _ rfl g rfl 92 (ue ov) (0, 0) _ (by (with_reducible repeat (first | refine blk_drewN ?_ _ | refine blk_drew ?_)); exact BKs.out) Tryd.underlying92 rfl HZ1.out ?_) | (go_at_call 81; (with_reducible refine (spec_l03All.calls ov HOL.out _).mono ?_); rintro e w4_ ⟨rfl, hb⟩; have n0_ := Aside0.mk (below_then (by repeat (first | exact HB.out | apply Below.drew | apply pw_below_drewN | refine Below.setCell ?_ GEs.out _)) (Below.size (by repeat (first | exact HB.out | apply Below.drew | apply pw_below_drewN | refine Below.setCell ?_ GEs.out _))) hb); have n1_ := Aside0.mk (blk_below (by (with_reducible repeat (first | refine blk_drewN ?_ _ | refine blk_drew ?_)); exact BKs.out) hb); clear BKs HB; have HB := n0_; have BKs := n1_; clear n0_ n1_ hb; rw [← HNV.out]) | ((with_reducible refine gate_store (t := 92) (p := 4) rfl ?_); refine store_row_event rfl 92 _ _ rfl g (ue nv) rfl rfl 92 (ue ov) (by (with_reducible repeat (first | refine blk_drewN ?_ _ | refine blk_drew ?_)); exact BKs.out) HZ2.out HZ3.out (ue_one _) ?_; intro w9_ h1_ h2_ h3_; have n0_ := Aside0.mk (h3_ w.heap.size w (by repeat (first | exact HB.out | apply Below.drew | apply pw_below_drewN | refine Below.setCell ?_ GEs.out _)) GEs.out); clear HB BKs; have HB := n0_; have BKs := Aside0.mk h1_; clear n0_ h1_ h2_ h3_))
              go_roundg k1
              case measure => omega
              case rel => exact ⟨J + 1, _, rfl, ⟨by have := HK1.out; have := HC1.out; have := HPS.out; have := HTt.out; unfold wrap64; omega, by have := HK1.out; have := HC1.out; have := HPS.out; have := HTt.out; omega, by have := HK1.out; have := HC1.out; have := HPS.out; have := HTt.out; omega⟩, ⟨by have h_ := BKs.out; rw [HNV.out, HOV.out] at h_; (with_reducible repeat (first | refine blk_drewN ?_ _ | refine blk_drew ?_)); exact h_⟩, ⟨(by repeat (first | exact HB.out | apply Below.drew | apply pw_below_drewN | refine Below.setCell ?_ GEs.out _))⟩⟩
      · have c0 : decide (at_ < (pd.size : Int)) = false := decide_eq_false (by have := HK1.out; have := HPS.out; omega)
        obtain rfl : J = t.size / 136 + 1 := by have := HK1.out; omega
        clear c
        have HX := Aside0.mk (tby_size (abstS pd (t.size / 136 + 1)))
        obtain ⟨tx, htx⟩ : ∃ y_, y_ = strOfNums (tby (abstS pd (t.size / 136 + 1)) 200) := ⟨_, rfl⟩
        rw [← htx] at HX
        have HXe := Aside0.mk htx
        clear htx
        have h32 : ((32 : Int) ≤ (tx.size : Int)) = True := eq_true (by have := HX.out; omega)
        have HZ1 := Aside0.mk (show (Tryd.prog.info? 92).map (·.size) = some (ue (abstS pd (t.size / 136 + 1))).size by rw [ue_size, abstS_len]; kernel_rfl)
        go_wp2_with (first | ((with_reducible refine gate_dst (N := 34) rfl ?_); refine wpList_load_row rfl 92 _ rfl g rfl 92 (ue (abstS pd (t.size / 136 + 1))) (0, 0) _ (by (with_reducible repeat (first | refine blk_drewN ?_ _ | refine blk_drew ?_)); exact BKs.out) Tryd.underlying92 rfl HZ1.out ?_) | (go_at_call 82; (with_reducible refine (spec_l03Text.calls (abstS pd (t.size / 136 + 1)) (abstS_len _ _) _).mono ?_); rintro e w4_ ⟨rfl, hb⟩; have n0_ := Aside0.mk (below_then (by repeat (first | exact HB.out | apply Below.drew | apply pw_below_drewN | refine Below.setCell ?_ GEs.out _)) (Below.size (by repeat (first | exact HB.out | apply Below.drew | apply pw_below_drewN | refine Below.setCell ?_ GEs.out _))) hb); clear BKs HB; have HB := n0_; clear n0_ hb; rw [← HXe.out]))
        go_ret
        exact ⟨by unfold digS; rw [← HPD.out, ← HXe.out]; first | done | rfl, (by repeat (first | exact HB.out | apply Below.drew | apply pw_below_drewN | refine Below.setCell ?_ GEs.out _))⟩
end Go.Proofs.YtkdmplfldfagnaaDoor.Kp
end
section
/- What is proved here: steps of Keccak as the program and the reference write it: what each function answers. No conditions but those that each theorem names. -/
namespace Go.Proofs.YtkdmplfldfagnaaDoor.Kp
open Go.RowKit Go.Proofs.YtkdmplfldfagnaaDoorW.PrintWords Go.Proofs.YtkdmplfldfagnaaDoorW.PrintLast Go.Proofs.YtkdmplfldfagnaaDoorW.PrintMore
set_option linter.unusedVariables false
set_option linter.unusedSimpArgs false
theorem xr_range (a b : Int) : 0 ≤ xr a b ∧ xr a b < 18446744073709551616 := by
  unfold xr Go.bits
  rw [IntKind.wrap_u64]
  omega
theorem xr_comm (a b : Int) : Go.bits .xor .u64 a b = Go.bits .xor .u64 b a := by
  unfold Go.bits
  dsimp only
  rw [BitVec.xor_comm]
theorem and_turns : ∀ i : Fin 25, Go.bits .and .u64 (IntKind.u64.wrap (ga turnsL i.val)) 63 = ga turnsL i.val := by decide +kernel
theorem turns_pos : ∀ i : Fin 25, 0 ≤ ga turnsL i.val := by decide +kernel
theorem and_one : Go.bits .and .u64 (IntKind.u64.wrap 1) 63 = 1 := by decide +kernel
theorem and_zero : Go.bits .and .u64 (IntKind.u64.wrap 0) 63 = 0 := by decide +kernel
theorem rl_one (v : Int) : rl v 1 = tn v 1 := by
  unfold rl tn
  rw [and_one]
theorem rl_turn (v : Int) (i : Fin 25) : rl v (ga turnsL i.val) = tn v (ga turnsL i.val) := by
  unfold rl tn
  rw [and_turns]
theorem or_zero64 (v : Int) (h0 : 0 ≤ v) (h1 : v < 18446744073709551616) : Go.bits .or .u64 v 0 = v := by
  unfold Go.bits
  dsimp only
  rw [IntKind.wrap_u64]
  have e0 : BitVec.ofInt IntKind.u64.bits 0 = 0#(IntKind.u64.bits) := by rfl
  rw [e0, BitVec.or_zero, BitVec.toNat_ofInt]
  show (((v % ((2 ^ 64 : Nat) : Int)).toNat : Int)) % 18446744073709551616 = v
  rw [show (((2 : Nat) ^ 64 : Nat) : Int) = 18446744073709551616 from rfl, Int.emod_eq_of_lt h0 h1]
  omega
theorem rl_zero (v : Int) (h0 : 0 ≤ v) (h1 : v < 18446744073709551616) : rl v 0 = v := by
  unfold rl
  rw [and_zero]
  have e1 : shl .u64 v 0 = v := by
    unfold shl
    rw [IntKind.wrap_u64]
    show (v * 2 ^ (Min.min 0 IntKind.u64.bits)) % 18446744073709551616 = v
    rw [Nat.zero_min, Int.pow_zero, Int.mul_one, Int.emod_eq_of_lt h0 h1]
  have e2 : shr .u64 v (IntKind.u64.wrap (64 - 0)) = 0 := by
    unfold shr
    rw [IntKind.wrap_u64]
    show v / 2 ^ 64 = 0
    rw [show ((2 : Int) ^ 64) = 18446744073709551616 from rfl]
    omega
  rw [e1, e2]
  exact or_zero64 v h0 h1
theorem dd_eq (c : List Int) (x : Nat) : dd c x = ddS c x := by
  unfold dd ddS
  rw [rl_one]
theorem bat_eq (s c : List Int) (y x : Nat) (h : x + 5 * y < 25) : bat s c y x = batS s c y x := by
  unfold bat batS
  rw [dd_eq]
  by_cases hk : ga turnsL (x + 5 * y) > 0
  · rw [if_pos hk]
    exact rl_turn _ ⟨x + 5 * y, h⟩
  · rw [if_neg hk]
    have h0 := turns_pos ⟨x + 5 * y, h⟩
    have e : ga turnsL (x + 5 * y) = 0 := by
      dsimp only at h0
      omega
    rw [e]
    exact rl_zero _ (xr_range _ _).1 (xr_range _ _).2
theorem bst_list (s c : List Int) : bst s c 25 = [bat s c 0 0, bat s c 1 1, bat s c 2 2, bat s c 3 3, bat s c 4 4, bat s c 0 3, bat s c 1 4, bat s c 2 0, bat s c 3 1, bat s c 4 2, bat s c 0 1, bat s c 1 2, bat s c 2 3, bat s c 3 4, bat s c 4 0, bat s c 0 4, bat s c 1 0, bat s c 2 1, bat s c 3 2, bat s c 4 3, bat s c 0 2, bat s c 1 3, bat s c 2 4, bat s c 3 0, bat s c 4 1] := by kernel_rfl
theorem bstS_list (s c : List Int) : bstS s c 25 = [batS s c 0 0, batS s c 1 1, batS s c 2 2, batS s c 3 3, batS s c 4 4, batS s c 0 3, batS s c 1 4, batS s c 2 0, batS s c 3 1, batS s c 4 2, batS s c 0 1, batS s c 1 2, batS s c 2 3, batS s c 3 4, batS s c 4 0, batS s c 0 4, batS s c 1 0, batS s c 2 1, batS s c 3 2, batS s c 4 3, batS s c 0 2, batS s c 1 3, batS s c 2 4, batS s c 3 0, batS s c 4 1] := by kernel_rfl
theorem bst_eq (s c : List Int) : bst s c 25 = bstS s c 25 := by
  rw [bst_list, bstS_list]
  rw [bat_eq s c 0 0 (by decide), bat_eq s c 1 1 (by decide), bat_eq s c 2 2 (by decide), bat_eq s c 3 3 (by decide), bat_eq s c 4 4 (by decide), bat_eq s c 0 3 (by decide), bat_eq s c 1 4 (by decide), bat_eq s c 2 0 (by decide), bat_eq s c 3 1 (by decide), bat_eq s c 4 2 (by decide), bat_eq s c 0 1 (by decide), bat_eq s c 1 2 (by decide), bat_eq s c 2 3 (by decide), bat_eq s c 3 4 (by decide), bat_eq s c 4 0 (by decide), bat_eq s c 0 4 (by decide), bat_eq s c 1 0 (by decide), bat_eq s c 2 1 (by decide), bat_eq s c 3 2 (by decide), bat_eq s c 4 3 (by decide), bat_eq s c 0 2 (by decide), bat_eq s c 1 3 (by decide), bat_eq s c 2 4 (by decide), bat_eq s c 3 0 (by decide), bat_eq s c 4 1 (by decide)]
theorem chi_eq (b : List Int) (y x : Nat) : chi b y x = chiS b y x := by
  unfold chi chiS u64not
  rw [xr_comm IntKind.u64.max]
  rfl
theorem sst_eq (s b : List Int) (k : Nat) : sst s b k = sstS s b k := by
  induction k with
  | zero => rfl
  | succ k ih => simp only [sst, sstS, ih, chi_eq]
theorem round_eq (s : List Int) (n : Nat) : roundI s n = roundS s (ga rcL n) := by
  unfold roundI roundS
  rw [bst_eq, sst_eq]
theorem rit_eq (s : List Int) (k : Nat) : rit s k = allS s k := by
  induction k with
  | zero => rfl
  | succ k ih => simp only [rit, allS, ih, round_eq]
theorem abst_eq (p : ByteArray) (j : Nat) : abst p j = abstS p j := by
  induction j with
  | zero => rfl
  | succ j ih => simp only [abst, abstS, ih, rit_eq]
theorem tby_form (a : List Int) (k : Nat) (h : k ≤ 200) : tby a k = (List.range k).map (byteS a) ++ List.replicate (200 - k) 0 := by
  induction k with
  | zero => rfl
  | succ k ih =>
    simp only [tby]
    rw [ih (by omega), List.range_succ, List.map_append, List.append_assoc, List.set_append_right _ _ (by simp)]
    rw [show 200 - k = (200 - (k + 1)) + 1 by omega, List.replicate_succ]
    simp
theorem b8_at (a : List Int) (k : Nat) : b8 (ga a k) = [byteS a (8 * k), byteS a (8 * k + 1), byteS a (8 * k + 2), byteS a (8 * k + 3), byteS a (8 * k + 4), byteS a (8 * k + 5), byteS a (8 * k + 6), byteS a (8 * k + 7)] := by
  unfold b8 byteS
  have d : ∀ j, j < 8 → (8 * k + j) / 8 = k ∧ (8 * k + j) % 8 = j := fun j hj => by omega
  have d0 := d 0 (by decide)
  rw [Nat.add_zero] at d0
  rw [d0.1, d0.2, (d 1 (by decide)).1, (d 1 (by decide)).2, (d 2 (by decide)).1, (d 2 (by decide)).2, (d 3 (by decide)).1, (d 3 (by decide)).2, (d 4 (by decide)).1, (d 4 (by decide)).2, (d 5 (by decide)).1, (d 5 (by decide)).2, (d 6 (by decide)).1, (d 6 (by decide)).2, (d 7 (by decide)).1, (d 7 (by decide)).2]
  generalize ga a k = v
  have m : ∀ j, j < 8 → min (((8 * j : Nat) : Int)).toNat 64 = 8 * j := fun j hj => by omega
  rw [m 0 (by decide), m 1 (by decide), m 2 (by decide), m 3 (by decide), m 4 (by decide), m 5 (by decide), m 6 (by decide), m 7 (by decide)]
  rw [show (2 : Int) ^ (8 * 0) = 1 from rfl, show (2 : Int) ^ (8 * 1) = 256 from rfl, show (2 : Int) ^ (8 * 2) = 65536 from rfl, show (2 : Int) ^ (8 * 3) = 16777216 from rfl, show (2 : Int) ^ (8 * 4) = 4294967296 from rfl, show (2 : Int) ^ (8 * 5) = 1099511627776 from rfl, show (2 : Int) ^ (8 * 6) = 281474976710656 from rfl, show (2 : Int) ^ (8 * 7) = 72057594037927936 from rfl]
  simp only [List.cons.injEq, and_true, Int.ediv_one]
  have e2 : v / 256 / 256 = v / 65536 := by omega
  have e3 : v / 65536 / 256 = v / 16777216 := by omega
  have e4 : v / 16777216 / 256 = v / 4294967296 := by omega
  have e5 : v / 4294967296 / 256 = v / 1099511627776 := by omega
  have e6 : v / 1099511627776 / 256 = v / 281474976710656 := by omega
  have e7 : v / 281474976710656 / 256 = v / 72057594037927936 := by omega
  repeat' apply And.intro
  all_goals first | trivial | rfl | (rw [e2, e3, e4, e5, e6, e7]; done) | (rw [e2, e3, e4, e5, e6]; done) | (rw [e2, e3, e4, e5]; done) | (rw [e2, e3, e4]; done) | (rw [e2, e3]; done) | (rw [e2]; done)
theorem txl_form (a : List Int) (k : Nat) : txl a k = (List.range (8 * k)).map (byteS a) := by
  induction k with
  | zero => rfl
  | succ k ih =>
    simp only [txl]
    rw [ih, b8_at, show 8 * (k + 1) = 8 * k + 8 by omega]
    simp only [List.range_succ, List.map_append, List.map_cons, List.map_nil, List.append_assoc]
    rfl
theorem text_eq (a : List Int) : txl a 25 = tby a 200 := by
  rw [txl_form, tby_form a 200 (by decide)]
  simp
theorem dig_eq (t : ByteArray) : digI t = digS t := by
  unfold digI digS
  rw [abst_eq, text_eq]
theorem digest_eq (t : ByteArray) : impl_Digest.f t = spec_Digest.f t := by
  unfold impl_Digest.f spec_Digest.f
  rw [dig_eq]
end Go.Proofs.YtkdmplfldfagnaaDoor.Kp
end
section
namespace Go.Proofs.YtkdmplfldfagnaaDoor.Pf
open Go.RowKit Go.Proofs.YtkdmplfldfagnaaDoorW.PrintWords Go.Proofs.YtkdmplfldfagnaaDoorW.PrintLast Go.Proofs.YtkdmplfldfagnaaDoorW.PrintMore
attribute [local go_sem] max2_int min2_int max_two min_two max_three min_three max_four min_four   -- for this text's walks alone
set_option linter.unusedVariables false
set_option linter.unusedSimpArgs false
/-! ### impl_Digest: function 47 -/
def impl_Digest.f (a0 : ByteArray) : Option ByteArray := Kp.impl_Digest.f a0
theorem impl_Digest.calls (a0 : ByteArray) (r : ByteArray) (w : World) (hT : Kp.Tab w) (h : impl_Digest.f a0 = some r) :
  Calls Tryd.prog 47 #[.string a0] w fun e w' => e = .returned (.string r) ∧ Below w.heap.size w w' :=
 Kp.impl_Digest.calls a0 r w hT h
/-! ### impl_remainder: function 76 -/
def impl_remainder.f (a0 : Int) (a1 : Int) : Option (Int) := if a1 = 0 then (none) else (if (Int.tmod a0 a1) < 0 then (some (wrap64 ((Int.tmod a0 a1) + a1))) else (some (Int.tmod a0 a1)))
set_option maxHeartbeats 8000000 in
set_option maxRecDepth 100000 in
theorem impl_remainder.calls (a0 : Int) (a1 : Int) (r : Int) (w : World) (h : impl_remainder.f a0 a1 = some r) :
  Calls Tryd.prog 76 #[.int .i64 a0, .int .i64 a1] w fun e w' => e = .returned (.int .i64 r) ∧ Drawn0 w w' := by
 have H : (if a1 = 0 then (none) else (if (Int.tmod a0 a1) < 0 then (some (wrap64 ((Int.tmod a0 a1) + a1))) else (some (Int.tmod a0 a1)))) = some r := h
 clear h
 by_cases c3 : a1 = 0
 ·rw [if_pos c3] at H
  exact absurd H (by simp)
 ·rw [if_neg c3] at H
  have c3b0 : (a1 == 0) = false := beq_eq_false_iff_ne.mpr c3
  have c3b1 : (a1 != 0) = true := bne_iff_ne.mpr c3
  by_cases c4 : (Int.tmod a0 a1) < 0
  ·rw [if_pos c4] at H
   have c4b0 : decide ((Int.tmod a0 a1) < 0) = true := decide_eq_true c4
   clear c4
   obtain rfl := Option.some.inj H
   go_enter Tryd.func76, Tryd.ntmps76
   go_wp2
   go_ret
   exact ⟨rS, rD⟩
  ·rw [if_neg c4] at H
   have c4b0 : decide ((Int.tmod a0 a1) < 0) = false := decide_eq_false c4
   clear c4
   obtain rfl := Option.some.inj H
   go_enter Tryd.func76, Tryd.ntmps76
   go_wp2
   go_ret
   exact ⟨rS, rD⟩
/-! ### impl_FpOf: function 48 -/
def impl_FpOf.f (a0 : Int) : Option (Int) := (impl_remainder.f a0 12107).bind fun t203 => (some t203)
set_option maxHeartbeats 8000000 in
set_option maxRecDepth 100000 in
theorem impl_FpOf.calls (a0 : Int) (r : Int) (w : World) (h : impl_FpOf.f a0 = some r) :
  Calls Tryd.prog 48 #[.int .i64 a0] w fun e w' => e = .returned (.int .i64 r) ∧ Drawn0 w w' := by
 have H : ((impl_remainder.f a0 12107).bind fun t203 => (some t203)) = some r := h
 clear h
 replace H := Option.bind_eq_some_iff.mp H
 obtain ⟨t203, A20, H⟩ := H
 have A2 := Aside0.mk A20
 clear A20
 obtain rfl := Option.some.inj H
 go_enter Tryd.func48, Tryd.ntmps48
 go_wp2_with (first | ((with_reducible refine gate_callee (f := 76) rfl ?_); refine gL (some 4) Tryd.func76 #[.int .i64 a0, .int .i64 12107] ?_; (with_reducible refine (impl_remainder.calls a0 12107 t203 _ A2.out).mono ?_); rintro e w' ⟨rfl, ⟨nd, rfl⟩⟩; refine ⟨_, rfl, ?_⟩))
 go_ret
 exact ⟨rS, rD⟩
/-! ### impl_powerMod: function 94 -/
def impl_powerMod.l0 : Nat → Int → Int → Int → Int → Option (Int)
 | 0, _, _, _, _ => none
 | k + 1, x0, x1, x2, x7 => if x1 > 0 then (if (Int.tmod x1 2) = 1 then (if x2 = 0 then (none) else (impl_powerMod.l0 k (Int.tmod (wrap64 (x0 * x0)) x2) (wrap64 (Int.tdiv x1 2)) x2 (Int.tmod (wrap64 (x7 * x0)) x2))) else (if x2 = 0 then (none) else (impl_powerMod.l0 k (Int.tmod (wrap64 (x0 * x0)) x2) (wrap64 (Int.tdiv x1 2)) x2 x7))) else (some x7)
def impl_powerMod.f (k : Nat) (a0 : Int) (a1 : Int) (a2 : Int) : Option (Int) := (impl_remainder.f a0 a2).bind fun t204 => (impl_powerMod.l0 k t204 a1 a2 1)
theorem impl_powerMod.mono_l : ∀ k, (∀ y0 y1 y2 y3, LeO (impl_powerMod.l0 k y0 y1 y2 y3) (impl_powerMod.l0 (k + 1) y0 y1 y2 y3))
 | 0 => fun _ _ _ _ r h => by simp [impl_powerMod.l0] at h
 | k + 1 => by
  have ih0 := impl_powerMod.mono_l k
  ·intro y0 y1 y2 y3
   unfold impl_powerMod.l0
   repeat' first
   | (with_reducible exact ih0 _ _ _ _)
   | (with_reducible exact LeO.refl _)
   | (with_reducible exact LeO.none _)
   | (with_reducible refine LeO.ite ?_ ?_)
   | (with_reducible refine LeO.bind ?_ (fun _ => ?_))
   | exact ih0 _ _ _ _
   | exact LeO.none _
   | refine LeO.ite ?_ ?_
   | refine LeO.bind ?_ (fun _ => ?_)
theorem impl_powerMod.mono : ∀ a0 a1 a2 k, LeO (impl_powerMod.f k a0 a1 a2) (impl_powerMod.f (k + 1) a0 a1 a2) := by
 intro a0 a1 a2 k
 have ih0 := impl_powerMod.mono_l k
 unfold impl_powerMod.f
 repeat' first
   | (with_reducible exact ih0 _ _ _ _)
   | (with_reducible exact LeO.refl _)
   | (with_reducible exact LeO.none _)
   | (with_reducible refine LeO.ite ?_ ?_)
   | (with_reducible refine LeO.bind ?_ (fun _ => ?_))
   | exact ih0 _ _ _ _
   | exact LeO.none _
   | refine LeO.ite ?_ ?_
   | refine LeO.bind ?_ (fun _ => ?_)
set_option maxHeartbeats 8000000 in
set_option maxRecDepth 100000 in
theorem impl_powerMod.calls (k : Nat) (a0 : Int) (a1 : Int) (a2 : Int) (r : Int) (w : World) (h : impl_powerMod.f k a0 a1 a2 = some r) :
  Calls Tryd.prog 94 #[.int .i64 a0, .int .i64 a1, .int .i64 a2] w fun e w' => e = .returned (.int .i64 r) ∧ Drawn0 w w' := by
 have H : ((impl_remainder.f a0 a2).bind fun t204 => (impl_powerMod.l0 k t204 a1 a2 1)) = some r := h
 clear h
 replace H := Option.bind_eq_some_iff.mp H
 obtain ⟨t204, A40, H⟩ := H
 have A4 := Aside0.mk A40
 clear A40
 have H' := Aside0.mk H
 clear H
 go_enter Tryd.func94, Tryd.ntmps94
 go_wp2_with (first | ((with_reducible refine gate_callee (f := 76) rfl ?_); refine gL (some 10) Tryd.func76 #[.int .i64 a0, .int .i64 a2] ?_; (with_reducible refine (impl_remainder.calls a0 a2 t204 _ A4.out).mono ?_); rintro e w' ⟨rfl, ⟨nd, rfl⟩⟩; refine ⟨_, rfl, ?_⟩))
 go_loopg [0, 1, 7] k (fun kq v0 v1 v7 w' => ∃ (x0_1 : Int) (x1_1 : Int) (x7_1 : Int), v0 = .int .i64 x0_1 ∧ v1 = .int .i64 x1_1 ∧ v7 = .int .i64 x7_1 ∧ Aside0 (impl_powerMod.l0 kq x0_1 x1_1 a2 x7_1 = some r) ∧ Aside0 (kq ≤ k) ∧ Drawn0 w w')
 case atStart => exact ⟨(t204), (a1), (1), rS, rS, rS, H', ⟨Nat.le_refl _⟩, by repeat (first | exact Drawn0.refl _ | apply Drawn0.step)⟩
 case round =>
  clear H'
  try clear p2
  obtain ⟨x0_1, x1_1, x7_1, rfl, rfl, rfl, HA, HK1, ⟨m1, rfl⟩⟩ := hrel
  cases gk with
  | zero => exact absurd HA.out (by simp [impl_powerMod.l0])
  | succ k1 =>
   have H := HA.out
   clear HA
   simp only [impl_powerMod.l0] at H
   by_cases c5 : x1_1 > 0
   ·rw [if_pos c5] at H
    have c5b0 : decide (0 < x1_1) = true := decide_eq_true c5
    clear c5
    by_cases c6 : (Int.tmod x1_1 2) = 1
    ·rw [if_pos c6] at H
     have c6b0 : ((Int.tmod x1_1 2) == 1) = true := beq_iff_eq.mpr c6
     have c6b1 : ((Int.tmod x1_1 2) != 1) = false := bne_eq_false_iff_eq.mpr c6
     clear c6
     by_cases c7 : a2 = 0
     ·rw [if_pos c7] at H
      exact absurd H (by simp)
     ·rw [if_neg c7] at H
      have c7b0 : (a2 == 0) = false := beq_eq_false_iff_ne.mpr c7
      have c7b1 : (a2 != 0) = true := bne_iff_ne.mpr c7
      have H' := Aside0.mk H
      clear H
      go_wp2
      go_roundg k1
      case measure => have := HK1.out; omega
      case rel => exact ⟨(Int.tmod (wrap64 (x0_1 * x0_1)) a2), (wrap64 (Int.tdiv x1_1 2)), (Int.tmod (wrap64 (x7_1 * x0_1)) a2), rS, rS, rS, H', ⟨by have := HK1.out; omega⟩, by repeat (first | exact Drawn0.refl _ | apply Drawn0.step)⟩
    ·rw [if_neg c6] at H
     have c6b0 : ((Int.tmod x1_1 2) == 1) = false := beq_eq_false_iff_ne.mpr c6
     have c6b1 : ((Int.tmod x1_1 2) != 1) = true := bne_iff_ne.mpr c6
     by_cases c8 : a2 = 0
     ·rw [if_pos c8] at H
      exact absurd H (by simp)
     ·rw [if_neg c8] at H
      have c8b0 : (a2 == 0) = false := beq_eq_false_iff_ne.mpr c8
      have c8b1 : (a2 != 0) = true := bne_iff_ne.mpr c8
      have H' := Aside0.mk H
      clear H
      go_wp2
      go_roundg k1
      case measure => have := HK1.out; omega
      case rel => exact ⟨(Int.tmod (wrap64 (x0_1 * x0_1)) a2), (wrap64 (Int.tdiv x1_1 2)), (x7_1), rS, rS, rS, H', ⟨by have := HK1.out; omega⟩, by repeat (first | exact Drawn0.refl _ | apply Drawn0.step)⟩
   ·rw [if_neg c5] at H
    have c5b0 : decide (0 < x1_1) = false := decide_eq_false c5
    clear c5
    obtain rfl := Option.some.inj H
    go_wp2
    go_ret
    exact ⟨rS, rD⟩
/-! ### impl_FpMul: function 95 -/
def impl_FpMul.f (a0 : Int) (a1 : Int) : Option (Int) := (impl_FpOf.f a0).bind fun t205 => ((impl_FpOf.f a1).bind fun t206 => ((impl_FpOf.f (wrap64 (t205 * t206))).bind fun t207 => (some t207)))
set_option maxHeartbeats 8000000 in
set_option maxRecDepth 100000 in
theorem impl_FpMul.calls (a0 : Int) (a1 : Int) (r : Int) (w : World) (h : impl_FpMul.f a0 a1 = some r) :
  Calls Tryd.prog 95 #[.int .i64 a0, .int .i64 a1] w fun e w' => e = .returned (.int .i64 r) ∧ Drawn0 w w' := by
 have H : ((impl_FpOf.f a0).bind fun t205 => ((impl_FpOf.f a1).bind fun t206 => ((impl_FpOf.f (wrap64 (t205 * t206))).bind fun t207 => (some t207)))) = some r := h
 clear h
 replace H := Option.bind_eq_some_iff.mp H
 obtain ⟨t205, A30, H⟩ := H
 have A3 := Aside0.mk A30
 clear A30
 replace H := Option.bind_eq_some_iff.mp H
 obtain ⟨t206, A40, H⟩ := H
 have A4 := Aside0.mk A40
 clear A40
 replace H := Option.bind_eq_some_iff.mp H
 obtain ⟨t207, A50, H⟩ := H
 have A5 := Aside0.mk A50
 clear A50
 obtain rfl := Option.some.inj H
 go_enter Tryd.func95, Tryd.ntmps95
 go_wp2_with (first | ((with_reducible refine gate_callee (f := 48) rfl ?_); refine gL (some 6) Tryd.func48 #[.int .i64 a0] ?_; (with_reducible refine (impl_FpOf.calls a0 t205 _ A3.out).mono ?_); rintro e w' ⟨rfl, ⟨nd, rfl⟩⟩; refine ⟨_, rfl, ?_⟩) | ((with_reducible refine gate_callee (f := 48) rfl ?_); refine gL (some 8) Tryd.func48 #[.int .i64 a1] ?_; (with_reducible refine (impl_FpOf.calls a1 t206 _ A4.out).mono ?_); rintro e w' ⟨rfl, ⟨nd, rfl⟩⟩; refine ⟨_, rfl, ?_⟩) | ((with_reducible refine gate_callee (f := 48) rfl ?_); refine gL (some 10) Tryd.func48 #[.int .i64 (wrap64 (t205 * t206))] ?_; (with_reducible refine (impl_FpOf.calls (wrap64 (t205 * t206)) t207 _ A5.out).mono ?_); rintro e w' ⟨rfl, ⟨nd, rfl⟩⟩; refine ⟨_, rfl, ?_⟩))
 go_ret
 exact ⟨rS, rD⟩
/-! ### impl_FpRoot: function 49 -/
def impl_FpRoot.f (k : Nat) (a0 : Int) : Option (Int × Bool) := (impl_powerMod.f k a0 3027 12107).bind fun t208 => ((impl_FpMul.f t208 t208).bind fun t209 => ((impl_FpOf.f a0).bind fun t210 => (if t209 = t210 then ((impl_FpOf.f (wrap64 (-t208))).bind fun t211 => (some (mn t208 t211, true))) else (some (0, false)))))
theorem impl_FpRoot.mono : ∀ a0 k, LeO (impl_FpRoot.f k a0) (impl_FpRoot.f (k + 1) a0) := by
 intro a0 k
 unfold impl_FpRoot.f
 repeat' first
   | (with_reducible exact impl_powerMod.mono _ _ _ _)
   | (with_reducible exact LeO.refl _)
   | (with_reducible exact LeO.none _)
   | (with_reducible refine LeO.ite ?_ ?_)
   | (with_reducible refine LeO.bind ?_ (fun _ => ?_))
   | exact impl_powerMod.mono _ _ _ _
   | exact LeO.none _
   | refine LeO.ite ?_ ?_
   | refine LeO.bind ?_ (fun _ => ?_)
set_option maxHeartbeats 8000000 in
set_option maxRecDepth 100000 in
theorem impl_FpRoot.calls (k : Nat) (a0 : Int) (r1 : Int) (r2 : Bool) (w : World) (h : impl_FpRoot.f k a0 = some (r1, r2)) :
  Calls Tryd.prog 49 #[.int .i64 a0] w fun e w' => e = .returned (.tuple #[.int .i64 r1, .bool r2]) ∧ Below w.heap.size w w' := by
 have HB := Aside0.mk (Below.refl w.heap.size w)
 have H : ((impl_powerMod.f k a0 3027 12107).bind fun t208 => ((impl_FpMul.f t208 t208).bind fun t209 => ((impl_FpOf.f a0).bind fun t210 => (if t209 = t210 then ((impl_FpOf.f (wrap64 (-t208))).bind fun t211 => (some (mn t208 t211, true))) else (some (0, false)))))) = some (r1, r2) := h
 clear h
 replace H := Option.bind_eq_some_iff.mp H
 obtain ⟨t208, A20, H⟩ := H
 have A2 := Aside0.mk A20
 clear A20
 replace H := Option.bind_eq_some_iff.mp H
 obtain ⟨t209, A30, H⟩ := H
 have A3 := Aside0.mk A30
 clear A30
 replace H := Option.bind_eq_some_iff.mp H
 obtain ⟨t210, A40, H⟩ := H
 have A4 := Aside0.mk A40
 clear A40
 by_cases c5 : t209 = t210
 ·rw [if_pos c5] at H
  have c5b0 : (t209 == t210) = true := beq_iff_eq.mpr c5
  have c5b1 : (t209 != t210) = false := bne_eq_false_iff_eq.mpr c5
  clear c5
  replace H := Option.bind_eq_some_iff.mp H
  obtain ⟨t211, A60, H⟩ := H
  have A6 := Aside0.mk A60
  clear A60
  obtain ⟨ji7, hji7⟩ : ∃ j_ : Int, (mn t208 t211) = j_ := ⟨_, rfl⟩
  replace H : (some (ji7, true)) = some (r1, r2) := by first | (rw [hji7] at H; exact H) | (simp only [hji7] at H ⊢; exact H)
  (try rw [hji7] at A2)
  (try rw [hji7] at A3)
  (try rw [hji7] at A4)
  (try rw [hji7] at A6)
  have hji7_ : (if t211 < t208 then t211 else t208) = ji7 := hji7
  try (have hji7n_ := hji7_; simp only [Int.ofNat_lt] at hji7n_)
  simp only [Option.some.injEq, Prod.mk.injEq] at H
  obtain ⟨rfl, rfl⟩ := H
  go_enter Tryd.func49, Tryd.ntmps49
  go_wp2_with (first | ((with_reducible refine gate_callee (f := 94) rfl ?_); refine gL (some 6) Tryd.func94 #[.int .i64 a0, .int .i64 3027, .int .i64 12107] ?_; (with_reducible refine (impl_powerMod.calls k a0 3027 12107 t208 _ A2.out).mono ?_); rintro e w' ⟨rfl, ⟨nd, rfl⟩⟩; refine ⟨_, rfl, ?_⟩) | ((with_reducible refine gate_callee (f := 95) rfl ?_); refine gL (some 9) Tryd.func95 #[.int .i64 t208, .int .i64 t208] ?_; (with_reducible refine (impl_FpMul.calls t208 t208 t209 _ A3.out).mono ?_); rintro e w' ⟨rfl, ⟨nd, rfl⟩⟩; refine ⟨_, rfl, ?_⟩) | ((with_reducible refine gate_callee (f := 48) rfl ?_); refine gL (some 11) Tryd.func48 #[.int .i64 a0] ?_; (with_reducible refine (impl_FpOf.calls a0 t210 _ A4.out).mono ?_); rintro e w' ⟨rfl, ⟨nd, rfl⟩⟩; refine ⟨_, rfl, ?_⟩) | ((with_reducible refine gate_callee (f := 48) rfl ?_); refine gL (some 16) Tryd.func48 #[.int .i64 (wrap64 (-t208))] ?_; (with_reducible refine (impl_FpOf.calls (wrap64 (-t208)) t211 _ A6.out).mono ?_); rintro e w' ⟨rfl, ⟨nd, rfl⟩⟩; refine ⟨_, rfl, ?_⟩))
  go_ret2
  exact ⟨by first | rfl | (simp [errW_none, errW_some] <;> rfl) | (simp only [← hji7]; first | rfl | (simp [errW_none, errW_some] <;> rfl)) | (simp [*, errW_none, errW_some] <;> rfl), bZ HB⟩
 ·rw [if_neg c5] at H
  have c5b0 : (t209 == t210) = false := beq_eq_false_iff_ne.mpr c5
  have c5b1 : (t209 != t210) = true := bne_iff_ne.mpr c5
  simp only [Option.some.injEq, Prod.mk.injEq] at H
  obtain ⟨rfl, rfl⟩ := H
  go_enter Tryd.func49, Tryd.ntmps49
  go_wp2_with (first | ((with_reducible refine gate_callee (f := 94) rfl ?_); refine gL (some 6) Tryd.func94 #[.int .i64 a0, .int .i64 3027, .int .i64 12107] ?_; (with_reducible refine (impl_powerMod.calls k a0 3027 12107 t208 _ A2.out).mono ?_); rintro e w' ⟨rfl, ⟨nd, rfl⟩⟩; refine ⟨_, rfl, ?_⟩) | ((with_reducible refine gate_callee (f := 95) rfl ?_); refine gL (some 9) Tryd.func95 #[.int .i64 t208, .int .i64 t208] ?_; (with_reducible refine (impl_FpMul.calls t208 t208 t209 _ A3.out).mono ?_); rintro e w' ⟨rfl, ⟨nd, rfl⟩⟩; refine ⟨_, rfl, ?_⟩) | ((with_reducible refine gate_callee (f := 48) rfl ?_); refine gL (some 11) Tryd.func48 #[.int .i64 a0] ?_; (with_reducible refine (impl_FpOf.calls a0 t210 _ A4.out).mono ?_); rintro e w' ⟨rfl, ⟨nd, rfl⟩⟩; refine ⟨_, rfl, ?_⟩))
  go_ret2
  exact ⟨rR, bZ HB⟩
/-! ### impl_FpAdd: function 96 -/
def impl_FpAdd.f (a0 : Int) (a1 : Int) : Option (Int) := (impl_FpOf.f a0).bind fun t212 => ((impl_FpOf.f a1).bind fun t213 => ((impl_FpOf.f (wrap64 (t212 + t213))).bind fun t214 => (some t214)))
set_option maxHeartbeats 8000000 in
set_option maxRecDepth 100000 in
theorem impl_FpAdd.calls (a0 : Int) (a1 : Int) (r : Int) (w : World) (h : impl_FpAdd.f a0 a1 = some r) :
  Calls Tryd.prog 96 #[.int .i64 a0, .int .i64 a1] w fun e w' => e = .returned (.int .i64 r) ∧ Drawn0 w w' := by
 have H : ((impl_FpOf.f a0).bind fun t212 => ((impl_FpOf.f a1).bind fun t213 => ((impl_FpOf.f (wrap64 (t212 + t213))).bind fun t214 => (some t214)))) = some r := h
 clear h
 replace H := Option.bind_eq_some_iff.mp H
 obtain ⟨t212, A30, H⟩ := H
 have A3 := Aside0.mk A30
 clear A30
 replace H := Option.bind_eq_some_iff.mp H
 obtain ⟨t213, A40, H⟩ := H
 have A4 := Aside0.mk A40
 clear A40
 replace H := Option.bind_eq_some_iff.mp H
 obtain ⟨t214, A50, H⟩ := H
 have A5 := Aside0.mk A50
 clear A50
 obtain rfl := Option.some.inj H
 go_enter Tryd.func96, Tryd.ntmps96
 go_wp2_with (first | ((with_reducible refine gate_callee (f := 48) rfl ?_); refine gL (some 6) Tryd.func48 #[.int .i64 a0] ?_; (with_reducible refine (impl_FpOf.calls a0 t212 _ A3.out).mono ?_); rintro e w' ⟨rfl, ⟨nd, rfl⟩⟩; refine ⟨_, rfl, ?_⟩) | ((with_reducible refine gate_callee (f := 48) rfl ?_); refine gL (some 8) Tryd.func48 #[.int .i64 a1] ?_; (with_reducible refine (impl_FpOf.calls a1 t213 _ A4.out).mono ?_); rintro e w' ⟨rfl, ⟨nd, rfl⟩⟩; refine ⟨_, rfl, ?_⟩) | ((with_reducible refine gate_callee (f := 48) rfl ?_); refine gL (some 10) Tryd.func48 #[.int .i64 (wrap64 (t212 + t213))] ?_; (with_reducible refine (impl_FpOf.calls (wrap64 (t212 + t213)) t214 _ A5.out).mono ?_); rintro e w' ⟨rfl, ⟨nd, rfl⟩⟩; refine ⟨_, rfl, ?_⟩))
 go_ret
 exact ⟨rS, rD⟩
/-! ### impl_curveAt: function 50 -/
def impl_curveAt.f (a0 : Int) : Option (Int) := (impl_FpMul.f a0 a0).bind fun t215 => ((impl_FpMul.f t215 a0).bind fun t216 => ((impl_FpAdd.f t216 a0).bind fun t217 => (some t217)))
set_option maxHeartbeats 8000000 in
set_option maxRecDepth 100000 in
theorem impl_curveAt.calls (a0 : Int) (r : Int) (w : World) (h : impl_curveAt.f a0 = some r) :
  Calls Tryd.prog 50 #[.int .i64 a0] w fun e w' => e = .returned (.int .i64 r) ∧ Drawn0 w w' := by
 have H : ((impl_FpMul.f a0 a0).bind fun t215 => ((impl_FpMul.f t215 a0).bind fun t216 => ((impl_FpAdd.f t216 a0).bind fun t217 => (some t217)))) = some r := h
 clear h
 replace H := Option.bind_eq_some_iff.mp H
 obtain ⟨t215, A20, H⟩ := H
 have A2 := Aside0.mk A20
 clear A20
 replace H := Option.bind_eq_some_iff.mp H
 obtain ⟨t216, A30, H⟩ := H
 have A3 := Aside0.mk A30
 clear A30
 replace H := Option.bind_eq_some_iff.mp H
 obtain ⟨t217, A40, H⟩ := H
 have A4 := Aside0.mk A40
 clear A40
 obtain rfl := Option.some.inj H
 go_enter Tryd.func50, Tryd.ntmps50
 go_wp2_with (first | ((with_reducible refine gate_callee (f := 95) rfl ?_); refine gL (some 5) Tryd.func95 #[.int .i64 a0, .int .i64 a0] ?_; (with_reducible refine (impl_FpMul.calls a0 a0 t215 _ A2.out).mono ?_); rintro e w' ⟨rfl, ⟨nd, rfl⟩⟩; refine ⟨_, rfl, ?_⟩) | ((with_reducible refine gate_callee (f := 95) rfl ?_); refine gL (some 7) Tryd.func95 #[.int .i64 t215, .int .i64 a0] ?_; (with_reducible refine (impl_FpMul.calls t215 a0 t216 _ A3.out).mono ?_); rintro e w' ⟨rfl, ⟨nd, rfl⟩⟩; refine ⟨_, rfl, ?_⟩) | ((with_reducible refine gate_callee (f := 96) rfl ?_); refine gL (some 9) Tryd.func96 #[.int .i64 t216, .int .i64 a0] ?_; (with_reducible refine (impl_FpAdd.calls t216 a0 t217 _ A4.out).mono ?_); rintro e w' ⟨rfl, ⟨nd, rfl⟩⟩; refine ⟨_, rfl, ?_⟩))
 go_ret
 exact ⟨rS, rD⟩
/-! ### impl_FpOk: function 124 -/
def impl_FpOk.f (a0 : Int) : Option (Bool) := if a0 ≥ 0 then (some (decide (a0 < 12107))) else (some false)
set_option maxHeartbeats 8000000 in
set_option maxRecDepth 100000 in
theorem impl_FpOk.calls (a0 : Int) (r : Bool) (w : World) (h : impl_FpOk.f a0 = some r) :
  Calls Tryd.prog 124 #[.int .i64 a0] w fun e w' => e = .returned (.bool r) ∧ Drawn0 w w' := by
 have H : (if a0 ≥ 0 then (some (decide (a0 < 12107))) else (some false)) = some r := h
 clear h
 by_cases c2 : a0 ≥ 0
 ·rw [if_pos c2] at H
  have c2b0 : decide (0 ≤ a0) = true := decide_eq_true c2
  clear c2
  obtain rfl := Option.some.inj H
  go_enter Tryd.func124, Tryd.ntmps124
  go_wp2
  go_ret
  exact ⟨rS, rD⟩
 ·rw [if_neg c2] at H
  have c2b0 : decide (0 ≤ a0) = false := decide_eq_false c2
  clear c2
  obtain rfl := Option.some.inj H
  go_enter Tryd.func124, Tryd.ntmps124
  go_wp2
  go_ret
  exact ⟨rS, rD⟩
/-! ### impl_PointOk: function 97 -/
def impl_PointOk.f (a0_0 : Int) (a0_1 : Int) (a0_2 : Bool) : Option (Bool) := if a0_2 = true then (if a0_0 = 0 then (some (a0_1 == 0)) else (some false)) else ((impl_FpOk.f a0_0).bind fun t219 => (if t219 = true then ((impl_FpOk.f a0_1).bind fun t220 => (if t220 = true then ((impl_FpMul.f a0_1 a0_1).bind fun t221 => ((impl_curveAt.f a0_0).bind fun t222 => (some (t221 == t222)))) else (some false))) else (some false)))
set_option maxHeartbeats 8000000 in
set_option maxRecDepth 100000 in
theorem impl_PointOk.calls (a0_0 : Int) (a0_1 : Int) (a0_2 : Bool) (r : Bool) (w : World) (h : impl_PointOk.f a0_0 a0_1 a0_2 = some r) :
  Calls Tryd.prog 97 #[.agg #[.int .i64 a0_0, .int .i64 a0_1, .bool a0_2]] w fun e w' => e = .returned (.bool r) ∧ Below w.heap.size w w' := by
 have hu23 := Tryd.underlying23
 have HB := Aside0.mk (Below.refl w.heap.size w)
 have H : (if a0_2 = true then (if a0_0 = 0 then (some (a0_1 == 0)) else (some false)) else ((impl_FpOk.f a0_0).bind fun t219 => (if t219 = true then ((impl_FpOk.f a0_1).bind fun t220 => (if t220 = true then ((impl_FpMul.f a0_1 a0_1).bind fun t221 => ((impl_curveAt.f a0_0).bind fun t222 => (some (t221 == t222)))) else (some false))) else (some false)))) = some r := h
 clear h
 by_cases c2 : a0_2 = true
 ·subst c2
  rw [if_pos rfl] at H
  by_cases c3 : a0_0 = 0
  ·rw [if_pos c3] at H
   have c3b0 : (a0_0 == 0) = true := beq_iff_eq.mpr c3
   have c3b1 : (a0_0 != 0) = false := bne_eq_false_iff_eq.mpr c3
   clear c3
   obtain rfl := Option.some.inj H
   go_enter Tryd.func97, Tryd.ntmps97
   go_wp2_with (first | ((with_reducible refine gate_dst (N := 1) rfl ?_); refine bE 1 #[.int .i64 a0_0, .int .i64 a0_1, .bool true] 23 ?_; intro gb218 hg w4 hbox hb; have BK218 := Aside0.mk (hbox); have GW218 := bG HB hg; have GE218 := bG HB hg; replace HB := bS HB hb; clear hb hbox hg; obtain ⟨hcz5_0, hcz5_1, hcz5_2, hfz5_0, hfz5_1, hfz5_2⟩ := bK3 (w := w4) BK218))
   repeat (go_quiet (first | ((with_reducible refine gate_dst (N := 1) rfl ?_); refine bE 1 #[.int .i64 a0_0, .int .i64 a0_1, .bool true] 23 ?_; intro gb218 hg w4 hbox hb; have BK218 := Aside0.mk (hbox); have GW218 := bG HB hg; have GE218 := bG HB hg; replace HB := bS HB hb; clear hb hbox hg; obtain ⟨hcz5_0, hcz5_1, hcz5_2, hfz5_0, hfz5_1, hfz5_2⟩ := bK3 (w := w4) BK218)); try go_wp2_with (first | ((with_reducible refine gate_dst (N := 1) rfl ?_); refine bE 1 #[.int .i64 a0_0, .int .i64 a0_1, .bool true] 23 ?_; intro gb218 hg w4 hbox hb; have BK218 := Aside0.mk (hbox); have GW218 := bG HB hg; have GE218 := bG HB hg; replace HB := bS HB hb; clear hb hbox hg; obtain ⟨hcz5_0, hcz5_1, hcz5_2, hfz5_0, hfz5_1, hfz5_2⟩ := bK3 (w := w4) BK218)))
   go_ret
   exact ⟨rR, bZ HB⟩
  ·rw [if_neg c3] at H
   have c3b0 : (a0_0 == 0) = false := beq_eq_false_iff_ne.mpr c3
   have c3b1 : (a0_0 != 0) = true := bne_iff_ne.mpr c3
   obtain rfl := Option.some.inj H
   go_enter Tryd.func97, Tryd.ntmps97
   go_wp2_with (first | ((with_reducible refine gate_dst (N := 1) rfl ?_); refine bE 1 #[.int .i64 a0_0, .int .i64 a0_1, .bool true] 23 ?_; intro gb218 hg w6 hbox hb; have BK218 := Aside0.mk (hbox); have GW218 := bG HB hg; have GE218 := bG HB hg; replace HB := bS HB hb; clear hb hbox hg; obtain ⟨hcz7_0, hcz7_1, hcz7_2, hfz7_0, hfz7_1, hfz7_2⟩ := bK3 (w := w6) BK218))
   repeat (go_quiet (first | ((with_reducible refine gate_dst (N := 1) rfl ?_); refine bE 1 #[.int .i64 a0_0, .int .i64 a0_1, .bool true] 23 ?_; intro gb218 hg w6 hbox hb; have BK218 := Aside0.mk (hbox); have GW218 := bG HB hg; have GE218 := bG HB hg; replace HB := bS HB hb; clear hb hbox hg; obtain ⟨hcz7_0, hcz7_1, hcz7_2, hfz7_0, hfz7_1, hfz7_2⟩ := bK3 (w := w6) BK218)); try go_wp2_with (first | ((with_reducible refine gate_dst (N := 1) rfl ?_); refine bE 1 #[.int .i64 a0_0, .int .i64 a0_1, .bool true] 23 ?_; intro gb218 hg w6 hbox hb; have BK218 := Aside0.mk (hbox); have GW218 := bG HB hg; have GE218 := bG HB hg; replace HB := bS HB hb; clear hb hbox hg; obtain ⟨hcz7_0, hcz7_1, hcz7_2, hfz7_0, hfz7_1, hfz7_2⟩ := bK3 (w := w6) BK218)))
   go_ret
   exact ⟨rR, bZ HB⟩
 ·replace c2 := Bool.eq_false_iff.mpr c2
  subst c2
  rw [if_neg (show ¬ (false = true) by decide)] at H
  replace H := Option.bind_eq_some_iff.mp H
  obtain ⟨t219, A80, H⟩ := H
  have A8 := Aside0.mk A80
  clear A80
  by_cases c9 : t219 = true
  ·subst c9
   rw [if_pos rfl] at H
   replace H := Option.bind_eq_some_iff.mp H
   obtain ⟨t220, A100, H⟩ := H
   have A10 := Aside0.mk A100
   clear A100
   by_cases c11 : t220 = true
   ·subst c11
    rw [if_pos rfl] at H
    replace H := Option.bind_eq_some_iff.mp H
    obtain ⟨t221, A120, H⟩ := H
    have A12 := Aside0.mk A120
    clear A120
    replace H := Option.bind_eq_some_iff.mp H
    obtain ⟨t222, A130, H⟩ := H
    have A13 := Aside0.mk A130
    clear A130
    obtain rfl := Option.some.inj H
    go_enter Tryd.func97, Tryd.ntmps97
    go_wp2_with (first | ((with_reducible refine gate_dst (N := 1) rfl ?_); refine bE 1 #[.int .i64 a0_0, .int .i64 a0_1, .bool false] 23 ?_; intro gb218 hg w14 hbox hb; have BK218 := Aside0.mk (hbox); have GW218 := bG HB hg; have GE218 := bG HB hg; replace HB := bS HB hb; clear hb hbox hg; obtain ⟨hcz15_0, hcz15_1, hcz15_2, hfz15_0, hfz15_1, hfz15_2⟩ := bK3 (w := w14) BK218) | (go_at_call 124; (with_reducible refine (impl_FpOk.calls a0_0 true _ A8.out).mono ?_); rintro e w' ⟨rfl, ⟨nd, rfl⟩⟩; (try exact tD)) | (go_at_call 124; (with_reducible refine (impl_FpOk.calls a0_1 true _ A10.out).mono ?_); rintro e w' ⟨rfl, ⟨nd, rfl⟩⟩; (try exact tD)) | (go_at_call 95; (with_reducible refine (impl_FpMul.calls a0_1 a0_1 t221 _ A12.out).mono ?_); rintro e w' ⟨rfl, ⟨nd, rfl⟩⟩; (try exact tD)) | (go_at_call 50; (with_reducible refine (impl_curveAt.calls a0_0 t222 _ A13.out).mono ?_); rintro e w' ⟨rfl, ⟨nd, rfl⟩⟩; (try exact tD)))
    repeat (go_quiet (first | ((with_reducible refine gate_dst (N := 1) rfl ?_); refine bE 1 #[.int .i64 a0_0, .int .i64 a0_1, .bool false] 23 ?_; intro gb218 hg w14 hbox hb; have BK218 := Aside0.mk (hbox); have GW218 := bG HB hg; have GE218 := bG HB hg; replace HB := bS HB hb; clear hb hbox hg; obtain ⟨hcz15_0, hcz15_1, hcz15_2, hfz15_0, hfz15_1, hfz15_2⟩ := bK3 (w := w14) BK218) | (go_at_call 124; (with_reducible refine (impl_FpOk.calls a0_0 true _ A8.out).mono ?_); rintro e w' ⟨rfl, ⟨nd, rfl⟩⟩; (try exact tD)) | (go_at_call 124; (with_reducible refine (impl_FpOk.calls a0_1 true _ A10.out).mono ?_); rintro e w' ⟨rfl, ⟨nd, rfl⟩⟩; (try exact tD)) | (go_at_call 95; (with_reducible refine (impl_FpMul.calls a0_1 a0_1 t221 _ A12.out).mono ?_); rintro e w' ⟨rfl, ⟨nd, rfl⟩⟩; (try exact tD)) | (go_at_call 50; (with_reducible refine (impl_curveAt.calls a0_0 t222 _ A13.out).mono ?_); rintro e w' ⟨rfl, ⟨nd, rfl⟩⟩; (try exact tD))); try go_wp2_with (first | ((with_reducible refine gate_dst (N := 1) rfl ?_); refine bE 1 #[.int .i64 a0_0, .int .i64 a0_1, .bool false] 23 ?_; intro gb218 hg w14 hbox hb; have BK218 := Aside0.mk (hbox); have GW218 := bG HB hg; have GE218 := bG HB hg; replace HB := bS HB hb; clear hb hbox hg; obtain ⟨hcz15_0, hcz15_1, hcz15_2, hfz15_0, hfz15_1, hfz15_2⟩ := bK3 (w := w14) BK218) | (go_at_call 124; (with_reducible refine (impl_FpOk.calls a0_0 true _ A8.out).mono ?_); rintro e w' ⟨rfl, ⟨nd, rfl⟩⟩; (try exact tD)) | (go_at_call 124; (with_reducible refine (impl_FpOk.calls a0_1 true _ A10.out).mono ?_); rintro e w' ⟨rfl, ⟨nd, rfl⟩⟩; (try exact tD)) | (go_at_call 95; (with_reducible refine (impl_FpMul.calls a0_1 a0_1 t221 _ A12.out).mono ?_); rintro e w' ⟨rfl, ⟨nd, rfl⟩⟩; (try exact tD)) | (go_at_call 50; (with_reducible refine (impl_curveAt.calls a0_0 t222 _ A13.out).mono ?_); rintro e w' ⟨rfl, ⟨nd, rfl⟩⟩; (try exact tD))))
    go_ret
    exact ⟨rR, bZ HB⟩
   ·replace c11 := Bool.eq_false_iff.mpr c11
    subst c11
    rw [if_neg (show ¬ (false = true) by decide)] at H
    obtain rfl := Option.some.inj H
    go_enter Tryd.func97, Tryd.ntmps97
    go_wp2_with (first | ((with_reducible refine gate_dst (N := 1) rfl ?_); refine bE 1 #[.int .i64 a0_0, .int .i64 a0_1, .bool false] 23 ?_; intro gb218 hg w16 hbox hb; have BK218 := Aside0.mk (hbox); have GW218 := bG HB hg; have GE218 := bG HB hg; replace HB := bS HB hb; clear hb hbox hg; obtain ⟨hcz17_0, hcz17_1, hcz17_2, hfz17_0, hfz17_1, hfz17_2⟩ := bK3 (w := w16) BK218) | (go_at_call 124; (with_reducible refine (impl_FpOk.calls a0_0 true _ A8.out).mono ?_); rintro e w' ⟨rfl, ⟨nd, rfl⟩⟩; (try exact tD)) | (go_at_call 124; (with_reducible refine (impl_FpOk.calls a0_1 false _ A10.out).mono ?_); rintro e w' ⟨rfl, ⟨nd, rfl⟩⟩; (try exact tD)))
    repeat (go_quiet (first | ((with_reducible refine gate_dst (N := 1) rfl ?_); refine bE 1 #[.int .i64 a0_0, .int .i64 a0_1, .bool false] 23 ?_; intro gb218 hg w16 hbox hb; have BK218 := Aside0.mk (hbox); have GW218 := bG HB hg; have GE218 := bG HB hg; replace HB := bS HB hb; clear hb hbox hg; obtain ⟨hcz17_0, hcz17_1, hcz17_2, hfz17_0, hfz17_1, hfz17_2⟩ := bK3 (w := w16) BK218) | (go_at_call 124; (with_reducible refine (impl_FpOk.calls a0_0 true _ A8.out).mono ?_); rintro e w' ⟨rfl, ⟨nd, rfl⟩⟩; (try exact tD)) | (go_at_call 124; (with_reducible refine (impl_FpOk.calls a0_1 false _ A10.out).mono ?_); rintro e w' ⟨rfl, ⟨nd, rfl⟩⟩; (try exact tD))); try go_wp2_with (first | ((with_reducible refine gate_dst (N := 1) rfl ?_); refine bE 1 #[.int .i64 a0_0, .int .i64 a0_1, .bool false] 23 ?_; intro gb218 hg w16 hbox hb; have BK218 := Aside0.mk (hbox); have GW218 := bG HB hg; have GE218 := bG HB hg; replace HB := bS HB hb; clear hb hbox hg; obtain ⟨hcz17_0, hcz17_1, hcz17_2, hfz17_0, hfz17_1, hfz17_2⟩ := bK3 (w := w16) BK218) | (go_at_call 124; (with_reducible refine (impl_FpOk.calls a0_0 true _ A8.out).mono ?_); rintro e w' ⟨rfl, ⟨nd, rfl⟩⟩; (try exact tD)) | (go_at_call 124; (with_reducible refine (impl_FpOk.calls a0_1 false _ A10.out).mono ?_); rintro e w' ⟨rfl, ⟨nd, rfl⟩⟩; (try exact tD))))
    go_ret
    exact ⟨rR, bZ HB⟩
  ·replace c9 := Bool.eq_false_iff.mpr c9
   subst c9
   rw [if_neg (show ¬ (false = true) by decide)] at H
   obtain rfl := Option.some.inj H
   go_enter Tryd.func97, Tryd.ntmps97
   go_wp2_with (first | ((with_reducible refine gate_dst (N := 1) rfl ?_); refine bE 1 #[.int .i64 a0_0, .int .i64 a0_1, .bool false] 23 ?_; intro gb218 hg w18 hbox hb; have BK218 := Aside0.mk (hbox); have GW218 := bG HB hg; have GE218 := bG HB hg; replace HB := bS HB hb; clear hb hbox hg; obtain ⟨hcz19_0, hcz19_1, hcz19_2, hfz19_0, hfz19_1, hfz19_2⟩ := bK3 (w := w18) BK218) | (go_at_call 124; (with_reducible refine (impl_FpOk.calls a0_0 false _ A8.out).mono ?_); rintro e w' ⟨rfl, ⟨nd, rfl⟩⟩; (try exact tD)))
   repeat (go_quiet (first | ((with_reducible refine gate_dst (N := 1) rfl ?_); refine bE 1 #[.int .i64 a0_0, .int .i64 a0_1, .bool false] 23 ?_; intro gb218 hg w18 hbox hb; have BK218 := Aside0.mk (hbox); have GW218 := bG HB hg; have GE218 := bG HB hg; replace HB := bS HB hb; clear hb hbox hg; obtain ⟨hcz19_0, hcz19_1, hcz19_2, hfz19_0, hfz19_1, hfz19_2⟩ := bK3 (w := w18) BK218) | (go_at_call 124; (with_reducible refine (impl_FpOk.calls a0_0 false _ A8.out).mono ?_); rintro e w' ⟨rfl, ⟨nd, rfl⟩⟩; (try exact tD))); try go_wp2_with (first | ((with_reducible refine gate_dst (N := 1) rfl ?_); refine bE 1 #[.int .i64 a0_0, .int .i64 a0_1, .bool false] 23 ?_; intro gb218 hg w18 hbox hb; have BK218 := Aside0.mk (hbox); have GW218 := bG HB hg; have GE218 := bG HB hg; replace HB := bS HB hb; clear hb hbox hg; obtain ⟨hcz19_0, hcz19_1, hcz19_2, hfz19_0, hfz19_1, hfz19_2⟩ := bK3 (w := w18) BK218) | (go_at_call 124; (with_reducible refine (impl_FpOk.calls a0_0 false _ A8.out).mono ?_); rintro e w' ⟨rfl, ⟨nd, rfl⟩⟩; (try exact tD))))
   go_ret
   exact ⟨rR, bZ HB⟩
/-! ### impl_FpSub: function 126 -/
def impl_FpSub.f (a0 : Int) (a1 : Int) : Option (Int) := (impl_FpOf.f a0).bind fun t223 => ((impl_FpOf.f a1).bind fun t224 => ((impl_FpOf.f (wrap64 (t223 - t224))).bind fun t225 => (some t225)))
set_option maxHeartbeats 8000000 in
set_option maxRecDepth 100000 in
theorem impl_FpSub.calls (a0 : Int) (a1 : Int) (r : Int) (w : World) (h : impl_FpSub.f a0 a1 = some r) :
  Calls Tryd.prog 126 #[.int .i64 a0, .int .i64 a1] w fun e w' => e = .returned (.int .i64 r) ∧ Drawn0 w w' := by
 have H : ((impl_FpOf.f a0).bind fun t223 => ((impl_FpOf.f a1).bind fun t224 => ((impl_FpOf.f (wrap64 (t223 - t224))).bind fun t225 => (some t225)))) = some r := h
 clear h
 replace H := Option.bind_eq_some_iff.mp H
 obtain ⟨t223, A30, H⟩ := H
 have A3 := Aside0.mk A30
 clear A30
 replace H := Option.bind_eq_some_iff.mp H
 obtain ⟨t224, A40, H⟩ := H
 have A4 := Aside0.mk A40
 clear A40
 replace H := Option.bind_eq_some_iff.mp H
 obtain ⟨t225, A50, H⟩ := H
 have A5 := Aside0.mk A50
 clear A50
 obtain rfl := Option.some.inj H
 go_enter Tryd.func126, Tryd.ntmps126
 go_wp2_with (first | ((with_reducible refine gate_callee (f := 48) rfl ?_); refine gL (some 6) Tryd.func48 #[.int .i64 a0] ?_; (with_reducible refine (impl_FpOf.calls a0 t223 _ A3.out).mono ?_); rintro e w' ⟨rfl, ⟨nd, rfl⟩⟩; refine ⟨_, rfl, ?_⟩) | ((with_reducible refine gate_callee (f := 48) rfl ?_); refine gL (some 8) Tryd.func48 #[.int .i64 a1] ?_; (with_reducible refine (impl_FpOf.calls a1 t224 _ A4.out).mono ?_); rintro e w' ⟨rfl, ⟨nd, rfl⟩⟩; refine ⟨_, rfl, ?_⟩) | ((with_reducible refine gate_callee (f := 48) rfl ?_); refine gL (some 10) Tryd.func48 #[.int .i64 (wrap64 (t223 - t224))] ?_; (with_reducible refine (impl_FpOf.calls (wrap64 (t223 - t224)) t225 _ A5.out).mono ?_); rintro e w' ⟨rfl, ⟨nd, rfl⟩⟩; refine ⟨_, rfl, ?_⟩))
 go_ret
 exact ⟨rS, rD⟩
/-! ### impl_FpInv: function 134 -/
def impl_FpInv.f (k : Nat) (a0 : Int) : Option (Int) := (impl_powerMod.f k a0 12105 12107).bind fun t226 => (some t226)
theorem impl_FpInv.mono : ∀ a0 k, LeO (impl_FpInv.f k a0) (impl_FpInv.f (k + 1) a0) := by
 intro a0 k
 unfold impl_FpInv.f
 repeat' first
   | (with_reducible exact impl_powerMod.mono _ _ _ _)
   | (with_reducible exact LeO.refl _)
   | (with_reducible exact LeO.none _)
   | (with_reducible refine LeO.ite ?_ ?_)
   | (with_reducible refine LeO.bind ?_ (fun _ => ?_))
   | exact impl_powerMod.mono _ _ _ _
   | exact LeO.none _
   | refine LeO.ite ?_ ?_
   | refine LeO.bind ?_ (fun _ => ?_)
set_option maxHeartbeats 8000000 in
set_option maxRecDepth 100000 in
theorem impl_FpInv.calls (k : Nat) (a0 : Int) (r : Int) (w : World) (h : impl_FpInv.f k a0 = some r) :
  Calls Tryd.prog 134 #[.int .i64 a0] w fun e w' => e = .returned (.int .i64 r) ∧ Drawn0 w w' := by
 have H : ((impl_powerMod.f k a0 12105 12107).bind fun t226 => (some t226)) = some r := h
 clear h
 replace H := Option.bind_eq_some_iff.mp H
 obtain ⟨t226, A20, H⟩ := H
 have A2 := Aside0.mk A20
 clear A20
 obtain rfl := Option.some.inj H
 go_enter Tryd.func134, Tryd.ntmps134
 go_wp2_with (first | ((with_reducible refine gate_callee (f := 94) rfl ?_); refine gL (some 4) Tryd.func94 #[.int .i64 a0, .int .i64 12105, .int .i64 12107] ?_; (with_reducible refine (impl_powerMod.calls k a0 12105 12107 t226 _ A2.out).mono ?_); rintro e w' ⟨rfl, ⟨nd, rfl⟩⟩; refine ⟨_, rfl, ?_⟩))
 go_ret
 exact ⟨rS, rD⟩
/-! ### impl_slopeOf: function 125 -/
def impl_slopeOf.j0 : Nat → Bool → Int → Int → Bool → Option (Int × Bool)
 | 0, _, _, _, _ => none
 | k + 1, x32, x228000, x228001, x228002 => if x32 = true then (some (0, false)) else ((impl_FpMul.f x228000 x228000).bind fun t233 => ((impl_FpMul.f 3 t233).bind fun t234 => ((impl_FpAdd.f t234 1).bind fun t235 => ((impl_FpMul.f 2 x228001).bind fun t236 => ((impl_FpInv.f k t236).bind fun t237 => ((impl_FpMul.f t235 t237).bind fun t238 => (some (t238, true))))))))
def impl_slopeOf.f (k : Nat) (a0_0 : Int) (a0_1 : Int) (a0_2 : Bool) (a1_0 : Int) (a1_1 : Int) (a1_2 : Bool) : Option (Int × Bool) := if a0_0 = a1_0 then (if a0_1 = a1_1 then (impl_slopeOf.j0 k (a0_1 == 0) a0_0 a0_1 a0_2) else (impl_slopeOf.j0 k true a0_0 a0_1 a0_2)) else ((impl_FpSub.f a1_1 a0_1).bind fun t229 => ((impl_FpSub.f a1_0 a0_0).bind fun t230 => ((impl_FpInv.f k t230).bind fun t231 => ((impl_FpMul.f t229 t231).bind fun t232 => (some (t232, true))))))
theorem impl_slopeOf.mono_l : ∀ k, (∀ y0 y1 y2 y3, LeO (impl_slopeOf.j0 k y0 y1 y2 y3) (impl_slopeOf.j0 (k + 1) y0 y1 y2 y3))
 | 0 => fun _ _ _ _ r h => by simp [impl_slopeOf.j0] at h
 | k + 1 => by
  have ih0 := impl_slopeOf.mono_l k
  ·intro y0 y1 y2 y3
   unfold impl_slopeOf.j0
   repeat' first
   | (with_reducible exact ih0 _ _ _ _)
   | (with_reducible exact impl_FpInv.mono _ _)
   | (with_reducible exact LeO.refl _)
   | (with_reducible exact LeO.none _)
   | (with_reducible refine LeO.ite ?_ ?_)
   | (with_reducible refine LeO.bind ?_ (fun _ => ?_))
   | exact ih0 _ _ _ _
   | exact impl_FpInv.mono _ _
   | exact LeO.none _
   | refine LeO.ite ?_ ?_
   | refine LeO.bind ?_ (fun _ => ?_)
theorem impl_slopeOf.mono : ∀ a0 a1 a2 a3 a4 a5 k, LeO (impl_slopeOf.f k a0 a1 a2 a3 a4 a5) (impl_slopeOf.f (k + 1) a0 a1 a2 a3 a4 a5) := by
 intro a0 a1 a2 a3 a4 a5 k
 have ih0 := impl_slopeOf.mono_l k
 unfold impl_slopeOf.f
 repeat' first
   | (with_reducible exact ih0 _ _ _ _)
   | (with_reducible exact impl_FpInv.mono _ _)
   | (with_reducible exact LeO.refl _)
   | (with_reducible exact LeO.none _)
   | (with_reducible refine LeO.ite ?_ ?_)
   | (with_reducible refine LeO.bind ?_ (fun _ => ?_))
   | exact ih0 _ _ _ _
   | exact impl_FpInv.mono _ _
   | exact LeO.none _
   | refine LeO.ite ?_ ?_
   | refine LeO.bind ?_ (fun _ => ?_)
set_option maxHeartbeats 8000000 in
set_option maxRecDepth 100000 in
theorem impl_slopeOf.calls (k : Nat) (a0_0 : Int) (a0_1 : Int) (a0_2 : Bool) (a1_0 : Int) (a1_1 : Int) (a1_2 : Bool) (r1 : Int) (r2 : Bool) (w : World) (h : impl_slopeOf.f k a0_0 a0_1 a0_2 a1_0 a1_1 a1_2 = some (r1, r2)) :
  Calls Tryd.prog 125 #[.agg #[.int .i64 a0_0, .int .i64 a0_1, .bool a0_2], .agg #[.int .i64 a1_0, .int .i64 a1_1, .bool a1_2]] w fun e w' => e = .returned (.tuple #[.int .i64 r1, .bool r2]) ∧ Below w.heap.size w w' := by
 have hu23 := Tryd.underlying23
 have HB := Aside0.mk (Below.refl w.heap.size w)
 have H : (if a0_0 = a1_0 then (if a0_1 = a1_1 then (impl_slopeOf.j0 k (a0_1 == 0) a0_0 a0_1 a0_2) else (impl_slopeOf.j0 k true a0_0 a0_1 a0_2)) else ((impl_FpSub.f a1_1 a0_1).bind fun t229 => ((impl_FpSub.f a1_0 a0_0).bind fun t230 => ((impl_FpInv.f k t230).bind fun t231 => ((impl_FpMul.f t229 t231).bind fun t232 => (some (t232, true))))))) = some (r1, r2) := h
 clear h
 by_cases c3 : a0_0 = a1_0
 ·rw [if_pos c3] at H
  have c3b0 : (a0_0 == a1_0) = true := beq_iff_eq.mpr c3
  have c3b1 : (a0_0 != a1_0) = false := bne_eq_false_iff_eq.mpr c3
  clear c3
  have HC4 := Aside0.mk H
  clear H
  go_enter Tryd.func125, Tryd.ntmps125
  go_upto_region 3 with (first | ((with_reducible refine gate_dst (N := 2) rfl ?_); refine bE 2 #[.int .i64 a0_0, .int .i64 a0_1, .bool a0_2] 23 ?_; intro gb227 hg w5 hbox hb; have BK227 := Aside0.mk (hbox); have GW227 := bG HB hg; have GE227 := bG HB hg; replace HB := bS HB hb; clear hb hbox hg) | ((with_reducible refine gate_dst (N := 3) rfl ?_); refine bE 3 #[.int .i64 a1_0, .int .i64 a1_1, .bool a1_2] 23 ?_; intro gb228 hg w6 hbox hb; have BK228 := Aside0.mk (hbox); have GW228 := bG HB hg; have GE228 := bG HB hg; replace HB := bS HB hb; have NB227_228 := bL BK227 hg; have NB228_227 := bR BK227 hg; replace BK227 := bB BK227 hb; clear hb hbox hg; have hnb7 := NB227_228.out; have hnc7 := NB228_227.out; obtain ⟨hcz8_0, hcz8_1, hcz8_2, hfz8_0, hfz8_1, hfz8_2⟩ := bK3 (w := w6) BK227; obtain ⟨hcz9_0, hcz9_1, hcz9_2, hfz9_0, hfz9_1, hfz9_2⟩ := bK3 (w := w6) BK228))
  repeat (go_quiet (first | ((with_reducible refine gate_dst (N := 2) rfl ?_); refine bE 2 #[.int .i64 a0_0, .int .i64 a0_1, .bool a0_2] 23 ?_; intro gb227 hg w5 hbox hb; have BK227 := Aside0.mk (hbox); have GW227 := bG HB hg; have GE227 := bG HB hg; replace HB := bS HB hb; clear hb hbox hg) | ((with_reducible refine gate_dst (N := 3) rfl ?_); refine bE 3 #[.int .i64 a1_0, .int .i64 a1_1, .bool a1_2] 23 ?_; intro gb228 hg w6 hbox hb; have BK228 := Aside0.mk (hbox); have GW228 := bG HB hg; have GE228 := bG HB hg; replace HB := bS HB hb; have NB227_228 := bL BK227 hg; have NB228_227 := bR BK227 hg; replace BK227 := bB BK227 hb; clear hb hbox hg; have hnb7 := NB227_228.out; have hnc7 := NB228_227.out; obtain ⟨hcz8_0, hcz8_1, hcz8_2, hfz8_0, hfz8_1, hfz8_2⟩ := bK3 (w := w6) BK227; obtain ⟨hcz9_0, hcz9_1, hcz9_2, hfz9_0, hfz9_1, hfz9_2⟩ := bK3 (w := w6) BK228)); go_upto_region 3 with (first | ((with_reducible refine gate_dst (N := 2) rfl ?_); refine bE 2 #[.int .i64 a0_0, .int .i64 a0_1, .bool a0_2] 23 ?_; intro gb227 hg w5 hbox hb; have BK227 := Aside0.mk (hbox); have GW227 := bG HB hg; have GE227 := bG HB hg; replace HB := bS HB hb; clear hb hbox hg) | ((with_reducible refine gate_dst (N := 3) rfl ?_); refine bE 3 #[.int .i64 a1_0, .int .i64 a1_1, .bool a1_2] 23 ?_; intro gb228 hg w6 hbox hb; have BK228 := Aside0.mk (hbox); have GW228 := bG HB hg; have GE228 := bG HB hg; replace HB := bS HB hb; have NB227_228 := bL BK227 hg; have NB228_227 := bR BK227 hg; replace BK227 := bB BK227 hb; clear hb hbox hg; have hnb7 := NB227_228.out; have hnc7 := NB228_227.out; obtain ⟨hcz8_0, hcz8_1, hcz8_2, hfz8_0, hfz8_1, hfz8_2⟩ := bK3 (w := w6) BK227; obtain ⟨hcz9_0, hcz9_1, hcz9_2, hfz9_0, hfz9_1, hfz9_2⟩ := bK3 (w := w6) BK228)))
  (try simp only [Act.put, List.setIfInBounds_toArray, List.set_cons_zero, List.set_cons_succ])
  go_cut [32] (fun v32 wc => ∃ (kq : Nat) (x32_3 : Bool), v32 = .bool x32_3 ∧ Aside0 (impl_slopeOf.j0 kq x32_3 a0_0 a0_1 a0_2 = some (r1, r2)) ∧ Aside0 (kq ≤ k) ∧ Aside0 (wc.heap[gb227]? = some (.cells #[.int .i64 a0_0, .int .i64 a0_1, .bool a0_2] 23 (0, 0))) ∧ Aside0 (wc.heap[gb228]? = some (.cells #[.int .i64 a1_0, .int .i64 a1_1, .bool a1_2] 23 (0, 0))) ∧ Aside0 (Below w.heap.size w wc))
  case first =>
   have H := HC4.out
   clear HC4
   by_cases c10 : a0_1 = a1_1
   ·rw [if_pos c10] at H
    have c10b0 : (a0_1 == a1_1) = true := beq_iff_eq.mpr c10
    have c10b1 : (a0_1 != a1_1) = false := bne_eq_false_iff_eq.mpr c10
    clear c10
    (first | rw [c10b0] | (simp only [i64_w, i32_w]; rw [c10b0]) | rw [c10b1] | skip)
    have H' := Aside0.mk H
    clear H
    have hnb11 := NB227_228.out
    have hnc11 := NB228_227.out
    obtain ⟨hcz12_0, hcz12_1, hcz12_2, hfz12_0, hfz12_1, hfz12_2⟩ := bK3 (w := w6) BK227
    obtain ⟨hcz13_0, hcz13_1, hcz13_2, hfz13_0, hfz13_1, hfz13_2⟩ := bK3 (w := w6) BK228
    go_wp2
    repeat (go_quiet (fail); try go_wp2)
    go_meet
    case rel => exact ⟨_, ((a0_1 == 0)), rS, H', ⟨by first | omega | exact Nat.le_refl _⟩, ⟨bP BK227⟩, ⟨bP BK228⟩, ⟨bZ HB⟩⟩
   ·rw [if_neg c10] at H
    have c10b0 : (a0_1 == a1_1) = false := beq_eq_false_iff_ne.mpr c10
    have c10b1 : (a0_1 != a1_1) = true := bne_iff_ne.mpr c10
    (first | rw [c10b0] | (simp only [i64_w, i32_w]; rw [c10b0]) | rw [c10b1] | skip)
    have H' := Aside0.mk H
    clear H
    have hnb14 := NB227_228.out
    have hnc14 := NB228_227.out
    obtain ⟨hcz15_0, hcz15_1, hcz15_2, hfz15_0, hfz15_1, hfz15_2⟩ := bK3 (w := w6) BK227
    obtain ⟨hcz16_0, hcz16_1, hcz16_2, hfz16_0, hfz16_1, hfz16_2⟩ := bK3 (w := w6) BK228
    go_wp2
    repeat (go_quiet (fail); try go_wp2)
    go_meet
    case rel => exact ⟨_, (true), rS, H', ⟨by first | omega | exact Nat.le_refl _⟩, ⟨bP BK227⟩, ⟨bP BK228⟩, ⟨bZ HB⟩⟩
  case rest =>
   clear HC4
   try clear c1
   try clear p2
   try clear c3
   try clear c3b0
   try clear c3b1
   try clear c7
   try clear c10
   try clear c10b0
   try clear c10b1
   try clear c11
   try clear c12
   try clear c14
   try clear hcz12_0
   try clear hcz12_1
   try clear hcz12_2
   try clear hcz13_0
   try clear hcz13_1
   try clear hcz13_2
   try clear hcz15_0
   try clear hcz15_1
   try clear hcz15_2
   try clear hcz16_0
   try clear hcz16_1
   try clear hcz16_2
   try clear hcz8_0
   try clear hcz8_1
   try clear hcz8_2
   try clear hcz9_0
   try clear hcz9_1
   try clear hcz9_2
   try clear hfz12_0
   try clear hfz12_1
   try clear hfz12_2
   try clear hfz13_0
   try clear hfz13_1
   try clear hfz13_2
   try clear hfz15_0
   try clear hfz15_1
   try clear hfz15_2
   try clear hfz16_0
   try clear hfz16_1
   try clear hfz16_2
   try clear hfz8_0
   try clear hfz8_1
   try clear hfz8_2
   try clear hfz9_0
   try clear hfz9_1
   try clear hfz9_2
   obtain ⟨kq, x32_3, rfl, HA, HJ3, BK227, BK228, HB⟩ := hcut
   cases kq with
   | zero => exact absurd HA.out (by simp [impl_slopeOf.j0])
   | succ kj3 =>
    have H := HA.out
    clear HA
    simp only [impl_slopeOf.j0] at H
    by_cases c17 : x32_3 = true
    ·subst c17
     rw [if_pos rfl] at H
     simp only [Option.some.injEq, Prod.mk.injEq] at H
     obtain ⟨rfl, rfl⟩ := H
     go_wp2
     repeat (go_quiet (fail); try go_wp2)
     go_ret2
     exact ⟨rR, bZ HB⟩
    ·replace c17 := Bool.eq_false_iff.mpr c17
     subst c17
     rw [if_neg (show ¬ (false = true) by decide)] at H
     replace H := Option.bind_eq_some_iff.mp H
     obtain ⟨t233, A180, H⟩ := H
     have A18 := Aside0.mk A180
     clear A180
     replace H := Option.bind_eq_some_iff.mp H
     obtain ⟨t234, A190, H⟩ := H
     have A19 := Aside0.mk A190
     clear A190
     replace H := Option.bind_eq_some_iff.mp H
     obtain ⟨t235, A200, H⟩ := H
     have A20 := Aside0.mk A200
     clear A200
     replace H := Option.bind_eq_some_iff.mp H
     obtain ⟨t236, A210, H⟩ := H
     have A21 := Aside0.mk A210
     clear A210
     replace H := Option.bind_eq_some_iff.mp H
     obtain ⟨t237, A220, H⟩ := H
     have A22 := Aside0.mk A220
     clear A220
     replace H := Option.bind_eq_some_iff.mp H
     obtain ⟨t238, A230, H⟩ := H
     have A23 := Aside0.mk A230
     clear A230
     simp only [Option.some.injEq, Prod.mk.injEq] at H
     obtain ⟨rfl, rfl⟩ := H
     have hnb24 := NB227_228.out
     have hnc24 := NB228_227.out
     obtain ⟨hcz25_0, hcz25_1, hcz25_2, hfz25_0, hfz25_1, hfz25_2⟩ := bK3 (w := wc) BK227
     go_wp2_with (first | (go_at_call 95; (with_reducible refine (impl_FpMul.calls a0_0 a0_0 t233 _ A18.out).mono ?_); rintro e w' ⟨rfl, ⟨nd, rfl⟩⟩; (try exact tD)) | (go_at_call 95; (with_reducible refine (impl_FpMul.calls 3 t233 t234 _ A19.out).mono ?_); rintro e w' ⟨rfl, ⟨nd, rfl⟩⟩; (try exact tD)) | (go_at_call 96; (with_reducible refine (impl_FpAdd.calls t234 1 t235 _ A20.out).mono ?_); rintro e w' ⟨rfl, ⟨nd, rfl⟩⟩; (try exact tD)) | (go_at_call 95; (with_reducible refine (impl_FpMul.calls 2 a0_1 t236 _ A21.out).mono ?_); rintro e w' ⟨rfl, ⟨nd, rfl⟩⟩; (try exact tD)) | (go_at_call 134; (with_reducible refine (impl_FpInv.calls kj3 t236 t237 _ A22.out).mono ?_); rintro e w' ⟨rfl, ⟨nd, rfl⟩⟩; (try exact tD)) | (go_at_call 95; (with_reducible refine (impl_FpMul.calls t235 t237 t238 _ A23.out).mono ?_); rintro e w' ⟨rfl, ⟨nd, rfl⟩⟩; (try exact tD)))
     repeat (go_quiet (first | (go_at_call 95; (with_reducible refine (impl_FpMul.calls a0_0 a0_0 t233 _ A18.out).mono ?_); rintro e w' ⟨rfl, ⟨nd, rfl⟩⟩; (try exact tD)) | (go_at_call 95; (with_reducible refine (impl_FpMul.calls 3 t233 t234 _ A19.out).mono ?_); rintro e w' ⟨rfl, ⟨nd, rfl⟩⟩; (try exact tD)) | (go_at_call 96; (with_reducible refine (impl_FpAdd.calls t234 1 t235 _ A20.out).mono ?_); rintro e w' ⟨rfl, ⟨nd, rfl⟩⟩; (try exact tD)) | (go_at_call 95; (with_reducible refine (impl_FpMul.calls 2 a0_1 t236 _ A21.out).mono ?_); rintro e w' ⟨rfl, ⟨nd, rfl⟩⟩; (try exact tD)) | (go_at_call 134; (with_reducible refine (impl_FpInv.calls kj3 t236 t237 _ A22.out).mono ?_); rintro e w' ⟨rfl, ⟨nd, rfl⟩⟩; (try exact tD)) | (go_at_call 95; (with_reducible refine (impl_FpMul.calls t235 t237 t238 _ A23.out).mono ?_); rintro e w' ⟨rfl, ⟨nd, rfl⟩⟩; (try exact tD))); try go_wp2_with (first | (go_at_call 95; (with_reducible refine (impl_FpMul.calls a0_0 a0_0 t233 _ A18.out).mono ?_); rintro e w' ⟨rfl, ⟨nd, rfl⟩⟩; (try exact tD)) | (go_at_call 95; (with_reducible refine (impl_FpMul.calls 3 t233 t234 _ A19.out).mono ?_); rintro e w' ⟨rfl, ⟨nd, rfl⟩⟩; (try exact tD)) | (go_at_call 96; (with_reducible refine (impl_FpAdd.calls t234 1 t235 _ A20.out).mono ?_); rintro e w' ⟨rfl, ⟨nd, rfl⟩⟩; (try exact tD)) | (go_at_call 95; (with_reducible refine (impl_FpMul.calls 2 a0_1 t236 _ A21.out).mono ?_); rintro e w' ⟨rfl, ⟨nd, rfl⟩⟩; (try exact tD)) | (go_at_call 134; (with_reducible refine (impl_FpInv.calls kj3 t236 t237 _ A22.out).mono ?_); rintro e w' ⟨rfl, ⟨nd, rfl⟩⟩; (try exact tD)) | (go_at_call 95; (with_reducible refine (impl_FpMul.calls t235 t237 t238 _ A23.out).mono ?_); rintro e w' ⟨rfl, ⟨nd, rfl⟩⟩; (try exact tD))))
     go_ret2
     exact ⟨rR, bZ HB⟩
 ·rw [if_neg c3] at H
  have c3b0 : (a0_0 == a1_0) = false := beq_eq_false_iff_ne.mpr c3
  have c3b1 : (a0_0 != a1_0) = true := bne_iff_ne.mpr c3
  replace H := Option.bind_eq_some_iff.mp H
  obtain ⟨t229, A260, H⟩ := H
  have A26 := Aside0.mk A260
  clear A260
  replace H := Option.bind_eq_some_iff.mp H
  obtain ⟨t230, A270, H⟩ := H
  have A27 := Aside0.mk A270
  clear A270
  replace H := Option.bind_eq_some_iff.mp H
  obtain ⟨t231, A280, H⟩ := H
  have A28 := Aside0.mk A280
  clear A280
  replace H := Option.bind_eq_some_iff.mp H
  obtain ⟨t232, A290, H⟩ := H
  have A29 := Aside0.mk A290
  clear A290
  simp only [Option.some.injEq, Prod.mk.injEq] at H
  obtain ⟨rfl, rfl⟩ := H
  go_enter Tryd.func125, Tryd.ntmps125
  go_wp2_with (first | ((with_reducible refine gate_dst (N := 2) rfl ?_); refine bE 2 #[.int .i64 a0_0, .int .i64 a0_1, .bool a0_2] 23 ?_; intro gb227 hg w30 hbox hb; have BK227 := Aside0.mk (hbox); have GW227 := bG HB hg; have GE227 := bG HB hg; replace HB := bS HB hb; clear hb hbox hg) | ((with_reducible refine gate_dst (N := 3) rfl ?_); refine bE 3 #[.int .i64 a1_0, .int .i64 a1_1, .bool a1_2] 23 ?_; intro gb228 hg w31 hbox hb; have BK228 := Aside0.mk (hbox); have GW228 := bG HB hg; have GE228 := bG HB hg; replace HB := bS HB hb; have NB227_228 := bL BK227 hg; have NB228_227 := bR BK227 hg; replace BK227 := bB BK227 hb; clear hb hbox hg; have hnb32 := NB227_228.out; have hnc32 := NB228_227.out; obtain ⟨hcz33_0, hcz33_1, hcz33_2, hfz33_0, hfz33_1, hfz33_2⟩ := bK3 (w := w31) BK227; obtain ⟨hcz34_0, hcz34_1, hcz34_2, hfz34_0, hfz34_1, hfz34_2⟩ := bK3 (w := w31) BK228) | (go_at_call 126; (with_reducible refine (impl_FpSub.calls a1_1 a0_1 t229 _ A26.out).mono ?_); rintro e w' ⟨rfl, ⟨nd, rfl⟩⟩; (try exact tD)) | (go_at_call 126; (with_reducible refine (impl_FpSub.calls a1_0 a0_0 t230 _ A27.out).mono ?_); rintro e w' ⟨rfl, ⟨nd, rfl⟩⟩; (try exact tD)) | (go_at_call 134; (with_reducible refine (impl_FpInv.calls k t230 t231 _ A28.out).mono ?_); rintro e w' ⟨rfl, ⟨nd, rfl⟩⟩; (try exact tD)) | (go_at_call 95; (with_reducible refine (impl_FpMul.calls t229 t231 t232 _ A29.out).mono ?_); rintro e w' ⟨rfl, ⟨nd, rfl⟩⟩; (try exact tD)))
  repeat (go_quiet (first | ((with_reducible refine gate_dst (N := 2) rfl ?_); refine bE 2 #[.int .i64 a0_0, .int .i64 a0_1, .bool a0_2] 23 ?_; intro gb227 hg w30 hbox hb; have BK227 := Aside0.mk (hbox); have GW227 := bG HB hg; have GE227 := bG HB hg; replace HB := bS HB hb; clear hb hbox hg) | ((with_reducible refine gate_dst (N := 3) rfl ?_); refine bE 3 #[.int .i64 a1_0, .int .i64 a1_1, .bool a1_2] 23 ?_; intro gb228 hg w31 hbox hb; have BK228 := Aside0.mk (hbox); have GW228 := bG HB hg; have GE228 := bG HB hg; replace HB := bS HB hb; have NB227_228 := bL BK227 hg; have NB228_227 := bR BK227 hg; replace BK227 := bB BK227 hb; clear hb hbox hg; have hnb32 := NB227_228.out; have hnc32 := NB228_227.out; obtain ⟨hcz33_0, hcz33_1, hcz33_2, hfz33_0, hfz33_1, hfz33_2⟩ := bK3 (w := w31) BK227; obtain ⟨hcz34_0, hcz34_1, hcz34_2, hfz34_0, hfz34_1, hfz34_2⟩ := bK3 (w := w31) BK228) | (go_at_call 126; (with_reducible refine (impl_FpSub.calls a1_1 a0_1 t229 _ A26.out).mono ?_); rintro e w' ⟨rfl, ⟨nd, rfl⟩⟩; (try exact tD)) | (go_at_call 126; (with_reducible refine (impl_FpSub.calls a1_0 a0_0 t230 _ A27.out).mono ?_); rintro e w' ⟨rfl, ⟨nd, rfl⟩⟩; (try exact tD)) | (go_at_call 134; (with_reducible refine (impl_FpInv.calls k t230 t231 _ A28.out).mono ?_); rintro e w' ⟨rfl, ⟨nd, rfl⟩⟩; (try exact tD)) | (go_at_call 95; (with_reducible refine (impl_FpMul.calls t229 t231 t232 _ A29.out).mono ?_); rintro e w' ⟨rfl, ⟨nd, rfl⟩⟩; (try exact tD))); try go_wp2_with (first | ((with_reducible refine gate_dst (N := 2) rfl ?_); refine bE 2 #[.int .i64 a0_0, .int .i64 a0_1, .bool a0_2] 23 ?_; intro gb227 hg w30 hbox hb; have BK227 := Aside0.mk (hbox); have GW227 := bG HB hg; have GE227 := bG HB hg; replace HB := bS HB hb; clear hb hbox hg) | ((with_reducible refine gate_dst (N := 3) rfl ?_); refine bE 3 #[.int .i64 a1_0, .int .i64 a1_1, .bool a1_2] 23 ?_; intro gb228 hg w31 hbox hb; have BK228 := Aside0.mk (hbox); have GW228 := bG HB hg; have GE228 := bG HB hg; replace HB := bS HB hb; have NB227_228 := bL BK227 hg; have NB228_227 := bR BK227 hg; replace BK227 := bB BK227 hb; clear hb hbox hg; have hnb32 := NB227_228.out; have hnc32 := NB228_227.out; obtain ⟨hcz33_0, hcz33_1, hcz33_2, hfz33_0, hfz33_1, hfz33_2⟩ := bK3 (w := w31) BK227; obtain ⟨hcz34_0, hcz34_1, hcz34_2, hfz34_0, hfz34_1, hfz34_2⟩ := bK3 (w := w31) BK228) | (go_at_call 126; (with_reducible refine (impl_FpSub.calls a1_1 a0_1 t229 _ A26.out).mono ?_); rintro e w' ⟨rfl, ⟨nd, rfl⟩⟩; (try exact tD)) | (go_at_call 126; (with_reducible refine (impl_FpSub.calls a1_0 a0_0 t230 _ A27.out).mono ?_); rintro e w' ⟨rfl, ⟨nd, rfl⟩⟩; (try exact tD)) | (go_at_call 134; (with_reducible refine (impl_FpInv.calls k t230 t231 _ A28.out).mono ?_); rintro e w' ⟨rfl, ⟨nd, rfl⟩⟩; (try exact tD)) | (go_at_call 95; (with_reducible refine (impl_FpMul.calls t229 t231 t232 _ A29.out).mono ?_); rintro e w' ⟨rfl, ⟨nd, rfl⟩⟩; (try exact tD))))
  go_ret2
  exact ⟨rR, bZ HB⟩
/-! ### impl_add: function 98 -/
def impl_add.f (k : Nat) (a0_0 : Int) (a0_1 : Int) (a0_2 : Bool) (a1_0 : Int) (a1_1 : Int) (a1_2 : Bool) : Option (Int × Int × Bool) := if a0_2 = true then (some (a1_0, a1_1, a1_2)) else (if a1_2 = true then (some (a0_0, a0_1, a0_2)) else ((impl_slopeOf.f k a0_0 a0_1 a0_2 a1_0 a1_1 a1_2).bind fun bt242 => (if bt242.2 = true then ((impl_FpMul.f bt242.1 bt242.1).bind fun t244 => ((impl_FpSub.f t244 a0_0).bind fun t245 => ((impl_FpSub.f t245 a1_0).bind fun t246 => ((impl_FpSub.f a0_0 t246).bind fun t247 => ((impl_FpMul.f bt242.1 t247).bind fun t248 => ((impl_FpSub.f t248 a0_1).bind fun t249 => (some (t246, t249, false)))))))) else (some (0, 0, true)))))
theorem impl_add.mono : ∀ a0 a1 a2 a3 a4 a5 k, LeO (impl_add.f k a0 a1 a2 a3 a4 a5) (impl_add.f (k + 1) a0 a1 a2 a3 a4 a5) := by
 intro a0 a1 a2 a3 a4 a5 k
 unfold impl_add.f
 repeat' first
   | (with_reducible exact impl_slopeOf.mono _ _ _ _ _ _ _)
   | (with_reducible exact LeO.refl _)
   | (with_reducible exact LeO.none _)
   | (with_reducible refine LeO.ite ?_ ?_)
   | (with_reducible refine LeO.bind ?_ (fun _ => ?_))
   | exact impl_slopeOf.mono _ _ _ _ _ _ _
   | exact LeO.none _
   | refine LeO.ite ?_ ?_
   | refine LeO.bind ?_ (fun _ => ?_)
def impl_add.T8 : Bool × List (List Nat × List Nat) := (true, [([], []), ([], []), ([0, 1], [0, 1]), ([], []), ([3], [3]), ([2, 4, 2], [2, 4]), ([], []), ([6], [6]), ([5, 7, 5], [5, 7]), ([8, 8, 0, 1, 2, 3, 4, 5, 6, 7, 8], [8])])
def impl_add.B8 : List Nat := [0, 0, 3, 0, 8, 31, 0, 64, 255, 511]
theorem impl_add.tab8 : rtab .any (opsOf Tryd.f98 8) = impl_add.T8 := by kernel_rfl
theorem impl_add.bits8 : waitsOk impl_add.T8.2 impl_add.B8 = true := by kernel_rfl
def impl_add.T9 : Bool × List (List Nat × List Nat) := (true, [([], []), ([], []), ([], []), ([2], [2]), ([], []), ([3, 4], [3, 4]), ([1, 5, 5], [1, 5]), ([], []), ([7], [7]), ([6, 8, 6], [6, 8]), ([0, 9], [0, 9]), ([10, 9, 0, 1, 2, 3, 4, 5, 6, 7, 8, 9, 10], [10])])
def impl_add.B9 : List Nat := [0, 0, 0, 4, 0, 28, 62, 0, 128, 510, 1023, 2047]
theorem impl_add.tab9 : rtab .any (opsOf Tryd.f98 9) = impl_add.T9 := by kernel_rfl
theorem impl_add.bits9 : waitsOk impl_add.T9.2 impl_add.B9 = true := by kernel_rfl
set_option maxHeartbeats 8000000 in
set_option maxRecDepth 100000 in
theorem impl_add.calls (k : Nat) (a0_0 : Int) (a0_1 : Int) (a0_2 : Bool) (a1_0 : Int) (a1_1 : Int) (a1_2 : Bool) (r1 : Int) (r2 : Int) (r3 : Bool) (w : World) (h : impl_add.f k a0_0 a0_1 a0_2 a1_0 a1_1 a1_2 = some (r1, r2, r3)) :
  Calls Tryd.prog 98 #[.agg #[.int .i64 a0_0, .int .i64 a0_1, .bool a0_2], .agg #[.int .i64 a1_0, .int .i64 a1_1, .bool a1_2]] w fun e w' => e = .returned (.agg #[.int .i64 r1, .int .i64 r2, .bool r3]) ∧ Below w.heap.size w w' := by
 have hu23 := Tryd.underlying23
 have HB := Aside0.mk (Below.refl w.heap.size w)
 have H : (if a0_2 = true then (some (a1_0, a1_1, a1_2)) else (if a1_2 = true then (some (a0_0, a0_1, a0_2)) else ((impl_slopeOf.f k a0_0 a0_1 a0_2 a1_0 a1_1 a1_2).bind fun bt242 => (if bt242.2 = true then ((impl_FpMul.f bt242.1 bt242.1).bind fun t244 => ((impl_FpSub.f t244 a0_0).bind fun t245 => ((impl_FpSub.f t245 a1_0).bind fun t246 => ((impl_FpSub.f a0_0 t246).bind fun t247 => ((impl_FpMul.f bt242.1 t247).bind fun t248 => ((impl_FpSub.f t248 a0_1).bind fun t249 => (some (t246, t249, false)))))))) else (some (0, 0, true)))))) = some (r1, r2, r3) := h
 clear h
 by_cases c3 : a0_2 = true
 ·subst c3
  rw [if_pos rfl] at H
  simp only [Option.some.injEq, Prod.mk.injEq] at H
  obtain ⟨rfl, rfl, rfl⟩ := H
  go_enter Tryd.func98, Tryd.ntmps98
  go_wp2_with (first | ((with_reducible refine gate_dst (N := 2) rfl ?_); refine bE 2 #[.int .i64 a0_0, .int .i64 a0_1, .bool true] 23 ?_; intro gb239 hg w4 hbox hb; have BK239 := Aside0.mk (hbox); have GW239 := bG HB hg; have GE239 := bG HB hg; replace HB := bS HB hb; clear hb hbox hg) | ((with_reducible refine gate_dst (N := 3) rfl ?_); refine bE 3 #[.int .i64 a1_0, .int .i64 a1_1, .bool a1_2] 23 ?_; intro gb240 hg w5 hbox hb; have BK240 := Aside0.mk (hbox); have GW240 := bG HB hg; have GE240 := bG HB hg; replace HB := bS HB hb; have NB239_240 := bL BK239 hg; have NB240_239 := bR BK239 hg; replace BK239 := bB BK239 hb; clear hb hbox hg) | ((with_reducible refine gate_dst (N := 4) rfl ?_); refine bE 4 #[.int .i64 0, .int .i64 0, .bool false] 23 ?_; intro gb241 hg w6 hbox hb; have BK241 := Aside0.mk (hbox); have GW241 := bG HB hg; have GE241 := bG HB hg; replace HB := bS HB hb; have NB239_241 := bL BK239 hg; have NB241_239 := bR BK239 hg; replace BK239 := bB BK239 hb; have NB240_241 := bL BK240 hg; have NB241_240 := bR BK240 hg; replace BK240 := bB BK240 hb; clear hb hbox hg; have hnb7 := NB239_240.out; have hnc7 := NB240_239.out; have hnb8 := NB239_241.out; have hnc8 := NB241_239.out; obtain ⟨hcz9_0, hcz9_1, hcz9_2, hfz9_0, hfz9_1, hfz9_2⟩ := bK3 (w := w6) BK239; have hnb10 := NB240_241.out; have hnc10 := NB241_240.out; obtain ⟨hcz11_0, hcz11_1, hcz11_2, hfz11_0, hfz11_1, hfz11_2⟩ := bK3 (w := w6) BK240; obtain ⟨hcz12_0, hcz12_1, hcz12_2, hfz12_0, hfz12_1, hfz12_2⟩ := bK3 (w := w6) BK241))
  refine rC gb241 23 #[.int .i64 a1_0, .int .i64 a1_1, .bool a1_2] (bU BK241) Tryd.underlying23 ?_
  exact ⟨rR, bZ HB⟩
 ·replace c3 := Bool.eq_false_iff.mpr c3
  subst c3
  rw [if_neg (show ¬ (false = true) by decide)] at H
  by_cases c13 : a1_2 = true
  ·subst c13
   rw [if_pos rfl] at H
   simp only [Option.some.injEq, Prod.mk.injEq] at H
   obtain ⟨rfl, rfl, rfl⟩ := H
   go_enter Tryd.func98, Tryd.ntmps98
   go_wp2_with (first | ((with_reducible refine gate_dst (N := 2) rfl ?_); refine bE 2 #[.int .i64 a0_0, .int .i64 a0_1, .bool false] 23 ?_; intro gb239 hg w14 hbox hb; have BK239 := Aside0.mk (hbox); have GW239 := bG HB hg; have GE239 := bG HB hg; replace HB := bS HB hb; clear hb hbox hg) | ((with_reducible refine gate_dst (N := 3) rfl ?_); refine bE 3 #[.int .i64 a1_0, .int .i64 a1_1, .bool true] 23 ?_; intro gb240 hg w15 hbox hb; have BK240 := Aside0.mk (hbox); have GW240 := bG HB hg; have GE240 := bG HB hg; replace HB := bS HB hb; have NB239_240 := bL BK239 hg; have NB240_239 := bR BK239 hg; replace BK239 := bB BK239 hb; clear hb hbox hg) | ((with_reducible refine gate_dst (N := 4) rfl ?_); refine bE 4 #[.int .i64 0, .int .i64 0, .bool false] 23 ?_; intro gb241 hg w16 hbox hb; have BK241 := Aside0.mk (hbox); have GW241 := bG HB hg; have GE241 := bG HB hg; replace HB := bS HB hb; have NB239_241 := bL BK239 hg; have NB241_239 := bR BK239 hg; replace BK239 := bB BK239 hb; have NB240_241 := bL BK240 hg; have NB241_240 := bR BK240 hg; replace BK240 := bB BK240 hb; clear hb hbox hg; have hnb17 := NB239_240.out; have hnc17 := NB240_239.out; have hnb18 := NB239_241.out; have hnc18 := NB241_239.out; obtain ⟨hcz19_0, hcz19_1, hcz19_2, hfz19_0, hfz19_1, hfz19_2⟩ := bK3 (w := w16) BK239; have hnb20 := NB240_241.out; have hnc20 := NB241_240.out; obtain ⟨hcz21_0, hcz21_1, hcz21_2, hfz21_0, hfz21_1, hfz21_2⟩ := bK3 (w := w16) BK240; obtain ⟨hcz22_0, hcz22_1, hcz22_2, hfz22_0, hfz22_1, hfz22_2⟩ := bK3 (w := w16) BK241))
   refine rC gb241 23 #[.int .i64 a0_0, .int .i64 a0_1, .bool false] (bU BK241) Tryd.underlying23 ?_
   exact ⟨rR, bZ HB⟩
  ·replace c13 := Bool.eq_false_iff.mpr c13
   subst c13
   rw [if_neg (show ¬ (false = true) by decide)] at H
   replace H := Option.bind_eq_some_iff.mp H
   obtain ⟨⟨t242, t243⟩, A230, H⟩ := H
   have A23 := Aside0.mk A230
   clear A230
   by_cases c24 : t243 = true
   ·subst c24
    rw [if_pos rfl] at H
    replace H := Option.bind_eq_some_iff.mp H
    obtain ⟨t244, A250, H⟩ := H
    have A25 := Aside0.mk A250
    clear A250
    replace H := Option.bind_eq_some_iff.mp H
    obtain ⟨t245, A260, H⟩ := H
    have A26 := Aside0.mk A260
    clear A260
    replace H := Option.bind_eq_some_iff.mp H
    obtain ⟨t246, A270, H⟩ := H
    have A27 := Aside0.mk A270
    clear A270
    replace H := Option.bind_eq_some_iff.mp H
    obtain ⟨t247, A280, H⟩ := H
    have A28 := Aside0.mk A280
    clear A280
    replace H := Option.bind_eq_some_iff.mp H
    obtain ⟨t248, A290, H⟩ := H
    have A29 := Aside0.mk A290
    clear A290
    replace H := Option.bind_eq_some_iff.mp H
    obtain ⟨t249, A300, H⟩ := H
    have A30 := Aside0.mk A300
    clear A300
    simp only [Option.some.injEq, Prod.mk.injEq] at H
    obtain ⟨rfl, rfl, rfl⟩ := H
    go_enter Tryd.func98, Tryd.ntmps98
    try go_wp2_with (first | ((with_reducible refine gate_dst (N := 2) rfl ?_); refine bE 2 #[.int .i64 a0_0, .int .i64 a0_1, .bool false] 23 ?_; intro gb239 hg w31 hbox hb; have BK239 := Aside0.mk (hbox); have GW239 := bG HB hg; have GE239 := bG HB hg; replace HB := bS HB hb; clear hb hbox hg) | ((with_reducible refine gate_dst (N := 3) rfl ?_); refine bE 3 #[.int .i64 a1_0, .int .i64 a1_1, .bool false] 23 ?_; intro gb240 hg w32 hbox hb; have BK240 := Aside0.mk (hbox); have GW240 := bG HB hg; have GE240 := bG HB hg; replace HB := bS HB hb; have NB239_240 := bL BK239 hg; have NB240_239 := bR BK239 hg; replace BK239 := bB BK239 hb; clear hb hbox hg) | ((with_reducible refine gate_dst (N := 4) rfl ?_); refine bE 4 #[.int .i64 0, .int .i64 0, .bool false] 23 ?_; intro gb241 hg w33 hbox hb; have BK241 := Aside0.mk (hbox); have GW241 := bG HB hg; have GE241 := bG HB hg; replace HB := bS HB hb; have NB239_241 := bL BK239 hg; have NB241_239 := bR BK239 hg; replace BK239 := bB BK239 hb; have NB240_241 := bL BK240 hg; have NB241_240 := bR BK240 hg; replace BK240 := bB BK240 hb; clear hb hbox hg; have hnb34 := NB239_240.out; have hnc34 := NB240_239.out; have hnb35 := NB239_241.out; have hnc35 := NB241_239.out; obtain ⟨hcz36_0, hcz36_1, hcz36_2, hfz36_0, hfz36_1, hfz36_2⟩ := bK3 (w := w33) BK239; have hnb37 := NB240_241.out; have hnc37 := NB241_240.out; obtain ⟨hcz38_0, hcz38_1, hcz38_2, hfz38_0, hfz38_1, hfz38_2⟩ := bK3 (w := w33) BK240) | ((with_reducible refine gate_callee (f := 125) rfl ?_); refine gL (some 17) Tryd.func125 #[.agg #[.int .i64 a0_0, .int .i64 a0_1, .bool false], .agg #[.int .i64 a1_0, .int .i64 a1_1, .bool false]] ?_; (with_reducible refine (impl_slopeOf.calls k a0_0 a0_1 false a1_0 a1_1 false t242 true _ A23.out).mono ?_); rintro e w39 ⟨rfl, hb⟩; refine ⟨_, rfl, ?_⟩; replace BK239 := bB BK239 hb; replace BK240 := bB BK240 hb; replace BK241 := bB BK241 hb; replace HB := bS HB hb; (try clear hb)))
    replace BK239 := Aside0.mk (blk_drew BK239.out)
    replace BK240 := Aside0.mk (blk_drew BK240.out)
    replace BK241 := Aside0.mk (blk_drew BK241.out)
    replace HB := Aside0.mk (below_drew1 HB.out)
    refine start_ (n := 10) (S := fun w' => w'.cell? ⟨gb239, 0, none⟩ = some (.int .i64 a0_0) ∧ w'.cell? ⟨gb239, 1, none⟩ = some (.int .i64 a0_1) ∧ w'.cell? ⟨gb239, 2, none⟩ = some (.bool false) ∧ w'.cell? ⟨gb240, 0, none⟩ = some (.int .i64 a1_0) ∧ w'.cell? ⟨gb240, 1, none⟩ = some (.int .i64 a1_1) ∧ w'.cell? ⟨gb240, 2, none⟩ = some (.bool false)) (ds := []) #[false, false, false, false, false, false, false, false, false, false] (by kernel_rfl) rfl rfl ⟨bc BK239 0, bc BK239 1, bc BK239 2, bc BK240 0, bc BK240 1, bc BK240 2⟩ (fun hHeld => ?_); refine with_tabW impl_add.tab8 impl_add.bits8 (fun HT_ HW_ => ?_)
    generalize w39.drew = w40 at BK239 BK240 BK241 HB hHeld ⊢
    refine pI 0 (some 23) HT_.out ?_
    refine pI 1 (some 24) HT_.out ?_
    refine pI 3 (some 26) HT_.out ?_
    refine pI 6 (some 29) HT_.out ?_
    refine tI6 4 (some 27) HT_.out HW_.out hHeld ?_
    refine tI6 7 (some 30) HT_.out HW_.out hHeld ?_
    refine oI 2 (some 25) HT_.out (fun K hK => ?_)
    refine gO Tryd.func95 #[.int .i64 t242, .int .i64 t242] ?_
    with_reducible refine (impl_FpMul.calls t242 t242 t244 _ A25.out).mono ?_
    rintro e w' ⟨rfl, ⟨nd, rfl⟩⟩
    refine ⟨_, rfl, ?_⟩
    refine hK.out _ _ ⟨bc BK239 0, bc BK239 1, bc BK239 2, bc BK240 0, bc BK240 1, bc BK240 2⟩ (fun hHeld => ?_)
    clear hK K
    refine nO (some 25) ?_
    refine oI 5 (some 28) HT_.out (fun K hK => ?_)
    refine gO Tryd.func126 #[.int .i64 t244, .int .i64 a0_0] ?_
    with_reducible refine (impl_FpSub.calls t244 a0_0 t245 _ A26.out).mono ?_
    rintro e w' ⟨rfl, ⟨nd, rfl⟩⟩
    refine ⟨_, rfl, ?_⟩
    refine hK.out _ _ ⟨bc BK239 0, bc BK239 1, bc BK239 2, bc BK240 0, bc BK240 1, bc BK240 2⟩ (fun hHeld => ?_)
    clear hK K
    refine nO (some 28) ?_
    refine oI 8 (some 31) HT_.out (fun K hK => ?_)
    refine gO Tryd.func126 #[.int .i64 t245, .int .i64 a1_0] ?_
    with_reducible refine (impl_FpSub.calls t245 a1_0 t246 _ A27.out).mono ?_
    rintro e w' ⟨rfl, ⟨nd, rfl⟩⟩
    refine ⟨_, rfl, ?_⟩
    refine hK.out _ _ ⟨bc BK239 0, bc BK239 1, bc BK239 2, bc BK240 0, bc BK240 1, bc BK240 2⟩ (fun hHeld => ?_)
    clear hK K
    refine nO (some 31) ?_
    refine pI 9 (some 7) HT_.out ?_
    refine done_ (done_of HT_.out (by kernel_rfl)) ?_
    try go_wp2
    (try simp only [World.drewN_drewN]); (try (rw [drewN_self w40]; generalize hq_ : World.drewN w40 _ = w40; replace BK239 : Aside0 (w40.heap[gb239]? = some (.cells #[.int .i64 a0_0, .int .i64 a0_1, .bool false] 23 (0, 0))) := ⟨by rw [← hq_]; exact (bP BK239)⟩; replace BK240 : Aside0 (w40.heap[gb240]? = some (.cells #[.int .i64 a1_0, .int .i64 a1_1, .bool false] 23 (0, 0))) := ⟨by rw [← hq_]; exact (bP BK240)⟩; replace BK241 : Aside0 (w40.heap[gb241]? = some (.cells #[.int .i64 0, .int .i64 0, .bool false] 23 (0, 0))) := ⟨by rw [← hq_]; exact (bP BK241)⟩; replace HB : Aside0 (Below w.heap.size w w40) := ⟨by rw [← hq_]; exact (bZ HB)⟩; clear hq_))
    replace BK239 := Aside0.mk (blk_drew BK239.out)
    replace BK240 := Aside0.mk (blk_drew BK240.out)
    replace BK241 := Aside0.mk (blk_drew BK241.out)
    replace HB := Aside0.mk (below_drew1 HB.out)
    refine start_ (n := 12) (S := fun w' => w'.cell? ⟨gb239, 0, none⟩ = some (.int .i64 a0_0) ∧ w'.cell? ⟨gb239, 1, none⟩ = some (.int .i64 a0_1) ∧ w'.cell? ⟨gb239, 2, none⟩ = some (.bool false)) (ds := []) #[false, false, false, false, false, false, false, false, false, false, false, false] (by kernel_rfl) rfl rfl ⟨bc BK239 0, bc BK239 1, bc BK239 2⟩ (fun hHeld => ?_); refine with_tabW impl_add.tab9 impl_add.bits9 (fun HT_ HW_ => ?_)
    generalize w40.drew = w41 at BK239 BK240 BK241 HB hHeld ⊢
    refine pI 0 (some 32) HT_.out ?_
    refine pI 1 (some 33) HT_.out ?_
    refine pI 2 (some 34) HT_.out ?_
    refine pI 4 (some 36) HT_.out ?_
    refine pI 7 (some 39) HT_.out ?_
    refine tI3 3 (some 35) HT_.out HW_.out hHeld ?_
    refine tI3 8 (some 40) HT_.out HW_.out hHeld ?_
    refine oI 5 (some 37) HT_.out (fun K hK => ?_)
    refine gO Tryd.func126 #[.int .i64 a0_0, .int .i64 t246] ?_
    with_reducible refine (impl_FpSub.calls a0_0 t246 t247 _ A28.out).mono ?_
    rintro e w' ⟨rfl, ⟨nd, rfl⟩⟩
    refine ⟨_, rfl, ?_⟩
    refine hK.out _ _ ⟨bc BK239 0, bc BK239 1, bc BK239 2⟩ (fun hHeld => ?_)
    clear hK K
    refine nO (some 37) ?_
    refine oI 6 (some 38) HT_.out (fun K hK => ?_)
    refine gO Tryd.func95 #[.int .i64 t242, .int .i64 t247] ?_
    with_reducible refine (impl_FpMul.calls t242 t247 t248 _ A29.out).mono ?_
    rintro e w' ⟨rfl, ⟨nd, rfl⟩⟩
    refine ⟨_, rfl, ?_⟩
    refine hK.out _ _ ⟨bc BK239 0, bc BK239 1, bc BK239 2⟩ (fun hHeld => ?_)
    clear hK K
    refine nO (some 38) ?_
    refine oI 9 (some 41) HT_.out (fun K hK => ?_)
    refine gO Tryd.func126 #[.int .i64 t248, .int .i64 a0_1] ?_
    with_reducible refine (impl_FpSub.calls t248 a0_1 t249 _ A30.out).mono ?_
    rintro e w' ⟨rfl, ⟨nd, rfl⟩⟩
    refine ⟨_, rfl, ?_⟩
    refine hK.out _ _ ⟨bc BK239 0, bc BK239 1, bc BK239 2⟩ (fun hHeld => ?_)
    clear hK K
    refine nO (some 41) ?_
    refine pI 10 (some 42) HT_.out ?_
    refine oI 11 (none) HT_.out (fun K hK => ?_)
    have hs42 : w41.cell? ⟨gb241, 0, none⟩ = some (.int .i64 0) := bc BK241 0
    have hfs42 := blk_frozen BK241.out 0
    have hns42_0 := NB239_241.out
    have hns42_1 := NB240_241.out
    have hms42_0 := NB241_239.out
    have hms42_1 := NB241_240.out
    have hs43 : w41.cell? ⟨gb241, 1, none⟩ = some (.int .i64 0) := bc BK241 1
    have hfs43 := blk_frozen BK241.out 1
    have hns43_0 := NB239_241.out
    have hns43_1 := NB240_241.out
    have hms43_0 := NB241_239.out
    have hms43_1 := NB241_240.out
    have hs44 : w41.cell? ⟨gb241, 2, none⟩ = some (.bool false) := bc BK241 2
    have hfs44 := blk_frozen BK241.out 2
    have hns44_0 := NB239_241.out
    have hns44_1 := NB240_241.out
    have hms44_0 := NB241_239.out
    have hms44_1 := NB241_240.out
    refine skip_ (w1 := ?_) (by rfl) rfl ?_ ?_
    rotate_left
    ·go_simp
     rfl
    refine hK.out _ _ ⟨((cell_far (p := ⟨gb241, _, none⟩) NB239_241.out _).trans (((cell_far (p := ⟨gb241, _, none⟩) NB239_241.out _).trans (((cell_far (p := ⟨gb241, _, none⟩) NB239_241.out _).trans (hHeld.1)))))), ((cell_far (p := ⟨gb241, _, none⟩) NB239_241.out _).trans (((cell_far (p := ⟨gb241, _, none⟩) NB239_241.out _).trans (((cell_far (p := ⟨gb241, _, none⟩) NB239_241.out _).trans (hHeld.2.1)))))), ((cell_far (p := ⟨gb241, _, none⟩) NB239_241.out _).trans (((cell_far (p := ⟨gb241, _, none⟩) NB239_241.out _).trans (((cell_far (p := ⟨gb241, _, none⟩) NB239_241.out _).trans (hHeld.2.2))))))⟩ (fun hHeld => ?_)
    clear hK K
    refine done_ (done_of HT_.out (by kernel_rfl)) ?_
    try go_wp2
    refine rC gb241 23 #[.int .i64 t246, .int .i64 t249, .bool false] (bU BK241) Tryd.underlying23 ?_
    exact ⟨rR, bZ HB⟩
   ·replace c24 := Bool.eq_false_iff.mpr c24
    subst c24
    rw [if_neg (show ¬ (false = true) by decide)] at H
    simp only [Option.some.injEq, Prod.mk.injEq] at H
    obtain ⟨rfl, rfl, rfl⟩ := H
    go_enter Tryd.func98, Tryd.ntmps98
    go_wp2_with (first | ((with_reducible refine gate_dst (N := 2) rfl ?_); refine bE 2 #[.int .i64 a0_0, .int .i64 a0_1, .bool false] 23 ?_; intro gb239 hg w45 hbox hb; have BK239 := Aside0.mk (hbox); have GW239 := bG HB hg; have GE239 := bG HB hg; replace HB := bS HB hb; clear hb hbox hg) | ((with_reducible refine gate_dst (N := 3) rfl ?_); refine bE 3 #[.int .i64 a1_0, .int .i64 a1_1, .bool false] 23 ?_; intro gb240 hg w46 hbox hb; have BK240 := Aside0.mk (hbox); have GW240 := bG HB hg; have GE240 := bG HB hg; replace HB := bS HB hb; have NB239_240 := bL BK239 hg; have NB240_239 := bR BK239 hg; replace BK239 := bB BK239 hb; clear hb hbox hg) | ((with_reducible refine gate_dst (N := 4) rfl ?_); refine bE 4 #[.int .i64 0, .int .i64 0, .bool false] 23 ?_; intro gb241 hg w47 hbox hb; have BK241 := Aside0.mk (hbox); have GW241 := bG HB hg; have GE241 := bG HB hg; replace HB := bS HB hb; have NB239_241 := bL BK239 hg; have NB241_239 := bR BK239 hg; replace BK239 := bB BK239 hb; have NB240_241 := bL BK240 hg; have NB241_240 := bR BK240 hg; replace BK240 := bB BK240 hb; clear hb hbox hg; have hnb48 := NB239_240.out; have hnc48 := NB240_239.out; have hnb49 := NB239_241.out; have hnc49 := NB241_239.out; obtain ⟨hcz50_0, hcz50_1, hcz50_2, hfz50_0, hfz50_1, hfz50_2⟩ := bK3 (w := w47) BK239; have hnb51 := NB240_241.out; have hnc51 := NB241_240.out; obtain ⟨hcz52_0, hcz52_1, hcz52_2, hfz52_0, hfz52_1, hfz52_2⟩ := bK3 (w := w47) BK240) | ((with_reducible refine gate_callee (f := 125) rfl ?_); refine gL (some 17) Tryd.func125 #[.agg #[.int .i64 a0_0, .int .i64 a0_1, .bool false], .agg #[.int .i64 a1_0, .int .i64 a1_1, .bool false]] ?_; (with_reducible refine (impl_slopeOf.calls k a0_0 a0_1 false a1_0 a1_1 false t242 false _ A23.out).mono ?_); rintro e w53 ⟨rfl, hb⟩; refine ⟨_, rfl, ?_⟩; replace BK239 := bB BK239 hb; replace BK240 := bB BK240 hb; replace BK241 := bB BK241 hb; replace HB := bS HB hb; (try clear hb); obtain ⟨hcz54_0, hcz54_1, hcz54_2, hfz54_0, hfz54_1, hfz54_2⟩ := bK3 (w := w53) BK241))
    refine rC gb241 23 #[.int .i64 0, .int .i64 0, .bool true] (bU BK241) Tryd.underlying23 ?_
    exact ⟨rR, bZ HB⟩
/-! ### impl_PointTimes: function 51 -/
def impl_PointTimes.l0 : Nat → Int → Int → Int → Bool → Int → Int → Bool → Option (Int × Int × Bool)
 | 0, _, _, _, _, _, _, _ => none
 | k + 1, x0, x251000, x251001, x251002, x253000, x253001, x253002 => if x0 > 0 then (if (Int.tmod x0 2) = 1 then ((impl_add.f k x253000 x253001 x253002 x251000 x251001 x251002).bind fun bt255 => ((impl_add.f k x251000 x251001 x251002 x251000 x251001 x251002).bind fun bt258 => (impl_PointTimes.l0 k (wrap64 (Int.tdiv x0 2)) bt258.1 bt258.2.1 bt258.2.2 bt255.1 bt255.2.1 bt255.2.2))) else ((impl_add.f k x251000 x251001 x251002 x251000 x251001 x251002).bind fun bt261 => (impl_PointTimes.l0 k (wrap64 (Int.tdiv x0 2)) bt261.1 bt261.2.1 bt261.2.2 x253000 x253001 x253002))) else (some (x253000, x253001, x253002))
def impl_PointTimes.f (k : Nat) (a0 : Int) (a1_0 : Int) (a1_1 : Int) (a1_2 : Bool) : Option (Int × Int × Bool) := (impl_PointOk.f a1_0 a1_1 a1_2).bind fun t253 => (if t253 = true then ((impl_remainder.f a0 12108).bind fun t254 => (impl_PointTimes.l0 k t254 a1_0 a1_1 a1_2 0 0 true)) else (some (0, 0, true)))
theorem impl_PointTimes.mono_l : ∀ k, (∀ y0 y1 y2 y3 y4 y5 y6, LeO (impl_PointTimes.l0 k y0 y1 y2 y3 y4 y5 y6) (impl_PointTimes.l0 (k + 1) y0 y1 y2 y3 y4 y5 y6))
 | 0 => fun _ _ _ _ _ _ _ r h => by simp [impl_PointTimes.l0] at h
 | k + 1 => by
  have ih0 := impl_PointTimes.mono_l k
  ·intro y0 y1 y2 y3 y4 y5 y6
   unfold impl_PointTimes.l0
   repeat' first
   | (with_reducible exact ih0 _ _ _ _ _ _ _)
   | (with_reducible exact impl_add.mono _ _ _ _ _ _ _)
   | (with_reducible exact LeO.refl _)
   | (with_reducible exact LeO.none _)
   | (with_reducible refine LeO.ite ?_ ?_)
   | (with_reducible refine LeO.bind ?_ (fun _ => ?_))
   | exact ih0 _ _ _ _ _ _ _
   | exact impl_add.mono _ _ _ _ _ _ _
   | exact LeO.none _
   | refine LeO.ite ?_ ?_
   | refine LeO.bind ?_ (fun _ => ?_)
theorem impl_PointTimes.mono : ∀ a0 a1 a2 a3 k, LeO (impl_PointTimes.f k a0 a1 a2 a3) (impl_PointTimes.f (k + 1) a0 a1 a2 a3) := by
 intro a0 a1 a2 a3 k
 have ih0 := impl_PointTimes.mono_l k
 unfold impl_PointTimes.f
 repeat' first
   | (with_reducible exact ih0 _ _ _ _ _ _ _)
   | (with_reducible exact impl_add.mono _ _ _ _ _ _ _)
   | (with_reducible exact LeO.refl _)
   | (with_reducible exact LeO.none _)
   | (with_reducible refine LeO.ite ?_ ?_)
   | (with_reducible refine LeO.bind ?_ (fun _ => ?_))
   | exact ih0 _ _ _ _ _ _ _
   | exact impl_add.mono _ _ _ _ _ _ _
   | exact LeO.none _
   | refine LeO.ite ?_ ?_
   | refine LeO.bind ?_ (fun _ => ?_)
set_option maxHeartbeats 8000000 in
set_option maxRecDepth 100000 in
theorem impl_PointTimes.calls (k : Nat) (a0 : Int) (a1_0 : Int) (a1_1 : Int) (a1_2 : Bool) (r1 : Int) (r2 : Int) (r3 : Bool) (w : World) (h : impl_PointTimes.f k a0 a1_0 a1_1 a1_2 = some (r1, r2, r3)) :
  Calls Tryd.prog 51 #[.int .i64 a0, .agg #[.int .i64 a1_0, .int .i64 a1_1, .bool a1_2]] w fun e w' => e = .returned (.agg #[.int .i64 r1, .int .i64 r2, .bool r3]) ∧ Below w.heap.size w w' := by
 have hu23 := Tryd.underlying23
 have HB := Aside0.mk (Below.refl w.heap.size w)
 have H : ((impl_PointOk.f a1_0 a1_1 a1_2).bind fun t253 => (if t253 = true then ((impl_remainder.f a0 12108).bind fun t254 => (impl_PointTimes.l0 k t254 a1_0 a1_1 a1_2 0 0 true)) else (some (0, 0, true)))) = some (r1, r2, r3) := h
 clear h
 replace H := Option.bind_eq_some_iff.mp H
 obtain ⟨t253, A30, H⟩ := H
 have A3 := Aside0.mk A30
 clear A30
 by_cases c4 : t253 = true
 ·subst c4
  rw [if_pos rfl] at H
  replace H := Option.bind_eq_some_iff.mp H
  obtain ⟨t254, A50, H⟩ := H
  have A5 := Aside0.mk A50
  clear A50
  have H' := Aside0.mk H
  clear H
  go_enter Tryd.func51, Tryd.ntmps51
  go_wp2_with (first | ((with_reducible refine gate_dst (N := 3) rfl ?_); refine bE 3 #[.int .i64 a1_0, .int .i64 a1_1, .bool a1_2] 23 ?_; intro gb250 hg w6 hbox hb; have BK250 := Aside0.mk (hbox); have GW250 := bG HB hg; have GE250 := bG HB hg; replace HB := bS HB hb; clear hb hbox hg) | ((with_reducible refine gate_dst (N := 4) rfl ?_); refine bE 4 #[.int .i64 0, .int .i64 0, .bool false] 23 ?_; intro gb251 hg w7 hbox hb; have BK251 := Aside0.mk (hbox); have GW251 := bG HB hg; have GE251 := bG HB hg; replace HB := bS HB hb; have NB250_251 := bL BK250 hg; have NB251_250 := bR BK250 hg; replace BK250 := bB BK250 hb; clear hb hbox hg) | ((with_reducible refine gate_dst (N := 5) rfl ?_); refine bE 5 #[.int .i64 0, .int .i64 0, .bool false] 23 ?_; intro gb252 hg w8 hbox hb; have BK252 := Aside0.mk (hbox); have GW252 := bG HB hg; have GE252 := bG HB hg; replace HB := bS HB hb; have NB250_252 := bL BK250 hg; have NB252_250 := bR BK250 hg; replace BK250 := bB BK250 hb; have NB251_252 := bL BK251 hg; have NB252_251 := bR BK251 hg; replace BK251 := bB BK251 hb; clear hb hbox hg; have hnb9 := NB252_250.out; have hnc9 := NB250_252.out; have hnb10 := NB252_251.out; have hnc10 := NB251_252.out; obtain ⟨hcz11_0, hcz11_1, hcz11_2, hfz11_0, hfz11_1, hfz11_2⟩ := bK3 (w := w8) BK252; have hnb12 := NB250_251.out; have hnc12 := NB251_250.out; obtain ⟨hcz13_0, hcz13_1, hcz13_2, hfz13_0, hfz13_1, hfz13_2⟩ := bK3 (w := w8) BK250) | ((with_reducible refine gate_callee (f := 97) rfl ?_); refine gL (some 8) Tryd.func97 #[.agg #[.int .i64 a1_0, .int .i64 a1_1, .bool a1_2]] ?_; (with_reducible refine (impl_PointOk.calls a1_0 a1_1 a1_2 true _ A3.out).mono ?_); rintro e w14 ⟨rfl, hb⟩; refine ⟨_, rfl, ?_⟩; replace BK250 := bB BK250 hb; replace BK251 := bB BK251 hb; replace BK252 := bV 23 #[.int .i64 0, .int .i64 0, .bool true] BK252 hb; replace HB := bS HB hb; (try clear hb)) | ((with_reducible refine gate_callee (f := 76) rfl ?_); refine gL (some 12) Tryd.func76 #[.int .i64 a0, .int .i64 12108] ?_; (with_reducible refine (impl_remainder.calls a0 12108 t254 _ A5.out).mono ?_); rintro e w' ⟨rfl, ⟨nd, rfl⟩⟩; refine ⟨_, rfl, ?_⟩))
  go_loopg [0] k (fun kq v0 w' => ∃ (x0_1 : Int) (x251000_1 : Int) (x251001_1 : Int) (x251002_1 : Bool) (x253000_1 : Int) (x253001_1 : Int) (x253002_1 : Bool), v0 = .int .i64 x0_1 ∧ Aside0 (impl_PointTimes.l0 kq x0_1 x251000_1 x251001_1 x251002_1 x253000_1 x253001_1 x253002_1 = some (r1, r2, r3)) ∧ Aside0 (kq ≤ k) ∧ Aside0 (w'.heap[gb250]? = some (.cells #[.int .i64 x251000_1, .int .i64 x251001_1, .bool x251002_1] 23 (0, 0))) ∧ Aside0 (w'.heap[gb251]? = some (.cells #[.int .i64 0, .int .i64 0, .bool false] 23 (0, 0))) ∧ Aside0 (w'.heap[gb252]? = some (.cells #[.int .i64 x253000_1, .int .i64 x253001_1, .bool x253002_1] 23 (0, 0))) ∧ Aside0 (Below w.heap.size w w'))
  case atStart => exact ⟨(t254), (a1_0), (a1_1), (a1_2), (0), (0), (true), rS, H', ⟨Nat.le_refl _⟩, ⟨bP BK250⟩, ⟨bP BK251⟩, ⟨bP BK252⟩, ⟨bZ HB⟩⟩
  case round =>
   clear H'
   try clear c1
   try clear p2
   try clear c4
   try clear c5
   try clear c7
   try clear c9
   try clear c10
   try clear c12
   try clear hcz11_0
   try clear hcz11_1
   try clear hcz11_2
   try clear hcz13_0
   try clear hcz13_1
   try clear hcz13_2
   try clear hfz11_0
   try clear hfz11_1
   try clear hfz11_2
   try clear hfz13_0
   try clear hfz13_1
   try clear hfz13_2
   obtain ⟨x0_1, x251000_1, x251001_1, x251002_1, x253000_1, x253001_1, x253002_1, rfl, HA, HK1, BK250, BK251, BK252, HB⟩ := hrel
   cases gk with
   | zero => exact absurd HA.out (by simp [impl_PointTimes.l0])
   | succ k1 =>
    have H := HA.out
    clear HA
    simp only [impl_PointTimes.l0] at H
    by_cases c15 : x0_1 > 0
    ·rw [if_pos c15] at H
     have c15b0 : decide (0 < x0_1) = true := decide_eq_true c15
     clear c15
     by_cases c16 : (Int.tmod x0_1 2) = 1
     ·rw [if_pos c16] at H
      have c16b0 : ((Int.tmod x0_1 2) == 1) = true := beq_iff_eq.mpr c16
      have c16b1 : ((Int.tmod x0_1 2) != 1) = false := bne_eq_false_iff_eq.mpr c16
      clear c16
      replace H := Option.bind_eq_some_iff.mp H
      obtain ⟨⟨t255, t256, t257⟩, A170, H⟩ := H
      have A17 := Aside0.mk A170
      clear A170
      replace H := Option.bind_eq_some_iff.mp H
      obtain ⟨⟨t258, t259, t260⟩, A180, H⟩ := H
      have A18 := Aside0.mk A180
      clear A180
      have H' := Aside0.mk H
      clear H
      have hnb19 := NB252_250.out
      have hnc19 := NB250_252.out
      have hnb20 := NB252_251.out
      have hnc20 := NB251_252.out
      obtain ⟨hcz21_0, hcz21_1, hcz21_2, hfz21_0, hfz21_1, hfz21_2⟩ := bK3 (w := wr) BK252
      have hnb22 := NB250_251.out
      have hnc22 := NB251_250.out
      obtain ⟨hcz23_0, hcz23_1, hcz23_2, hfz23_0, hfz23_1, hfz23_2⟩ := bK3 (w := wr) BK250
      go_wp2_with (first | ((with_reducible refine gate_callee (f := 98) rfl ?_); refine gL (some 22) Tryd.func98 #[.agg #[.int .i64 x253000_1, .int .i64 x253001_1, .bool x253002_1], .agg #[.int .i64 x251000_1, .int .i64 x251001_1, .bool x251002_1]] ?_; (with_reducible refine (impl_add.calls k1 x253000_1 x253001_1 x253002_1 x251000_1 x251001_1 x251002_1 t255 t256 t257 _ A17.out).mono ?_); rintro e w24 ⟨rfl, hb⟩; refine ⟨_, rfl, ?_⟩; replace BK250 := bB BK250 hb; replace BK251 := bB BK251 hb; replace BK252 := bB BK252 hb; replace HB := bS HB hb; (try clear hb); obtain ⟨hcz25_0, hcz25_1, hcz25_2, hfz25_0, hfz25_1, hfz25_2⟩ := bK3 (w := w24) BK252; obtain ⟨hcz26_0, hcz26_1, hcz26_2, hfz26_0, hfz26_1, hfz26_2⟩ := bK3 (w := w24) BK250) | ((with_reducible refine gate_callee (f := 98) rfl ?_); refine gL (some 25) Tryd.func98 #[.agg #[.int .i64 x251000_1, .int .i64 x251001_1, .bool x251002_1], .agg #[.int .i64 x251000_1, .int .i64 x251001_1, .bool x251002_1]] ?_; (with_reducible refine (impl_add.calls k1 x251000_1 x251001_1 x251002_1 x251000_1 x251001_1 x251002_1 t258 t259 t260 _ A18.out).mono ?_); rintro e w27 ⟨rfl, hb⟩; refine ⟨_, rfl, ?_⟩; replace BK250 := bB BK250 hb; replace BK251 := bB BK251 hb; replace BK252 := bV 23 #[.int .i64 t255, .int .i64 t256, .bool t257] BK252 hb; replace HB := bS HB hb; (try clear hb); obtain ⟨hcz28_0, hcz28_1, hcz28_2, hfz28_0, hfz28_1, hfz28_2⟩ := bK3 (w := w27) BK250))
      go_roundg k1
      case measure => have := HK1.out; omega
      case rel => exact ⟨(wrap64 (Int.tdiv x0_1 2)), (t258), (t259), (t260), (t255), (t256), (t257), rS, H', ⟨by have := HK1.out; omega⟩, ⟨bU BK250⟩, ⟨bP BK251⟩, ⟨bP BK252⟩, ⟨bZ HB⟩⟩
     ·rw [if_neg c16] at H
      have c16b0 : ((Int.tmod x0_1 2) == 1) = false := beq_eq_false_iff_ne.mpr c16
      have c16b1 : ((Int.tmod x0_1 2) != 1) = true := bne_iff_ne.mpr c16
      replace H := Option.bind_eq_some_iff.mp H
      obtain ⟨⟨t261, t262, t263⟩, A290, H⟩ := H
      have A29 := Aside0.mk A290
      clear A290
      have H' := Aside0.mk H
      clear H
      have hnb30 := NB250_251.out
      have hnc30 := NB251_250.out
      have hnb31 := NB250_252.out
      have hnc31 := NB252_250.out
      obtain ⟨hcz32_0, hcz32_1, hcz32_2, hfz32_0, hfz32_1, hfz32_2⟩ := bK3 (w := wr) BK250
      go_wp2_with (first | ((with_reducible refine gate_callee (f := 98) rfl ?_); refine gL (some 25) Tryd.func98 #[.agg #[.int .i64 x251000_1, .int .i64 x251001_1, .bool x251002_1], .agg #[.int .i64 x251000_1, .int .i64 x251001_1, .bool x251002_1]] ?_; (with_reducible refine (impl_add.calls k1 x251000_1 x251001_1 x251002_1 x251000_1 x251001_1 x251002_1 t261 t262 t263 _ A29.out).mono ?_); rintro e w33 ⟨rfl, hb⟩; refine ⟨_, rfl, ?_⟩; replace BK250 := bB BK250 hb; replace BK251 := bB BK251 hb; replace BK252 := bB BK252 hb; replace HB := bS HB hb; (try clear hb); obtain ⟨hcz34_0, hcz34_1, hcz34_2, hfz34_0, hfz34_1, hfz34_2⟩ := bK3 (w := w33) BK250))
      go_roundg k1
      case measure => have := HK1.out; omega
      case rel => exact ⟨(wrap64 (Int.tdiv x0_1 2)), (t261), (t262), (t263), (x253000_1), (x253001_1), (x253002_1), rS, H', ⟨by have := HK1.out; omega⟩, ⟨bU BK250⟩, ⟨bP BK251⟩, ⟨bP BK252⟩, ⟨bZ HB⟩⟩
    ·rw [if_neg c15] at H
     have c15b0 : decide (0 < x0_1) = false := decide_eq_false c15
     clear c15
     simp only [Option.some.injEq, Prod.mk.injEq] at H
     obtain ⟨rfl, rfl, rfl⟩ := H
     have hnb35 := NB252_250.out
     have hnc35 := NB250_252.out
     have hnb36 := NB252_251.out
     have hnc36 := NB251_252.out
     obtain ⟨hcz37_0, hcz37_1, hcz37_2, hfz37_0, hfz37_1, hfz37_2⟩ := bK3 (w := wr) BK252
     have hnb38 := NB251_250.out
     have hnc38 := NB250_251.out
     obtain ⟨hcz39_0, hcz39_1, hcz39_2, hfz39_0, hfz39_1, hfz39_2⟩ := bK3 (w := wr) BK251
     go_wp2
     refine rC gb251 23 #[.int .i64 x253000_1, .int .i64 x253001_1, .bool x253002_1] (bU BK251) Tryd.underlying23 ?_
     exact ⟨rR, bZ HB⟩
 ·replace c4 := Bool.eq_false_iff.mpr c4
  subst c4
  rw [if_neg (show ¬ (false = true) by decide)] at H
  simp only [Option.some.injEq, Prod.mk.injEq] at H
  obtain ⟨rfl, rfl, rfl⟩ := H
  go_enter Tryd.func51, Tryd.ntmps51
  go_wp2_with (first | ((with_reducible refine gate_dst (N := 3) rfl ?_); refine bE 3 #[.int .i64 a1_0, .int .i64 a1_1, .bool a1_2] 23 ?_; intro gb250 hg w40 hbox hb; have BK250 := Aside0.mk (hbox); have GW250 := bG HB hg; have GE250 := bG HB hg; replace HB := bS HB hb; clear hb hbox hg) | ((with_reducible refine gate_dst (N := 4) rfl ?_); refine bE 4 #[.int .i64 0, .int .i64 0, .bool false] 23 ?_; intro gb251 hg w41 hbox hb; have BK251 := Aside0.mk (hbox); have GW251 := bG HB hg; have GE251 := bG HB hg; replace HB := bS HB hb; have NB250_251 := bL BK250 hg; have NB251_250 := bR BK250 hg; replace BK250 := bB BK250 hb; clear hb hbox hg) | ((with_reducible refine gate_dst (N := 5) rfl ?_); refine bE 5 #[.int .i64 0, .int .i64 0, .bool false] 23 ?_; intro gb252 hg w42 hbox hb; have BK252 := Aside0.mk (hbox); have GW252 := bG HB hg; have GE252 := bG HB hg; replace HB := bS HB hb; have NB250_252 := bL BK250 hg; have NB252_250 := bR BK250 hg; replace BK250 := bB BK250 hb; have NB251_252 := bL BK251 hg; have NB252_251 := bR BK251 hg; replace BK251 := bB BK251 hb; clear hb hbox hg; have hnb43 := NB252_250.out; have hnc43 := NB250_252.out; have hnb44 := NB252_251.out; have hnc44 := NB251_252.out; obtain ⟨hcz45_0, hcz45_1, hcz45_2, hfz45_0, hfz45_1, hfz45_2⟩ := bK3 (w := w42) BK252; have hnb46 := NB250_251.out; have hnc46 := NB251_250.out; obtain ⟨hcz47_0, hcz47_1, hcz47_2, hfz47_0, hfz47_1, hfz47_2⟩ := bK3 (w := w42) BK250) | ((with_reducible refine gate_callee (f := 97) rfl ?_); refine gL (some 8) Tryd.func97 #[.agg #[.int .i64 a1_0, .int .i64 a1_1, .bool a1_2]] ?_; (with_reducible refine (impl_PointOk.calls a1_0 a1_1 a1_2 false _ A3.out).mono ?_); rintro e w48 ⟨rfl, hb⟩; refine ⟨_, rfl, ?_⟩; replace BK250 := bB BK250 hb; replace BK251 := bB BK251 hb; replace BK252 := bV 23 #[.int .i64 0, .int .i64 0, .bool true] BK252 hb; replace HB := bS HB hb; (try clear hb); obtain ⟨hcz49_0, hcz49_1, hcz49_2, hfz49_0, hfz49_1, hfz49_2⟩ := bK3 (w := w48) BK252; obtain ⟨hcz50_0, hcz50_1, hcz50_2, hfz50_0, hfz50_1, hfz50_2⟩ := bK3 (w := w48) BK251))
  refine rC gb251 23 #[.int .i64 0, .int .i64 0, .bool true] (bU BK251) Tryd.underlying23 ?_
  exact ⟨rR, bZ HB⟩
/-! ### impl_HashPoint: function 11 -/
def impl_HashPoint.l0 : Nat → ByteArray → Int → Option (Int × Int × Bool)
 | 0, _, _ => none
 | k + 1, x0, x9 => if x9 < 64 then ((some (([(x9) % 256] : List Int) : List Int)).bind fun y269 => (if (strOfNums y269).size + x0.size ≤ 9223372036854775807 then ((impl_Digest.f ((strOfNums y269) ++ x0)).bind fun t272 => (if 0 < (t272.size : Int) then (if 1 < (t272.size : Int) then (if 2 < (t272.size : Int) then (if 3 < (t272.size : Int) then ((impl_FpOf.f (Go.bits .or .i64 (Go.bits .or .i64 (Go.bits .or .i64 (wrap64 ((wrap64 (bt t272 0)) * 16777216)) (wrap64 ((wrap64 (bt t272 1)) * 65536))) (wrap64 ((wrap64 (bt t272 2)) * 256))) (wrap64 (bt t272 3)))).bind fun t273 => ((impl_curveAt.f t273).bind fun t274 => ((impl_FpRoot.f k t274).bind fun bt275 => (if bt275.2 = true then ((impl_PointTimes.f k 12 t273 bt275.1 false).bind fun bt277 => (if bt277.2.2 = true then (impl_HashPoint.l0 k x0 (wrap64 (x9 + 1))) else (some (bt277.1, bt277.2.1, bt277.2.2)))) else (impl_HashPoint.l0 k x0 (wrap64 (x9 + 1))))))) else (none)) else (none)) else (none)) else (none))) else (none))) else ((impl_Base.f).bind fun bt266 => (some (bt266.1, bt266.2.1, bt266.2.2)))
def impl_HashPoint.f (k : Nat) (a0 : ByteArray) : Option (Int × Int × Bool) := impl_HashPoint.l0 k a0 0
theorem impl_HashPoint.mono_l : ∀ k, (∀ y0 y1, LeO (impl_HashPoint.l0 k y0 y1) (impl_HashPoint.l0 (k + 1) y0 y1))
 | 0 => fun _ _ r h => by simp [impl_HashPoint.l0] at h
 | k + 1 => by
  have ih0 := impl_HashPoint.mono_l k
  ·intro y0 y1
   unfold impl_HashPoint.l0
   repeat' first
   | (with_reducible exact ih0 _ _)
   | (with_reducible exact impl_FpRoot.mono _ _)
   | (with_reducible exact impl_PointTimes.mono _ _ _ _ _)
   | (with_reducible exact LeO.refl _)
   | (with_reducible exact LeO.none _)
   | (with_reducible refine LeO.ite ?_ ?_)
   | (with_reducible refine LeO.bind ?_ (fun _ => ?_))
   | exact ih0 _ _
   | exact impl_FpRoot.mono _ _
   | exact impl_PointTimes.mono _ _ _ _ _
   | exact LeO.none _
   | refine LeO.ite ?_ ?_
   | refine LeO.bind ?_ (fun _ => ?_)
theorem impl_HashPoint.mono : ∀ a0 k, LeO (impl_HashPoint.f k a0) (impl_HashPoint.f (k + 1) a0) := by
 intro a0 k
 have ih0 := impl_HashPoint.mono_l k
 unfold impl_HashPoint.f
 repeat' first
   | (with_reducible exact ih0 _ _)
   | (with_reducible exact impl_FpRoot.mono _ _)
   | (with_reducible exact impl_PointTimes.mono _ _ _ _ _)
   | (with_reducible exact LeO.refl _)
   | (with_reducible exact LeO.none _)
   | (with_reducible refine LeO.ite ?_ ?_)
   | (with_reducible refine LeO.bind ?_ (fun _ => ?_))
   | exact ih0 _ _
   | exact impl_FpRoot.mono _ _
   | exact impl_PointTimes.mono _ _ _ _ _
   | exact LeO.none _
   | refine LeO.ite ?_ ?_
   | refine LeO.bind ?_ (fun _ => ?_)
set_option maxHeartbeats 8000000 in
set_option maxRecDepth 100000 in
theorem impl_HashPoint.calls (k : Nat) (a0 : ByteArray) (r1 : Int) (r2 : Int) (r3 : Bool) (w : World) (hT : Kp.Tab w) (h : impl_HashPoint.f k a0 = some (r1, r2, r3)) :
  Calls Tryd.prog 11 #[.string a0] w fun e w' => e = .returned (.agg #[.int .i64 r1, .int .i64 r2, .bool r3]) ∧ Below w.heap.size w w' := by
 have HT := Aside0.mk hT
 clear hT
 have hu23 := Tryd.underlying23
 have HB := Aside0.mk (Below.refl w.heap.size w)
 have H : (impl_HashPoint.l0 k a0 0) = some (r1, r2, r3) := h
 clear h
 have H' := Aside0.mk H
 clear H
 go_enter Tryd.func11, Tryd.ntmps11
 go_wp2_with (first | ((with_reducible refine gate_dst (N := 2) rfl ?_); refine bE 2 #[.int .i64 0, .int .i64 0, .bool false] 23 ?_; intro gb265 hg w2 hbox hb; have BK265 := Aside0.mk (hbox); have GW265 := bG HB hg; have GE265 := bG HB hg; replace HB := bS HB hb; clear hb hbox hg))
 repeat (go_quiet (first | ((with_reducible refine gate_dst (N := 2) rfl ?_); refine bE 2 #[.int .i64 0, .int .i64 0, .bool false] 23 ?_; intro gb265 hg w2 hbox hb; have BK265 := Aside0.mk (hbox); have GW265 := bG HB hg; have GE265 := bG HB hg; replace HB := bS HB hb; clear hb hbox hg)); try go_wp2_with (first | ((with_reducible refine gate_dst (N := 2) rfl ?_); refine bE 2 #[.int .i64 0, .int .i64 0, .bool false] 23 ?_; intro gb265 hg w2 hbox hb; have BK265 := Aside0.mk (hbox); have GW265 := bG HB hg; have GE265 := bG HB hg; replace HB := bS HB hb; clear hb hbox hg)))
 go_loopg [9] k (fun kq v9 w' => ∃ (x9_1 : Int) (x266000_1 : Int) (x266001_1 : Int) (x266002_1 : Bool), v9 = .int .i64 x9_1 ∧ Aside0 (impl_HashPoint.l0 kq a0 x9_1 = some (r1, r2, r3)) ∧ Aside0 (kq ≤ k) ∧ Aside0 (w'.heap[gb265]? = some (.cells #[.int .i64 x266000_1, .int .i64 x266001_1, .bool x266002_1] 23 (0, 0))) ∧ Aside0 (Below w.heap.size w w'))
 case atStart => exact ⟨(0), (0), (0), (false), rS, H', ⟨Nat.le_refl _⟩, ⟨bP BK265⟩, ⟨bZ HB⟩⟩
 case round =>
  clear H'
  try clear c1
  try clear p2
  obtain ⟨x9_1, x266000_1, x266001_1, x266002_1, rfl, HA, HK1, BK265, HB⟩ := hrel
  cases gk with
  | zero => exact absurd HA.out (by simp [impl_HashPoint.l0])
  | succ k1 =>
   have H := HA.out
   clear HA
   simp only [impl_HashPoint.l0] at H
   by_cases c3 : x9_1 < 64
   ·rw [if_pos c3] at H
    have c3b0 : decide (x9_1 < 64) = true := decide_eq_true c3
    clear c3
    obtain ⟨y269, hy269⟩ : ∃ y_ : List Int, y_ = (([(x9_1) % 256] : List Int)) := ⟨_, rfl⟩
    replace H : (if (strOfNums y269).size + a0.size ≤ 9223372036854775807 then ((impl_Digest.f ((strOfNums y269) ++ a0)).bind fun t272 => (if 0 < (t272.size : Int) then (if 1 < (t272.size : Int) then (if 2 < (t272.size : Int) then (if 3 < (t272.size : Int) then ((impl_FpOf.f (Go.bits .or .i64 (Go.bits .or .i64 (Go.bits .or .i64 (wrap64 ((wrap64 (bt t272 0)) * 16777216)) (wrap64 ((wrap64 (bt t272 1)) * 65536))) (wrap64 ((wrap64 (bt t272 2)) * 256))) (wrap64 (bt t272 3)))).bind fun t273 => ((impl_curveAt.f t273).bind fun t274 => ((impl_FpRoot.f k1 t274).bind fun bt275 => (if bt275.2 = true then ((impl_PointTimes.f k1 12 t273 bt275.1 false).bind fun bt277 => (if bt277.2.2 = true then (impl_HashPoint.l0 k1 a0 (wrap64 (x9_1 + 1))) else (some (bt277.1, bt277.2.1, bt277.2.2)))) else (impl_HashPoint.l0 k1 a0 (wrap64 (x9_1 + 1))))))) else (none)) else (none)) else (none)) else (none))) else (none)) = some (r1, r2, r3) := by first | (rw [hy269]; with_reducible exact H) | (have H2_ := (Option.bind_some _ _).symm.trans H; rw [hy269]; with_reducible exact H2_) | (have H2_ := (Option.bind_some _ _).symm.trans H; with_reducible exact H2_) | with_reducible exact H | (rw [hy269]; exact H) | exact H
    have Ny269 := Aside0.mk hy269
    clear hy269
    by_cases c4 : (strOfNums y269).size + a0.size ≤ 9223372036854775807
    ·rw [if_pos c4] at H
     have c4b0 := eq_true c4
     have c4b1 : decide ((strOfNums y269).size + a0.size ≤ 9223372036854775807) = true := decide_eq_true c4
     try have c4b2 : (9223372036854775807 < (strOfNums y269).size + a0.size) = False := eq_false (Nat.not_lt.2 c4)
     try simp only [ByteArray.size_append] at c4b2
     replace H := Option.bind_eq_some_iff.mp H
     obtain ⟨t272, A50, H⟩ := H
     have A5 := Aside0.mk A50
     clear A50
     by_cases c6 : 0 < (t272.size : Int)
     ·rw [if_pos c6] at H
      have c6b0 : decide (0 < (t272.size : Int)) = true := decide_eq_true c6
      have c6b1 : decide (0 < t272.size) = true := decide_eq_true (by omega)
      clear c6
      by_cases c8 : 1 < (t272.size : Int)
      ·rw [if_pos c8] at H
       have c8b0 : decide (1 < (t272.size : Int)) = true := decide_eq_true c8
       have c8b1 : decide (1 < t272.size) = true := decide_eq_true (by omega)
       clear c8
       by_cases c10 : 2 < (t272.size : Int)
       ·rw [if_pos c10] at H
        have c10b0 : decide (2 < (t272.size : Int)) = true := decide_eq_true c10
        have c10b1 : decide (2 < t272.size) = true := decide_eq_true (by omega)
        clear c10
        by_cases c12 : 3 < (t272.size : Int)
        ·rw [if_pos c12] at H
         have c12b0 : decide (3 < (t272.size : Int)) = true := decide_eq_true c12
         have c12b1 : decide (3 < t272.size) = true := decide_eq_true (by omega)
         clear c12
         replace H := Option.bind_eq_some_iff.mp H
         obtain ⟨t273, A140, H⟩ := H
         have A14 := Aside0.mk A140
         clear A140
         replace H := Option.bind_eq_some_iff.mp H
         obtain ⟨t274, A150, H⟩ := H
         have A15 := Aside0.mk A150
         clear A150
         replace H := Option.bind_eq_some_iff.mp H
         obtain ⟨⟨t275, t276⟩, A160, H⟩ := H
         have A16 := Aside0.mk A160
         clear A160
         by_cases c17 : t276 = true
         ·subst c17
          rw [if_pos rfl] at H
          replace H := Option.bind_eq_some_iff.mp H
          obtain ⟨⟨t277, t278, t279⟩, A180, H⟩ := H
          have A18 := Aside0.mk A180
          clear A180
          by_cases c19 : t279 = true
          ·subst c19
           rw [if_pos rfl] at H
           have H' := Aside0.mk H
           clear H
           go_wp2_with (first | ((with_reducible refine gate_dst (N := 14) rfl ?_); refine Kd.R_lit (Kd.int .u8) _ 5 ?hg (N := 14) ?hd (xs := ([(x9_1) % 256] : List Int)) (inner := [.int .u8 ((x9_1) % 256)]) (ok := fun _ => True) (okp := fun _ => True) ?hr ?hp (fun _ hk => hk) trivial (Below.refl _ _) (Nat.le_refl _) (by simp) ?_; (case hd => rfl); (case hg => rfl); (case hr => first | (go_simp; done) | (go_simp; rfl)); (case hp => exact (Reps.one (show Kd.M (Kd.int .u8) _ _ _ ((x9_1) % 256) [.int .u8 ((x9_1) % 256)] from rfl) (Reps.none _ _))); intro v270 w20 ho21 hb hg_ hnew_; clear hg_ hnew_; (first | rw [← Ny269.out] at ho21 | (simp only [Int.reduceToNat] at ho21; rw [← Ny269.out] at ho21)); have HO271 := Aside0.mk (Kd.R_lower ho21 (below_size (bZ HB))); replace BK265 := bB BK265 hb; replace HB := bS HB hb; clear hb ho21; have hcv22 := own_string (P := Tryd.prog) Tryd.underlying46 Tryd.underlying5 Tryd.underlying9 (Kd.own_of_R HO271.out)) | (go_at_call 47; (with_reducible refine (impl_Digest.calls ((strOfNums y269) ++ a0) t272 _ (Kp.Tab.below HT.out (bZ HB)) A5.out).mono ?_); rintro e w23 ⟨rfl, hb⟩; replace HO271 := Aside0.mk (Kd.R_below (rP HO271) hb); replace BK265 := bB BK265 hb; replace HB := bS HB hb; (try clear hb); have p7 : 0 ≤ (0 : Int) := (by omega); have q7 : 0 < t272.size := (by have : (0 : Int) < (t272.size : Int) := of_decide_eq_true (by first | (with_reducible assumption) | assumption); omega); have hx7 : ∀ h : 0 < t272.size, ((t272[0]'h).toNat : Int) = bt t272 0 := bt_at t272 0; clear p7; have qi7 : (0 < (t272.size : Int)) = True := eq_true (of_decide_eq_true (by first | (with_reducible assumption) | assumption)); replace q7 := eq_true q7; have p9 : 0 ≤ (1 : Int) := (by omega); have q9 : 1 < t272.size := (by have : (1 : Int) < (t272.size : Int) := of_decide_eq_true (by first | (with_reducible assumption) | assumption); omega); have hx9 : ∀ h : 1 < t272.size, ((t272[1]'h).toNat : Int) = bt t272 1 := bt_at t272 1; clear p9; have qi9 : (1 < (t272.size : Int)) = True := eq_true (of_decide_eq_true (by first | (with_reducible assumption) | assumption)); replace q9 := eq_true q9; have p11 : 0 ≤ (2 : Int) := (by omega); have q11 : 2 < t272.size := (by have : (2 : Int) < (t272.size : Int) := of_decide_eq_true (by first | (with_reducible assumption) | assumption); omega); have hx11 : ∀ h : 2 < t272.size, ((t272[2]'h).toNat : Int) = bt t272 2 := bt_at t272 2; clear p11; have qi11 : (2 < (t272.size : Int)) = True := eq_true (of_decide_eq_true (by first | (with_reducible assumption) | assumption)); replace q11 := eq_true q11; have p13 : 0 ≤ (3 : Int) := (by omega); have q13 : 3 < t272.size := (by have : (3 : Int) < (t272.size : Int) := of_decide_eq_true (by first | (with_reducible assumption) | assumption); omega); have hx13 : ∀ h : 3 < t272.size, ((t272[3]'h).toNat : Int) = bt t272 3 := bt_at t272 3; clear p13; have qi13 : (3 < (t272.size : Int)) = True := eq_true (of_decide_eq_true (by first | (with_reducible assumption) | assumption)); replace q13 := eq_true q13) | (go_at_call 48; (with_reducible refine (impl_FpOf.calls (Go.bits .or .i64 (Go.bits .or .i64 (Go.bits .or .i64 (wrap64 ((wrap64 (bt t272 0)) * 16777216)) (wrap64 ((wrap64 (bt t272 1)) * 65536))) (wrap64 ((wrap64 (bt t272 2)) * 256))) (wrap64 (bt t272 3))) t273 _ A14.out).mono ?_); rintro e w' ⟨rfl, ⟨nd, rfl⟩⟩; (try exact tD)) | (go_at_call 50; (with_reducible refine (impl_curveAt.calls t273 t274 _ A15.out).mono ?_); rintro e w' ⟨rfl, ⟨nd, rfl⟩⟩; (try exact tD)) | (go_at_call 49; (with_reducible refine (impl_FpRoot.calls k1 t274 t275 true _ A16.out).mono ?_); rintro e w24 ⟨rfl, hb⟩; replace HO271 := Aside0.mk (Kd.R_below (rP HO271) hb); replace BK265 := bB BK265 hb; replace HB := bS HB hb; (try clear hb)) | (go_at_call 51; (with_reducible refine (impl_PointTimes.calls k1 12 t273 t275 false t277 t278 true _ A18.out).mono ?_); rintro e w25 ⟨rfl, hb⟩; replace HO271 := Aside0.mk (Kd.R_below (rP HO271) hb); replace BK265 := bB BK265 hb; replace HB := bS HB hb; (try clear hb)) | ((with_reducible refine gate_dst (N := 8) rfl ?_); refine bE 8 #[.int .i64 0, .int .i64 0, .bool false] 23 ?_; intro gb280 hg w26 hbox hb; replace HO271 := Aside0.mk (Kd.R_below (rP HO271) hb); have BK280 := Aside0.mk (hbox); have GW280 := bG HB hg; have GE280 := bG HB hg; replace HB := bS HB hb; have NB265_280 := bL BK265 hg; have NB280_265 := bR BK265 hg; replace BK265 := bB BK265 hb; clear hb hbox hg; have hnb27 := NB280_265.out; have hnc27 := NB265_280.out; obtain ⟨hcz28_0, hcz28_1, hcz28_2, hfz28_0, hfz28_1, hfz28_2⟩ := bK3 (w := w26) BK280))
           repeat (go_quiet (first | ((with_reducible refine gate_dst (N := 14) rfl ?_); refine Kd.R_lit (Kd.int .u8) _ 5 ?hg (N := 14) ?hd (xs := ([(x9_1) % 256] : List Int)) (inner := [.int .u8 ((x9_1) % 256)]) (ok := fun _ => True) (okp := fun _ => True) ?hr ?hp (fun _ hk => hk) trivial (Below.refl _ _) (Nat.le_refl _) (by simp) ?_; (case hd => rfl); (case hg => rfl); (case hr => first | (go_simp; done) | (go_simp; rfl)); (case hp => exact (Reps.one (show Kd.M (Kd.int .u8) _ _ _ ((x9_1) % 256) [.int .u8 ((x9_1) % 256)] from rfl) (Reps.none _ _))); intro v270 w20 ho21 hb hg_ hnew_; clear hg_ hnew_; (first | rw [← Ny269.out] at ho21 | (simp only [Int.reduceToNat] at ho21; rw [← Ny269.out] at ho21)); have HO271 := Aside0.mk (Kd.R_lower ho21 (below_size (bZ HB))); replace BK265 := bB BK265 hb; replace HB := bS HB hb; clear hb ho21; have hcv22 := own_string (P := Tryd.prog) Tryd.underlying46 Tryd.underlying5 Tryd.underlying9 (Kd.own_of_R HO271.out)) | (go_at_call 47; (with_reducible refine (impl_Digest.calls ((strOfNums y269) ++ a0) t272 _ (Kp.Tab.below HT.out (bZ HB)) A5.out).mono ?_); rintro e w23 ⟨rfl, hb⟩; replace HO271 := Aside0.mk (Kd.R_below (rP HO271) hb); replace BK265 := bB BK265 hb; replace HB := bS HB hb; (try clear hb); have p7 : 0 ≤ (0 : Int) := (by omega); have q7 : 0 < t272.size := (by have : (0 : Int) < (t272.size : Int) := of_decide_eq_true (by first | (with_reducible assumption) | assumption); omega); have hx7 : ∀ h : 0 < t272.size, ((t272[0]'h).toNat : Int) = bt t272 0 := bt_at t272 0; clear p7; have qi7 : (0 < (t272.size : Int)) = True := eq_true (of_decide_eq_true (by first | (with_reducible assumption) | assumption)); replace q7 := eq_true q7; have p9 : 0 ≤ (1 : Int) := (by omega); have q9 : 1 < t272.size := (by have : (1 : Int) < (t272.size : Int) := of_decide_eq_true (by first | (with_reducible assumption) | assumption); omega); have hx9 : ∀ h : 1 < t272.size, ((t272[1]'h).toNat : Int) = bt t272 1 := bt_at t272 1; clear p9; have qi9 : (1 < (t272.size : Int)) = True := eq_true (of_decide_eq_true (by first | (with_reducible assumption) | assumption)); replace q9 := eq_true q9; have p11 : 0 ≤ (2 : Int) := (by omega); have q11 : 2 < t272.size := (by have : (2 : Int) < (t272.size : Int) := of_decide_eq_true (by first | (with_reducible assumption) | assumption); omega); have hx11 : ∀ h : 2 < t272.size, ((t272[2]'h).toNat : Int) = bt t272 2 := bt_at t272 2; clear p11; have qi11 : (2 < (t272.size : Int)) = True := eq_true (of_decide_eq_true (by first | (with_reducible assumption) | assumption)); replace q11 := eq_true q11; have p13 : 0 ≤ (3 : Int) := (by omega); have q13 : 3 < t272.size := (by have : (3 : Int) < (t272.size : Int) := of_decide_eq_true (by first | (with_reducible assumption) | assumption); omega); have hx13 : ∀ h : 3 < t272.size, ((t272[3]'h).toNat : Int) = bt t272 3 := bt_at t272 3; clear p13; have qi13 : (3 < (t272.size : Int)) = True := eq_true (of_decide_eq_true (by first | (with_reducible assumption) | assumption)); replace q13 := eq_true q13) | (go_at_call 48; (with_reducible refine (impl_FpOf.calls (Go.bits .or .i64 (Go.bits .or .i64 (Go.bits .or .i64 (wrap64 ((wrap64 (bt t272 0)) * 16777216)) (wrap64 ((wrap64 (bt t272 1)) * 65536))) (wrap64 ((wrap64 (bt t272 2)) * 256))) (wrap64 (bt t272 3))) t273 _ A14.out).mono ?_); rintro e w' ⟨rfl, ⟨nd, rfl⟩⟩; (try exact tD)) | (go_at_call 50; (with_reducible refine (impl_curveAt.calls t273 t274 _ A15.out).mono ?_); rintro e w' ⟨rfl, ⟨nd, rfl⟩⟩; (try exact tD)) | (go_at_call 49; (with_reducible refine (impl_FpRoot.calls k1 t274 t275 true _ A16.out).mono ?_); rintro e w24 ⟨rfl, hb⟩; replace HO271 := Aside0.mk (Kd.R_below (rP HO271) hb); replace BK265 := bB BK265 hb; replace HB := bS HB hb; (try clear hb)) | (go_at_call 51; (with_reducible refine (impl_PointTimes.calls k1 12 t273 t275 false t277 t278 true _ A18.out).mono ?_); rintro e w25 ⟨rfl, hb⟩; replace HO271 := Aside0.mk (Kd.R_below (rP HO271) hb); replace BK265 := bB BK265 hb; replace HB := bS HB hb; (try clear hb)) | ((with_reducible refine gate_dst (N := 8) rfl ?_); refine bE 8 #[.int .i64 0, .int .i64 0, .bool false] 23 ?_; intro gb280 hg w26 hbox hb; replace HO271 := Aside0.mk (Kd.R_below (rP HO271) hb); have BK280 := Aside0.mk (hbox); have GW280 := bG HB hg; have GE280 := bG HB hg; replace HB := bS HB hb; have NB265_280 := bL BK265 hg; have NB280_265 := bR BK265 hg; replace BK265 := bB BK265 hb; clear hb hbox hg; have hnb27 := NB280_265.out; have hnc27 := NB265_280.out; obtain ⟨hcz28_0, hcz28_1, hcz28_2, hfz28_0, hfz28_1, hfz28_2⟩ := bK3 (w := w26) BK280)); try go_wp2_with (first | ((with_reducible refine gate_dst (N := 14) rfl ?_); refine Kd.R_lit (Kd.int .u8) _ 5 ?hg (N := 14) ?hd (xs := ([(x9_1) % 256] : List Int)) (inner := [.int .u8 ((x9_1) % 256)]) (ok := fun _ => True) (okp := fun _ => True) ?hr ?hp (fun _ hk => hk) trivial (Below.refl _ _) (Nat.le_refl _) (by simp) ?_; (case hd => rfl); (case hg => rfl); (case hr => first | (go_simp; done) | (go_simp; rfl)); (case hp => exact (Reps.one (show Kd.M (Kd.int .u8) _ _ _ ((x9_1) % 256) [.int .u8 ((x9_1) % 256)] from rfl) (Reps.none _ _))); intro v270 w20 ho21 hb hg_ hnew_; clear hg_ hnew_; (first | rw [← Ny269.out] at ho21 | (simp only [Int.reduceToNat] at ho21; rw [← Ny269.out] at ho21)); have HO271 := Aside0.mk (Kd.R_lower ho21 (below_size (bZ HB))); replace BK265 := bB BK265 hb; replace HB := bS HB hb; clear hb ho21; have hcv22 := own_string (P := Tryd.prog) Tryd.underlying46 Tryd.underlying5 Tryd.underlying9 (Kd.own_of_R HO271.out)) | (go_at_call 47; (with_reducible refine (impl_Digest.calls ((strOfNums y269) ++ a0) t272 _ (Kp.Tab.below HT.out (bZ HB)) A5.out).mono ?_); rintro e w23 ⟨rfl, hb⟩; replace HO271 := Aside0.mk (Kd.R_below (rP HO271) hb); replace BK265 := bB BK265 hb; replace HB := bS HB hb; (try clear hb); have p7 : 0 ≤ (0 : Int) := (by omega); have q7 : 0 < t272.size := (by have : (0 : Int) < (t272.size : Int) := of_decide_eq_true (by first | (with_reducible assumption) | assumption); omega); have hx7 : ∀ h : 0 < t272.size, ((t272[0]'h).toNat : Int) = bt t272 0 := bt_at t272 0; clear p7; have qi7 : (0 < (t272.size : Int)) = True := eq_true (of_decide_eq_true (by first | (with_reducible assumption) | assumption)); replace q7 := eq_true q7; have p9 : 0 ≤ (1 : Int) := (by omega); have q9 : 1 < t272.size := (by have : (1 : Int) < (t272.size : Int) := of_decide_eq_true (by first | (with_reducible assumption) | assumption); omega); have hx9 : ∀ h : 1 < t272.size, ((t272[1]'h).toNat : Int) = bt t272 1 := bt_at t272 1; clear p9; have qi9 : (1 < (t272.size : Int)) = True := eq_true (of_decide_eq_true (by first | (with_reducible assumption) | assumption)); replace q9 := eq_true q9; have p11 : 0 ≤ (2 : Int) := (by omega); have q11 : 2 < t272.size := (by have : (2 : Int) < (t272.size : Int) := of_decide_eq_true (by first | (with_reducible assumption) | assumption); omega); have hx11 : ∀ h : 2 < t272.size, ((t272[2]'h).toNat : Int) = bt t272 2 := bt_at t272 2; clear p11; have qi11 : (2 < (t272.size : Int)) = True := eq_true (of_decide_eq_true (by first | (with_reducible assumption) | assumption)); replace q11 := eq_true q11; have p13 : 0 ≤ (3 : Int) := (by omega); have q13 : 3 < t272.size := (by have : (3 : Int) < (t272.size : Int) := of_decide_eq_true (by first | (with_reducible assumption) | assumption); omega); have hx13 : ∀ h : 3 < t272.size, ((t272[3]'h).toNat : Int) = bt t272 3 := bt_at t272 3; clear p13; have qi13 : (3 < (t272.size : Int)) = True := eq_true (of_decide_eq_true (by first | (with_reducible assumption) | assumption)); replace q13 := eq_true q13) | (go_at_call 48; (with_reducible refine (impl_FpOf.calls (Go.bits .or .i64 (Go.bits .or .i64 (Go.bits .or .i64 (wrap64 ((wrap64 (bt t272 0)) * 16777216)) (wrap64 ((wrap64 (bt t272 1)) * 65536))) (wrap64 ((wrap64 (bt t272 2)) * 256))) (wrap64 (bt t272 3))) t273 _ A14.out).mono ?_); rintro e w' ⟨rfl, ⟨nd, rfl⟩⟩; (try exact tD)) | (go_at_call 50; (with_reducible refine (impl_curveAt.calls t273 t274 _ A15.out).mono ?_); rintro e w' ⟨rfl, ⟨nd, rfl⟩⟩; (try exact tD)) | (go_at_call 49; (with_reducible refine (impl_FpRoot.calls k1 t274 t275 true _ A16.out).mono ?_); rintro e w24 ⟨rfl, hb⟩; replace HO271 := Aside0.mk (Kd.R_below (rP HO271) hb); replace BK265 := bB BK265 hb; replace HB := bS HB hb; (try clear hb)) | (go_at_call 51; (with_reducible refine (impl_PointTimes.calls k1 12 t273 t275 false t277 t278 true _ A18.out).mono ?_); rintro e w25 ⟨rfl, hb⟩; replace HO271 := Aside0.mk (Kd.R_below (rP HO271) hb); replace BK265 := bB BK265 hb; replace HB := bS HB hb; (try clear hb)) | ((with_reducible refine gate_dst (N := 8) rfl ?_); refine bE 8 #[.int .i64 0, .int .i64 0, .bool false] 23 ?_; intro gb280 hg w26 hbox hb; replace HO271 := Aside0.mk (Kd.R_below (rP HO271) hb); have BK280 := Aside0.mk (hbox); have GW280 := bG HB hg; have GE280 := bG HB hg; replace HB := bS HB hb; have NB265_280 := bL BK265 hg; have NB280_265 := bR BK265 hg; replace BK265 := bB BK265 hb; clear hb hbox hg; have hnb27 := NB280_265.out; have hnc27 := NB265_280.out; obtain ⟨hcz28_0, hcz28_1, hcz28_2, hfz28_0, hfz28_1, hfz28_2⟩ := bK3 (w := w26) BK280)))
           go_roundg k1
           case measure => have := HK1.out; omega
           case rel => exact ⟨(wrap64 (x9_1 + 1)), (x266000_1), (x266001_1), (x266002_1), rS, H', ⟨by have := HK1.out; omega⟩, ⟨bP BK265⟩, ⟨bZ HB⟩⟩
          ·replace c19 := Bool.eq_false_iff.mpr c19
           subst c19
           rw [if_neg (show ¬ (false = true) by decide)] at H
           simp only [Option.some.injEq, Prod.mk.injEq] at H
           obtain ⟨rfl, rfl, rfl⟩ := H
           go_wp2_with (first | ((with_reducible refine gate_dst (N := 14) rfl ?_); refine Kd.R_lit (Kd.int .u8) _ 5 ?hg (N := 14) ?hd (xs := ([(x9_1) % 256] : List Int)) (inner := [.int .u8 ((x9_1) % 256)]) (ok := fun _ => True) (okp := fun _ => True) ?hr ?hp (fun _ hk => hk) trivial (Below.refl _ _) (Nat.le_refl _) (by simp) ?_; (case hd => rfl); (case hg => rfl); (case hr => first | (go_simp; done) | (go_simp; rfl)); (case hp => exact (Reps.one (show Kd.M (Kd.int .u8) _ _ _ ((x9_1) % 256) [.int .u8 ((x9_1) % 256)] from rfl) (Reps.none _ _))); intro v270 w29 ho30 hb hg_ hnew_; clear hg_ hnew_; (first | rw [← Ny269.out] at ho30 | (simp only [Int.reduceToNat] at ho30; rw [← Ny269.out] at ho30)); have HO271 := Aside0.mk (Kd.R_lower ho30 (below_size (bZ HB))); replace BK265 := bB BK265 hb; replace HB := bS HB hb; clear hb ho30; have hcv31 := own_string (P := Tryd.prog) Tryd.underlying46 Tryd.underlying5 Tryd.underlying9 (Kd.own_of_R HO271.out)) | (go_at_call 47; (with_reducible refine (impl_Digest.calls ((strOfNums y269) ++ a0) t272 _ (Kp.Tab.below HT.out (bZ HB)) A5.out).mono ?_); rintro e w32 ⟨rfl, hb⟩; replace HO271 := Aside0.mk (Kd.R_below (rP HO271) hb); replace BK265 := bB BK265 hb; replace HB := bS HB hb; (try clear hb); have p7 : 0 ≤ (0 : Int) := (by omega); have q7 : 0 < t272.size := (by have : (0 : Int) < (t272.size : Int) := of_decide_eq_true (by first | (with_reducible assumption) | assumption); omega); have hx7 : ∀ h : 0 < t272.size, ((t272[0]'h).toNat : Int) = bt t272 0 := bt_at t272 0; clear p7; have qi7 : (0 < (t272.size : Int)) = True := eq_true (of_decide_eq_true (by first | (with_reducible assumption) | assumption)); replace q7 := eq_true q7; have p9 : 0 ≤ (1 : Int) := (by omega); have q9 : 1 < t272.size := (by have : (1 : Int) < (t272.size : Int) := of_decide_eq_true (by first | (with_reducible assumption) | assumption); omega); have hx9 : ∀ h : 1 < t272.size, ((t272[1]'h).toNat : Int) = bt t272 1 := bt_at t272 1; clear p9; have qi9 : (1 < (t272.size : Int)) = True := eq_true (of_decide_eq_true (by first | (with_reducible assumption) | assumption)); replace q9 := eq_true q9; have p11 : 0 ≤ (2 : Int) := (by omega); have q11 : 2 < t272.size := (by have : (2 : Int) < (t272.size : Int) := of_decide_eq_true (by first | (with_reducible assumption) | assumption); omega); have hx11 : ∀ h : 2 < t272.size, ((t272[2]'h).toNat : Int) = bt t272 2 := bt_at t272 2; clear p11; have qi11 : (2 < (t272.size : Int)) = True := eq_true (of_decide_eq_true (by first | (with_reducible assumption) | assumption)); replace q11 := eq_true q11; have p13 : 0 ≤ (3 : Int) := (by omega); have q13 : 3 < t272.size := (by have : (3 : Int) < (t272.size : Int) := of_decide_eq_true (by first | (with_reducible assumption) | assumption); omega); have hx13 : ∀ h : 3 < t272.size, ((t272[3]'h).toNat : Int) = bt t272 3 := bt_at t272 3; clear p13; have qi13 : (3 < (t272.size : Int)) = True := eq_true (of_decide_eq_true (by first | (with_reducible assumption) | assumption)); replace q13 := eq_true q13) | (go_at_call 48; (with_reducible refine (impl_FpOf.calls (Go.bits .or .i64 (Go.bits .or .i64 (Go.bits .or .i64 (wrap64 ((wrap64 (bt t272 0)) * 16777216)) (wrap64 ((wrap64 (bt t272 1)) * 65536))) (wrap64 ((wrap64 (bt t272 2)) * 256))) (wrap64 (bt t272 3))) t273 _ A14.out).mono ?_); rintro e w' ⟨rfl, ⟨nd, rfl⟩⟩; (try exact tD)) | (go_at_call 50; (with_reducible refine (impl_curveAt.calls t273 t274 _ A15.out).mono ?_); rintro e w' ⟨rfl, ⟨nd, rfl⟩⟩; (try exact tD)) | (go_at_call 49; (with_reducible refine (impl_FpRoot.calls k1 t274 t275 true _ A16.out).mono ?_); rintro e w33 ⟨rfl, hb⟩; replace HO271 := Aside0.mk (Kd.R_below (rP HO271) hb); replace BK265 := bB BK265 hb; replace HB := bS HB hb; (try clear hb)) | (go_at_call 51; (with_reducible refine (impl_PointTimes.calls k1 12 t273 t275 false t277 t278 false _ A18.out).mono ?_); rintro e w34 ⟨rfl, hb⟩; replace HO271 := Aside0.mk (Kd.R_below (rP HO271) hb); replace BK265 := bB BK265 hb; replace HB := bS HB hb; (try clear hb)) | ((with_reducible refine gate_dst (N := 8) rfl ?_); refine bE 8 #[.int .i64 0, .int .i64 0, .bool false] 23 ?_; intro gb280 hg w35 hbox hb; replace HO271 := Aside0.mk (Kd.R_below (rP HO271) hb); have BK280 := Aside0.mk (hbox); have GW280 := bG HB hg; have GE280 := bG HB hg; replace HB := bS HB hb; have NB265_280 := bL BK265 hg; have NB280_265 := bR BK265 hg; replace BK265 := bB BK265 hb; clear hb hbox hg; have hnb36 := NB280_265.out; have hnc36 := NB265_280.out; obtain ⟨hcz37_0, hcz37_1, hcz37_2, hfz37_0, hfz37_1, hfz37_2⟩ := bK3 (w := w35) BK280; obtain ⟨hcz38_0, hcz38_1, hcz38_2, hfz38_0, hfz38_1, hfz38_2⟩ := bK3 (w := w35) BK265))
           repeat (go_quiet (first | ((with_reducible refine gate_dst (N := 14) rfl ?_); refine Kd.R_lit (Kd.int .u8) _ 5 ?hg (N := 14) ?hd (xs := ([(x9_1) % 256] : List Int)) (inner := [.int .u8 ((x9_1) % 256)]) (ok := fun _ => True) (okp := fun _ => True) ?hr ?hp (fun _ hk => hk) trivial (Below.refl _ _) (Nat.le_refl _) (by simp) ?_; (case hd => rfl); (case hg => rfl); (case hr => first | (go_simp; done) | (go_simp; rfl)); (case hp => exact (Reps.one (show Kd.M (Kd.int .u8) _ _ _ ((x9_1) % 256) [.int .u8 ((x9_1) % 256)] from rfl) (Reps.none _ _))); intro v270 w29 ho30 hb hg_ hnew_; clear hg_ hnew_; (first | rw [← Ny269.out] at ho30 | (simp only [Int.reduceToNat] at ho30; rw [← Ny269.out] at ho30)); have HO271 := Aside0.mk (Kd.R_lower ho30 (below_size (bZ HB))); replace BK265 := bB BK265 hb; replace HB := bS HB hb; clear hb ho30; have hcv31 := own_string (P := Tryd.prog) Tryd.underlying46 Tryd.underlying5 Tryd.underlying9 (Kd.own_of_R HO271.out)) | (go_at_call 47; (with_reducible refine (impl_Digest.calls ((strOfNums y269) ++ a0) t272 _ (Kp.Tab.below HT.out (bZ HB)) A5.out).mono ?_); rintro e w32 ⟨rfl, hb⟩; replace HO271 := Aside0.mk (Kd.R_below (rP HO271) hb); replace BK265 := bB BK265 hb; replace HB := bS HB hb; (try clear hb); have p7 : 0 ≤ (0 : Int) := (by omega); have q7 : 0 < t272.size := (by have : (0 : Int) < (t272.size : Int) := of_decide_eq_true (by first | (with_reducible assumption) | assumption); omega); have hx7 : ∀ h : 0 < t272.size, ((t272[0]'h).toNat : Int) = bt t272 0 := bt_at t272 0; clear p7; have qi7 : (0 < (t272.size : Int)) = True := eq_true (of_decide_eq_true (by first | (with_reducible assumption) | assumption)); replace q7 := eq_true q7; have p9 : 0 ≤ (1 : Int) := (by omega); have q9 : 1 < t272.size := (by have : (1 : Int) < (t272.size : Int) := of_decide_eq_true (by first | (with_reducible assumption) | assumption); omega); have hx9 : ∀ h : 1 < t272.size, ((t272[1]'h).toNat : Int) = bt t272 1 := bt_at t272 1; clear p9; have qi9 : (1 < (t272.size : Int)) = True := eq_true (of_decide_eq_true (by first | (with_reducible assumption) | assumption)); replace q9 := eq_true q9; have p11 : 0 ≤ (2 : Int) := (by omega); have q11 : 2 < t272.size := (by have : (2 : Int) < (t272.size : Int) := of_decide_eq_true (by first | (with_reducible assumption) | assumption); omega); have hx11 : ∀ h : 2 < t272.size, ((t272[2]'h).toNat : Int) = bt t272 2 := bt_at t272 2; clear p11; have qi11 : (2 < (t272.size : Int)) = True := eq_true (of_decide_eq_true (by first | (with_reducible assumption) | assumption)); replace q11 := eq_true q11; have p13 : 0 ≤ (3 : Int) := (by omega); have q13 : 3 < t272.size := (by have : (3 : Int) < (t272.size : Int) := of_decide_eq_true (by first | (with_reducible assumption) | assumption); omega); have hx13 : ∀ h : 3 < t272.size, ((t272[3]'h).toNat : Int) = bt t272 3 := bt_at t272 3; clear p13; have qi13 : (3 < (t272.size : Int)) = True := eq_true (of_decide_eq_true (by first | (with_reducible assumption) | assumption)); replace q13 := eq_true q13) | (go_at_call 48; (with_reducible refine (impl_FpOf.calls (Go.bits .or .i64 (Go.bits .or .i64 (Go.bits .or .i64 (wrap64 ((wrap64 (bt t272 0)) * 16777216)) (wrap64 ((wrap64 (bt t272 1)) * 65536))) (wrap64 ((wrap64 (bt t272 2)) * 256))) (wrap64 (bt t272 3))) t273 _ A14.out).mono ?_); rintro e w' ⟨rfl, ⟨nd, rfl⟩⟩; (try exact tD)) | (go_at_call 50; (with_reducible refine (impl_curveAt.calls t273 t274 _ A15.out).mono ?_); rintro e w' ⟨rfl, ⟨nd, rfl⟩⟩; (try exact tD)) | (go_at_call 49; (with_reducible refine (impl_FpRoot.calls k1 t274 t275 true _ A16.out).mono ?_); rintro e w33 ⟨rfl, hb⟩; replace HO271 := Aside0.mk (Kd.R_below (rP HO271) hb); replace BK265 := bB BK265 hb; replace HB := bS HB hb; (try clear hb)) | (go_at_call 51; (with_reducible refine (impl_PointTimes.calls k1 12 t273 t275 false t277 t278 false _ A18.out).mono ?_); rintro e w34 ⟨rfl, hb⟩; replace HO271 := Aside0.mk (Kd.R_below (rP HO271) hb); replace BK265 := bB BK265 hb; replace HB := bS HB hb; (try clear hb)) | ((with_reducible refine gate_dst (N := 8) rfl ?_); refine bE 8 #[.int .i64 0, .int .i64 0, .bool false] 23 ?_; intro gb280 hg w35 hbox hb; replace HO271 := Aside0.mk (Kd.R_below (rP HO271) hb); have BK280 := Aside0.mk (hbox); have GW280 := bG HB hg; have GE280 := bG HB hg; replace HB := bS HB hb; have NB265_280 := bL BK265 hg; have NB280_265 := bR BK265 hg; replace BK265 := bB BK265 hb; clear hb hbox hg; have hnb36 := NB280_265.out; have hnc36 := NB265_280.out; obtain ⟨hcz37_0, hcz37_1, hcz37_2, hfz37_0, hfz37_1, hfz37_2⟩ := bK3 (w := w35) BK280; obtain ⟨hcz38_0, hcz38_1, hcz38_2, hfz38_0, hfz38_1, hfz38_2⟩ := bK3 (w := w35) BK265)); try go_wp2_with (first | ((with_reducible refine gate_dst (N := 14) rfl ?_); refine Kd.R_lit (Kd.int .u8) _ 5 ?hg (N := 14) ?hd (xs := ([(x9_1) % 256] : List Int)) (inner := [.int .u8 ((x9_1) % 256)]) (ok := fun _ => True) (okp := fun _ => True) ?hr ?hp (fun _ hk => hk) trivial (Below.refl _ _) (Nat.le_refl _) (by simp) ?_; (case hd => rfl); (case hg => rfl); (case hr => first | (go_simp; done) | (go_simp; rfl)); (case hp => exact (Reps.one (show Kd.M (Kd.int .u8) _ _ _ ((x9_1) % 256) [.int .u8 ((x9_1) % 256)] from rfl) (Reps.none _ _))); intro v270 w29 ho30 hb hg_ hnew_; clear hg_ hnew_; (first | rw [← Ny269.out] at ho30 | (simp only [Int.reduceToNat] at ho30; rw [← Ny269.out] at ho30)); have HO271 := Aside0.mk (Kd.R_lower ho30 (below_size (bZ HB))); replace BK265 := bB BK265 hb; replace HB := bS HB hb; clear hb ho30; have hcv31 := own_string (P := Tryd.prog) Tryd.underlying46 Tryd.underlying5 Tryd.underlying9 (Kd.own_of_R HO271.out)) | (go_at_call 47; (with_reducible refine (impl_Digest.calls ((strOfNums y269) ++ a0) t272 _ (Kp.Tab.below HT.out (bZ HB)) A5.out).mono ?_); rintro e w32 ⟨rfl, hb⟩; replace HO271 := Aside0.mk (Kd.R_below (rP HO271) hb); replace BK265 := bB BK265 hb; replace HB := bS HB hb; (try clear hb); have p7 : 0 ≤ (0 : Int) := (by omega); have q7 : 0 < t272.size := (by have : (0 : Int) < (t272.size : Int) := of_decide_eq_true (by first | (with_reducible assumption) | assumption); omega); have hx7 : ∀ h : 0 < t272.size, ((t272[0]'h).toNat : Int) = bt t272 0 := bt_at t272 0; clear p7; have qi7 : (0 < (t272.size : Int)) = True := eq_true (of_decide_eq_true (by first | (with_reducible assumption) | assumption)); replace q7 := eq_true q7; have p9 : 0 ≤ (1 : Int) := (by omega); have q9 : 1 < t272.size := (by have : (1 : Int) < (t272.size : Int) := of_decide_eq_true (by first | (with_reducible assumption) | assumption); omega); have hx9 : ∀ h : 1 < t272.size, ((t272[1]'h).toNat : Int) = bt t272 1 := bt_at t272 1; clear p9; have qi9 : (1 < (t272.size : Int)) = True := eq_true (of_decide_eq_true (by first | (with_reducible assumption) | assumption)); replace q9 := eq_true q9; have p11 : 0 ≤ (2 : Int) := (by omega); have q11 : 2 < t272.size := (by have : (2 : Int) < (t272.size : Int) := of_decide_eq_true (by first | (with_reducible assumption) | assumption); omega); have hx11 : ∀ h : 2 < t272.size, ((t272[2]'h).toNat : Int) = bt t272 2 := bt_at t272 2; clear p11; have qi11 : (2 < (t272.size : Int)) = True := eq_true (of_decide_eq_true (by first | (with_reducible assumption) | assumption)); replace q11 := eq_true q11; have p13 : 0 ≤ (3 : Int) := (by omega); have q13 : 3 < t272.size := (by have : (3 : Int) < (t272.size : Int) := of_decide_eq_true (by first | (with_reducible assumption) | assumption); omega); have hx13 : ∀ h : 3 < t272.size, ((t272[3]'h).toNat : Int) = bt t272 3 := bt_at t272 3; clear p13; have qi13 : (3 < (t272.size : Int)) = True := eq_true (of_decide_eq_true (by first | (with_reducible assumption) | assumption)); replace q13 := eq_true q13) | (go_at_call 48; (with_reducible refine (impl_FpOf.calls (Go.bits .or .i64 (Go.bits .or .i64 (Go.bits .or .i64 (wrap64 ((wrap64 (bt t272 0)) * 16777216)) (wrap64 ((wrap64 (bt t272 1)) * 65536))) (wrap64 ((wrap64 (bt t272 2)) * 256))) (wrap64 (bt t272 3))) t273 _ A14.out).mono ?_); rintro e w' ⟨rfl, ⟨nd, rfl⟩⟩; (try exact tD)) | (go_at_call 50; (with_reducible refine (impl_curveAt.calls t273 t274 _ A15.out).mono ?_); rintro e w' ⟨rfl, ⟨nd, rfl⟩⟩; (try exact tD)) | (go_at_call 49; (with_reducible refine (impl_FpRoot.calls k1 t274 t275 true _ A16.out).mono ?_); rintro e w33 ⟨rfl, hb⟩; replace HO271 := Aside0.mk (Kd.R_below (rP HO271) hb); replace BK265 := bB BK265 hb; replace HB := bS HB hb; (try clear hb)) | (go_at_call 51; (with_reducible refine (impl_PointTimes.calls k1 12 t273 t275 false t277 t278 false _ A18.out).mono ?_); rintro e w34 ⟨rfl, hb⟩; replace HO271 := Aside0.mk (Kd.R_below (rP HO271) hb); replace BK265 := bB BK265 hb; replace HB := bS HB hb; (try clear hb)) | ((with_reducible refine gate_dst (N := 8) rfl ?_); refine bE 8 #[.int .i64 0, .int .i64 0, .bool false] 23 ?_; intro gb280 hg w35 hbox hb; replace HO271 := Aside0.mk (Kd.R_below (rP HO271) hb); have BK280 := Aside0.mk (hbox); have GW280 := bG HB hg; have GE280 := bG HB hg; replace HB := bS HB hb; have NB265_280 := bL BK265 hg; have NB280_265 := bR BK265 hg; replace BK265 := bB BK265 hb; clear hb hbox hg; have hnb36 := NB280_265.out; have hnc36 := NB265_280.out; obtain ⟨hcz37_0, hcz37_1, hcz37_2, hfz37_0, hfz37_1, hfz37_2⟩ := bK3 (w := w35) BK280; obtain ⟨hcz38_0, hcz38_1, hcz38_2, hfz38_0, hfz38_1, hfz38_2⟩ := bK3 (w := w35) BK265)))
           refine rC gb265 23 #[.int .i64 t277, .int .i64 t278, .bool false] (bU BK265) Tryd.underlying23 ?_
           exact ⟨rR, bZ HB⟩
         ·replace c17 := Bool.eq_false_iff.mpr c17
          subst c17
          rw [if_neg (show ¬ (false = true) by decide)] at H
          have H' := Aside0.mk H
          clear H
          go_wp2_with (first | ((with_reducible refine gate_dst (N := 14) rfl ?_); refine Kd.R_lit (Kd.int .u8) _ 5 ?hg (N := 14) ?hd (xs := ([(x9_1) % 256] : List Int)) (inner := [.int .u8 ((x9_1) % 256)]) (ok := fun _ => True) (okp := fun _ => True) ?hr ?hp (fun _ hk => hk) trivial (Below.refl _ _) (Nat.le_refl _) (by simp) ?_; (case hd => rfl); (case hg => rfl); (case hr => first | (go_simp; done) | (go_simp; rfl)); (case hp => exact (Reps.one (show Kd.M (Kd.int .u8) _ _ _ ((x9_1) % 256) [.int .u8 ((x9_1) % 256)] from rfl) (Reps.none _ _))); intro v270 w39 ho40 hb hg_ hnew_; clear hg_ hnew_; (first | rw [← Ny269.out] at ho40 | (simp only [Int.reduceToNat] at ho40; rw [← Ny269.out] at ho40)); have HO271 := Aside0.mk (Kd.R_lower ho40 (below_size (bZ HB))); replace BK265 := bB BK265 hb; replace HB := bS HB hb; clear hb ho40; have hcv41 := own_string (P := Tryd.prog) Tryd.underlying46 Tryd.underlying5 Tryd.underlying9 (Kd.own_of_R HO271.out)) | (go_at_call 47; (with_reducible refine (impl_Digest.calls ((strOfNums y269) ++ a0) t272 _ (Kp.Tab.below HT.out (bZ HB)) A5.out).mono ?_); rintro e w42 ⟨rfl, hb⟩; replace HO271 := Aside0.mk (Kd.R_below (rP HO271) hb); replace BK265 := bB BK265 hb; replace HB := bS HB hb; (try clear hb); have p7 : 0 ≤ (0 : Int) := (by omega); have q7 : 0 < t272.size := (by have : (0 : Int) < (t272.size : Int) := of_decide_eq_true (by first | (with_reducible assumption) | assumption); omega); have hx7 : ∀ h : 0 < t272.size, ((t272[0]'h).toNat : Int) = bt t272 0 := bt_at t272 0; clear p7; have qi7 : (0 < (t272.size : Int)) = True := eq_true (of_decide_eq_true (by first | (with_reducible assumption) | assumption)); replace q7 := eq_true q7; have p9 : 0 ≤ (1 : Int) := (by omega); have q9 : 1 < t272.size := (by have : (1 : Int) < (t272.size : Int) := of_decide_eq_true (by first | (with_reducible assumption) | assumption); omega); have hx9 : ∀ h : 1 < t272.size, ((t272[1]'h).toNat : Int) = bt t272 1 := bt_at t272 1; clear p9; have qi9 : (1 < (t272.size : Int)) = True := eq_true (of_decide_eq_true (by first | (with_reducible assumption) | assumption)); replace q9 := eq_true q9; have p11 : 0 ≤ (2 : Int) := (by omega); have q11 : 2 < t272.size := (by have : (2 : Int) < (t272.size : Int) := of_decide_eq_true (by first | (with_reducible assumption) | assumption); omega); have hx11 : ∀ h : 2 < t272.size, ((t272[2]'h).toNat : Int) = bt t272 2 := bt_at t272 2; clear p11; have qi11 : (2 < (t272.size : Int)) = True := eq_true (of_decide_eq_true (by first | (with_reducible assumption) | assumption)); replace q11 := eq_true q11; have p13 : 0 ≤ (3 : Int) := (by omega); have q13 : 3 < t272.size := (by have : (3 : Int) < (t272.size : Int) := of_decide_eq_true (by first | (with_reducible assumption) | assumption); omega); have hx13 : ∀ h : 3 < t272.size, ((t272[3]'h).toNat : Int) = bt t272 3 := bt_at t272 3; clear p13; have qi13 : (3 < (t272.size : Int)) = True := eq_true (of_decide_eq_true (by first | (with_reducible assumption) | assumption)); replace q13 := eq_true q13) | (go_at_call 48; (with_reducible refine (impl_FpOf.calls (Go.bits .or .i64 (Go.bits .or .i64 (Go.bits .or .i64 (wrap64 ((wrap64 (bt t272 0)) * 16777216)) (wrap64 ((wrap64 (bt t272 1)) * 65536))) (wrap64 ((wrap64 (bt t272 2)) * 256))) (wrap64 (bt t272 3))) t273 _ A14.out).mono ?_); rintro e w' ⟨rfl, ⟨nd, rfl⟩⟩; (try exact tD)) | (go_at_call 50; (with_reducible refine (impl_curveAt.calls t273 t274 _ A15.out).mono ?_); rintro e w' ⟨rfl, ⟨nd, rfl⟩⟩; (try exact tD)) | (go_at_call 49; (with_reducible refine (impl_FpRoot.calls k1 t274 t275 false _ A16.out).mono ?_); rintro e w43 ⟨rfl, hb⟩; replace HO271 := Aside0.mk (Kd.R_below (rP HO271) hb); replace BK265 := bB BK265 hb; replace HB := bS HB hb; (try clear hb)))
          repeat (go_quiet (first | ((with_reducible refine gate_dst (N := 14) rfl ?_); refine Kd.R_lit (Kd.int .u8) _ 5 ?hg (N := 14) ?hd (xs := ([(x9_1) % 256] : List Int)) (inner := [.int .u8 ((x9_1) % 256)]) (ok := fun _ => True) (okp := fun _ => True) ?hr ?hp (fun _ hk => hk) trivial (Below.refl _ _) (Nat.le_refl _) (by simp) ?_; (case hd => rfl); (case hg => rfl); (case hr => first | (go_simp; done) | (go_simp; rfl)); (case hp => exact (Reps.one (show Kd.M (Kd.int .u8) _ _ _ ((x9_1) % 256) [.int .u8 ((x9_1) % 256)] from rfl) (Reps.none _ _))); intro v270 w39 ho40 hb hg_ hnew_; clear hg_ hnew_; (first | rw [← Ny269.out] at ho40 | (simp only [Int.reduceToNat] at ho40; rw [← Ny269.out] at ho40)); have HO271 := Aside0.mk (Kd.R_lower ho40 (below_size (bZ HB))); replace BK265 := bB BK265 hb; replace HB := bS HB hb; clear hb ho40; have hcv41 := own_string (P := Tryd.prog) Tryd.underlying46 Tryd.underlying5 Tryd.underlying9 (Kd.own_of_R HO271.out)) | (go_at_call 47; (with_reducible refine (impl_Digest.calls ((strOfNums y269) ++ a0) t272 _ (Kp.Tab.below HT.out (bZ HB)) A5.out).mono ?_); rintro e w42 ⟨rfl, hb⟩; replace HO271 := Aside0.mk (Kd.R_below (rP HO271) hb); replace BK265 := bB BK265 hb; replace HB := bS HB hb; (try clear hb); have p7 : 0 ≤ (0 : Int) := (by omega); have q7 : 0 < t272.size := (by have : (0 : Int) < (t272.size : Int) := of_decide_eq_true (by first | (with_reducible assumption) | assumption); omega); have hx7 : ∀ h : 0 < t272.size, ((t272[0]'h).toNat : Int) = bt t272 0 := bt_at t272 0; clear p7; have qi7 : (0 < (t272.size : Int)) = True := eq_true (of_decide_eq_true (by first | (with_reducible assumption) | assumption)); replace q7 := eq_true q7; have p9 : 0 ≤ (1 : Int) := (by omega); have q9 : 1 < t272.size := (by have : (1 : Int) < (t272.size : Int) := of_decide_eq_true (by first | (with_reducible assumption) | assumption); omega); have hx9 : ∀ h : 1 < t272.size, ((t272[1]'h).toNat : Int) = bt t272 1 := bt_at t272 1; clear p9; have qi9 : (1 < (t272.size : Int)) = True := eq_true (of_decide_eq_true (by first | (with_reducible assumption) | assumption)); replace q9 := eq_true q9; have p11 : 0 ≤ (2 : Int) := (by omega); have q11 : 2 < t272.size := (by have : (2 : Int) < (t272.size : Int) := of_decide_eq_true (by first | (with_reducible assumption) | assumption); omega); have hx11 : ∀ h : 2 < t272.size, ((t272[2]'h).toNat : Int) = bt t272 2 := bt_at t272 2; clear p11; have qi11 : (2 < (t272.size : Int)) = True := eq_true (of_decide_eq_true (by first | (with_reducible assumption) | assumption)); replace q11 := eq_true q11; have p13 : 0 ≤ (3 : Int) := (by omega); have q13 : 3 < t272.size := (by have : (3 : Int) < (t272.size : Int) := of_decide_eq_true (by first | (with_reducible assumption) | assumption); omega); have hx13 : ∀ h : 3 < t272.size, ((t272[3]'h).toNat : Int) = bt t272 3 := bt_at t272 3; clear p13; have qi13 : (3 < (t272.size : Int)) = True := eq_true (of_decide_eq_true (by first | (with_reducible assumption) | assumption)); replace q13 := eq_true q13) | (go_at_call 48; (with_reducible refine (impl_FpOf.calls (Go.bits .or .i64 (Go.bits .or .i64 (Go.bits .or .i64 (wrap64 ((wrap64 (bt t272 0)) * 16777216)) (wrap64 ((wrap64 (bt t272 1)) * 65536))) (wrap64 ((wrap64 (bt t272 2)) * 256))) (wrap64 (bt t272 3))) t273 _ A14.out).mono ?_); rintro e w' ⟨rfl, ⟨nd, rfl⟩⟩; (try exact tD)) | (go_at_call 50; (with_reducible refine (impl_curveAt.calls t273 t274 _ A15.out).mono ?_); rintro e w' ⟨rfl, ⟨nd, rfl⟩⟩; (try exact tD)) | (go_at_call 49; (with_reducible refine (impl_FpRoot.calls k1 t274 t275 false _ A16.out).mono ?_); rintro e w43 ⟨rfl, hb⟩; replace HO271 := Aside0.mk (Kd.R_below (rP HO271) hb); replace BK265 := bB BK265 hb; replace HB := bS HB hb; (try clear hb))); try go_wp2_with (first | ((with_reducible refine gate_dst (N := 14) rfl ?_); refine Kd.R_lit (Kd.int .u8) _ 5 ?hg (N := 14) ?hd (xs := ([(x9_1) % 256] : List Int)) (inner := [.int .u8 ((x9_1) % 256)]) (ok := fun _ => True) (okp := fun _ => True) ?hr ?hp (fun _ hk => hk) trivial (Below.refl _ _) (Nat.le_refl _) (by simp) ?_; (case hd => rfl); (case hg => rfl); (case hr => first | (go_simp; done) | (go_simp; rfl)); (case hp => exact (Reps.one (show Kd.M (Kd.int .u8) _ _ _ ((x9_1) % 256) [.int .u8 ((x9_1) % 256)] from rfl) (Reps.none _ _))); intro v270 w39 ho40 hb hg_ hnew_; clear hg_ hnew_; (first | rw [← Ny269.out] at ho40 | (simp only [Int.reduceToNat] at ho40; rw [← Ny269.out] at ho40)); have HO271 := Aside0.mk (Kd.R_lower ho40 (below_size (bZ HB))); replace BK265 := bB BK265 hb; replace HB := bS HB hb; clear hb ho40; have hcv41 := own_string (P := Tryd.prog) Tryd.underlying46 Tryd.underlying5 Tryd.underlying9 (Kd.own_of_R HO271.out)) | (go_at_call 47; (with_reducible refine (impl_Digest.calls ((strOfNums y269) ++ a0) t272 _ (Kp.Tab.below HT.out (bZ HB)) A5.out).mono ?_); rintro e w42 ⟨rfl, hb⟩; replace HO271 := Aside0.mk (Kd.R_below (rP HO271) hb); replace BK265 := bB BK265 hb; replace HB := bS HB hb; (try clear hb); have p7 : 0 ≤ (0 : Int) := (by omega); have q7 : 0 < t272.size := (by have : (0 : Int) < (t272.size : Int) := of_decide_eq_true (by first | (with_reducible assumption) | assumption); omega); have hx7 : ∀ h : 0 < t272.size, ((t272[0]'h).toNat : Int) = bt t272 0 := bt_at t272 0; clear p7; have qi7 : (0 < (t272.size : Int)) = True := eq_true (of_decide_eq_true (by first | (with_reducible assumption) | assumption)); replace q7 := eq_true q7; have p9 : 0 ≤ (1 : Int) := (by omega); have q9 : 1 < t272.size := (by have : (1 : Int) < (t272.size : Int) := of_decide_eq_true (by first | (with_reducible assumption) | assumption); omega); have hx9 : ∀ h : 1 < t272.size, ((t272[1]'h).toNat : Int) = bt t272 1 := bt_at t272 1; clear p9; have qi9 : (1 < (t272.size : Int)) = True := eq_true (of_decide_eq_true (by first | (with_reducible assumption) | assumption)); replace q9 := eq_true q9; have p11 : 0 ≤ (2 : Int) := (by omega); have q11 : 2 < t272.size := (by have : (2 : Int) < (t272.size : Int) := of_decide_eq_true (by first | (with_reducible assumption) | assumption); omega); have hx11 : ∀ h : 2 < t272.size, ((t272[2]'h).toNat : Int) = bt t272 2 := bt_at t272 2; clear p11; have qi11 : (2 < (t272.size : Int)) = True := eq_true (of_decide_eq_true (by first | (with_reducible assumption) | assumption)); replace q11 := eq_true q11; have p13 : 0 ≤ (3 : Int) := (by omega); have q13 : 3 < t272.size := (by have : (3 : Int) < (t272.size : Int) := of_decide_eq_true (by first | (with_reducible assumption) | assumption); omega); have hx13 : ∀ h : 3 < t272.size, ((t272[3]'h).toNat : Int) = bt t272 3 := bt_at t272 3; clear p13; have qi13 : (3 < (t272.size : Int)) = True := eq_true (of_decide_eq_true (by first | (with_reducible assumption) | assumption)); replace q13 := eq_true q13) | (go_at_call 48; (with_reducible refine (impl_FpOf.calls (Go.bits .or .i64 (Go.bits .or .i64 (Go.bits .or .i64 (wrap64 ((wrap64 (bt t272 0)) * 16777216)) (wrap64 ((wrap64 (bt t272 1)) * 65536))) (wrap64 ((wrap64 (bt t272 2)) * 256))) (wrap64 (bt t272 3))) t273 _ A14.out).mono ?_); rintro e w' ⟨rfl, ⟨nd, rfl⟩⟩; (try exact tD)) | (go_at_call 50; (with_reducible refine (impl_curveAt.calls t273 t274 _ A15.out).mono ?_); rintro e w' ⟨rfl, ⟨nd, rfl⟩⟩; (try exact tD)) | (go_at_call 49; (with_reducible refine (impl_FpRoot.calls k1 t274 t275 false _ A16.out).mono ?_); rintro e w43 ⟨rfl, hb⟩; replace HO271 := Aside0.mk (Kd.R_below (rP HO271) hb); replace BK265 := bB BK265 hb; replace HB := bS HB hb; (try clear hb))))
          go_roundg k1
          case measure => have := HK1.out; omega
          case rel => exact ⟨(wrap64 (x9_1 + 1)), (x266000_1), (x266001_1), (x266002_1), rS, H', ⟨by have := HK1.out; omega⟩, ⟨bP BK265⟩, ⟨bZ HB⟩⟩
        ·rw [if_neg c12] at H
         exact absurd H (by simp)
       ·rw [if_neg c10] at H
        exact absurd H (by simp)
      ·rw [if_neg c8] at H
       exact absurd H (by simp)
     ·rw [if_neg c6] at H
      exact absurd H (by simp)
    ·rw [if_neg c4] at H
     exact absurd H (by simp)
   ·rw [if_neg c3] at H
    have c3b0 : decide (x9_1 < 64) = false := decide_eq_false c3
    clear c3
    replace H := Option.bind_eq_some_iff.mp H
    obtain ⟨⟨t266, t267, t268⟩, A440, H⟩ := H
    have A44 := Aside0.mk A440
    clear A440
    simp only [Option.some.injEq, Prod.mk.injEq] at H
    obtain ⟨rfl, rfl, rfl⟩ := H
    go_wp2_with (first | (go_at_call 52; (with_reducible refine (impl_Base.calls  t266 t267 t268 _ A44.out).mono ?_); rintro e w45 ⟨rfl, hb⟩; replace BK265 := bB BK265 hb; replace HB := bS HB hb; (try clear hb); obtain ⟨hcz46_0, hcz46_1, hcz46_2, hfz46_0, hfz46_1, hfz46_2⟩ := bK3 (w := w45) BK265))
    repeat (go_quiet (first | (go_at_call 52; (with_reducible refine (impl_Base.calls  t266 t267 t268 _ A44.out).mono ?_); rintro e w45 ⟨rfl, hb⟩; replace BK265 := bB BK265 hb; replace HB := bS HB hb; (try clear hb); obtain ⟨hcz46_0, hcz46_1, hcz46_2, hfz46_0, hfz46_1, hfz46_2⟩ := bK3 (w := w45) BK265)); try go_wp2_with (first | (go_at_call 52; (with_reducible refine (impl_Base.calls  t266 t267 t268 _ A44.out).mono ?_); rintro e w45 ⟨rfl, hb⟩; replace BK265 := bB BK265 hb; replace HB := bS HB hb; (try clear hb); obtain ⟨hcz46_0, hcz46_1, hcz46_2, hfz46_0, hfz46_1, hfz46_2⟩ := bK3 (w := w45) BK265)))
    refine rC gb265 23 #[.int .i64 t266, .int .i64 t267, .bool t268] (bU BK265) Tryd.underlying23 ?_
    exact ⟨rR, bZ HB⟩
/-! ### impl_InGroup: function 67 -/
def impl_InGroup.f (k : Nat) (a0_0 : Int) (a0_1 : Int) (a0_2 : Bool) : Option (Bool) := (impl_PointOk.f a0_0 a0_1 a0_2).bind fun t450 => (if t450 = true then ((impl_PointTimes.f k 1009 a0_0 a0_1 a0_2).bind fun bt451 => (some bt451.2.2)) else (some false))
theorem impl_InGroup.mono : ∀ a0 a1 a2 k, LeO (impl_InGroup.f k a0 a1 a2) (impl_InGroup.f (k + 1) a0 a1 a2) := by
 intro a0 a1 a2 k
 unfold impl_InGroup.f
 repeat' first
   | (with_reducible exact impl_PointTimes.mono _ _ _ _ _)
   | (with_reducible exact LeO.refl _)
   | (with_reducible exact LeO.none _)
   | (with_reducible refine LeO.ite ?_ ?_)
   | (with_reducible refine LeO.bind ?_ (fun _ => ?_))
   | exact impl_PointTimes.mono _ _ _ _ _
   | exact LeO.none _
   | refine LeO.ite ?_ ?_
   | refine LeO.bind ?_ (fun _ => ?_)
set_option maxHeartbeats 8000000 in
set_option maxRecDepth 100000 in
theorem impl_InGroup.calls (k : Nat) (a0_0 : Int) (a0_1 : Int) (a0_2 : Bool) (r : Bool) (w : World) (h : impl_InGroup.f k a0_0 a0_1 a0_2 = some r) :
  Calls Tryd.prog 67 #[.agg #[.int .i64 a0_0, .int .i64 a0_1, .bool a0_2]] w fun e w' => e = .returned (.bool r) ∧ Below w.heap.size w w' := by
 have hu23 := Tryd.underlying23
 have hfd23_0 : ∀ (x0 : Int) (x1 : Int) (x2 : Bool) (w_ : World), (Instr.field 23 (.agg #[.int .i64 x0, .int .i64 x1, .bool x2]) 0).run Tryd.prog w_ = .ok (.int .i64 x0) w_ := fun _ _ _ _ => by kernel_rfl
 have hfd23_1 : ∀ (x0 : Int) (x1 : Int) (x2 : Bool) (w_ : World), (Instr.field 23 (.agg #[.int .i64 x0, .int .i64 x1, .bool x2]) 1).run Tryd.prog w_ = .ok (.int .i64 x1) w_ := fun _ _ _ _ => by kernel_rfl
 have hfd23_2 : ∀ (x0 : Int) (x1 : Int) (x2 : Bool) (w_ : World), (Instr.field 23 (.agg #[.int .i64 x0, .int .i64 x1, .bool x2]) 2).run Tryd.prog w_ = .ok (.bool x2) w_ := fun _ _ _ _ => by kernel_rfl
 have HB := Aside0.mk (Below.refl w.heap.size w)
 have H : ((impl_PointOk.f a0_0 a0_1 a0_2).bind fun t450 => (if t450 = true then ((impl_PointTimes.f k 1009 a0_0 a0_1 a0_2).bind fun bt451 => (some bt451.2.2)) else (some false))) = some r := h
 clear h
 replace H := Option.bind_eq_some_iff.mp H
 obtain ⟨t450, A20, H⟩ := H
 have A2 := Aside0.mk A20
 clear A20
 by_cases c3 : t450 = true
 ·subst c3
  rw [if_pos rfl] at H
  replace H := Option.bind_eq_some_iff.mp H
  obtain ⟨⟨t451, t452, t453⟩, A40, H⟩ := H
  have A4 := Aside0.mk A40
  clear A40
  obtain rfl := Option.some.inj H
  go_enter Tryd.func67, Tryd.ntmps67
  go_wp2_with (first | ((with_reducible refine gate_dst (N := 1) rfl ?_); refine bE 1 #[.int .i64 a0_0, .int .i64 a0_1, .bool a0_2] 23 ?_; intro gb449 hg w5 hbox hb; have BK449 := Aside0.mk (hbox); have GW449 := bG HB hg; have GE449 := bG HB hg; replace HB := bS HB hb; clear hb hbox hg; obtain ⟨hcz6_0, hcz6_1, hcz6_2, hfz6_0, hfz6_1, hfz6_2⟩ := bK3 (w := w5) BK449) | ((with_reducible refine gate_callee (f := 97) rfl ?_); refine gL (some 4) Tryd.func97 #[.agg #[.int .i64 a0_0, .int .i64 a0_1, .bool a0_2]] ?_; (with_reducible refine (impl_PointOk.calls a0_0 a0_1 a0_2 true _ A2.out).mono ?_); rintro e w7 ⟨rfl, hb⟩; refine ⟨_, rfl, ?_⟩; replace BK449 := bB BK449 hb; replace HB := bS HB hb; (try clear hb); obtain ⟨hcz8_0, hcz8_1, hcz8_2, hfz8_0, hfz8_1, hfz8_2⟩ := bK3 (w := w7) BK449) | (go_at_call 51; (with_reducible refine (impl_PointTimes.calls k 1009 a0_0 a0_1 a0_2 t451 t452 t453 _ A4.out).mono ?_); rintro e w9 ⟨rfl, hb⟩; replace BK449 := bB BK449 hb; replace HB := bS HB hb; (try clear hb)))
  go_ret
  exact ⟨rR, bZ HB⟩
 ·replace c3 := Bool.eq_false_iff.mpr c3
  subst c3
  rw [if_neg (show ¬ (false = true) by decide)] at H
  obtain rfl := Option.some.inj H
  go_enter Tryd.func67, Tryd.ntmps67
  go_wp2_with (first | ((with_reducible refine gate_dst (N := 1) rfl ?_); refine bE 1 #[.int .i64 a0_0, .int .i64 a0_1, .bool a0_2] 23 ?_; intro gb449 hg w10 hbox hb; have BK449 := Aside0.mk (hbox); have GW449 := bG HB hg; have GE449 := bG HB hg; replace HB := bS HB hb; clear hb hbox hg; obtain ⟨hcz11_0, hcz11_1, hcz11_2, hfz11_0, hfz11_1, hfz11_2⟩ := bK3 (w := w10) BK449) | ((with_reducible refine gate_callee (f := 97) rfl ?_); refine gL (some 4) Tryd.func97 #[.agg #[.int .i64 a0_0, .int .i64 a0_1, .bool a0_2]] ?_; (with_reducible refine (impl_PointOk.calls a0_0 a0_1 a0_2 false _ A2.out).mono ?_); rintro e w12 ⟨rfl, hb⟩; refine ⟨_, rfl, ?_⟩; replace BK449 := bB BK449 hb; replace HB := bS HB hb; (try clear hb)))
  go_ret
  exact ⟨rR, bZ HB⟩
/-! ### impl_TwoMul: function 109 -/
def impl_TwoMul.f (a0_0 : Int) (a0_1 : Int) (a1_0 : Int) (a1_1 : Int) : Option (Int × Int) := (impl_FpMul.f a0_0 a1_0).bind fun t617 => ((impl_FpMul.f a0_1 a1_1).bind fun t618 => ((impl_FpSub.f t617 t618).bind fun t619 => ((impl_FpMul.f a0_0 a1_1).bind fun t620 => ((impl_FpMul.f a0_1 a1_0).bind fun t621 => ((impl_FpAdd.f t620 t621).bind fun t622 => (some (t619, t622)))))))
def impl_TwoMul.T1 : Bool × List (List Nat × List Nat) := (true, [([], []), ([0], [0]), ([], []), ([2], [2]), ([1, 3], [1, 3]), ([], []), ([5], [5]), ([], []), ([7], [7]), ([6, 8, 4], [6, 8]), ([4, 9, 9], [4, 9]), ([], []), ([11], [11]), ([], []), ([13], [13]), ([12, 14, 10], [12, 14]), ([], []), ([16], [16]), ([], []), ([18], [18]), ([17, 19, 15], [17, 19]), ([15, 20, 20], [15, 20]), ([10, 21], [10, 21]), ([22, 21, 0, 1, 2, 3, 4, 5, 6, 7, 8, 9, 10, 11, 12, 13, 14, 15, 16, 17, 18, 19, 20, 21, 22], [22])])
def impl_TwoMul.B1 : List Nat := [0, 1, 0, 4, 15, 0, 32, 0, 128, 511, 1023, 0, 2048, 0, 8192, 32767, 0, 65536, 0, 262144, 1048575, 2097151, 4194303, 8388607]
theorem impl_TwoMul.tab1 : rtab .any (opsOf Tryd.f109 1) = impl_TwoMul.T1 := by kernel_rfl
theorem impl_TwoMul.bits1 : waitsOk impl_TwoMul.T1.2 impl_TwoMul.B1 = true := by kernel_rfl
set_option maxHeartbeats 8000000 in
set_option maxRecDepth 100000 in
theorem impl_TwoMul.calls (a0_0 : Int) (a0_1 : Int) (a1_0 : Int) (a1_1 : Int) (r1 : Int) (r2 : Int) (w : World) (h : impl_TwoMul.f a0_0 a0_1 a1_0 a1_1 = some (r1, r2)) :
  Calls Tryd.prog 109 #[.agg #[.int .i64 a0_0, .int .i64 a0_1], .agg #[.int .i64 a1_0, .int .i64 a1_1]] w fun e w' => e = .returned (.agg #[.int .i64 r1, .int .i64 r2]) ∧ Below w.heap.size w w' := by
 have hu80 := Tryd.underlying80
 have HB := Aside0.mk (Below.refl w.heap.size w)
 have H : ((impl_FpMul.f a0_0 a1_0).bind fun t617 => ((impl_FpMul.f a0_1 a1_1).bind fun t618 => ((impl_FpSub.f t617 t618).bind fun t619 => ((impl_FpMul.f a0_0 a1_1).bind fun t620 => ((impl_FpMul.f a0_1 a1_0).bind fun t621 => ((impl_FpAdd.f t620 t621).bind fun t622 => (some (t619, t622)))))))) = some (r1, r2) := h
 clear h
 replace H := Option.bind_eq_some_iff.mp H
 obtain ⟨t617, A30, H⟩ := H
 have A3 := Aside0.mk A30
 clear A30
 replace H := Option.bind_eq_some_iff.mp H
 obtain ⟨t618, A40, H⟩ := H
 have A4 := Aside0.mk A40
 clear A40
 replace H := Option.bind_eq_some_iff.mp H
 obtain ⟨t619, A50, H⟩ := H
 have A5 := Aside0.mk A50
 clear A50
 replace H := Option.bind_eq_some_iff.mp H
 obtain ⟨t620, A60, H⟩ := H
 have A6 := Aside0.mk A60
 clear A60
 replace H := Option.bind_eq_some_iff.mp H
 obtain ⟨t621, A70, H⟩ := H
 have A7 := Aside0.mk A70
 clear A70
 replace H := Option.bind_eq_some_iff.mp H
 obtain ⟨t622, A80, H⟩ := H
 have A8 := Aside0.mk A80
 clear A80
 simp only [Option.some.injEq, Prod.mk.injEq] at H
 obtain ⟨rfl, rfl⟩ := H
 go_enter Tryd.func109, Tryd.ntmps109
 try go_wp2_with (first | ((with_reducible refine gate_dst (N := 2) rfl ?_); refine bE 2 #[.int .i64 a0_0, .int .i64 a0_1] 80 ?_; intro gb614 hg w9 hbox hb; have BK614 := Aside0.mk (hbox); have GW614 := bG HB hg; have GE614 := bG HB hg; replace HB := bS HB hb; clear hb hbox hg) | ((with_reducible refine gate_dst (N := 3) rfl ?_); refine bE 3 #[.int .i64 a1_0, .int .i64 a1_1] 80 ?_; intro gb615 hg w10 hbox hb; have BK615 := Aside0.mk (hbox); have GW615 := bG HB hg; have GE615 := bG HB hg; replace HB := bS HB hb; have NB614_615 := bL BK614 hg; have NB615_614 := bR BK614 hg; replace BK614 := bB BK614 hb; clear hb hbox hg) | ((with_reducible refine gate_dst (N := 4) rfl ?_); refine bE 4 #[.int .i64 0, .int .i64 0] 80 ?_; intro gb616 hg w11 hbox hb; have BK616 := Aside0.mk (hbox); have GW616 := bG HB hg; have GE616 := bG HB hg; replace HB := bS HB hb; have NB614_616 := bL BK614 hg; have NB616_614 := bR BK614 hg; replace BK614 := bB BK614 hb; have NB615_616 := bL BK615 hg; have NB616_615 := bR BK615 hg; replace BK615 := bB BK615 hb; clear hb hbox hg))
 replace BK614 := Aside0.mk (blk_drew BK614.out)
 replace BK615 := Aside0.mk (blk_drew BK615.out)
 replace BK616 := Aside0.mk (blk_drew BK616.out)
 replace HB := Aside0.mk (below_drew1 HB.out)
 refine start_ (n := 24) (S := fun w' => w'.cell? ⟨gb614, 0, none⟩ = some (.int .i64 a0_0) ∧ w'.cell? ⟨gb614, 1, none⟩ = some (.int .i64 a0_1) ∧ w'.cell? ⟨gb615, 0, none⟩ = some (.int .i64 a1_0) ∧ w'.cell? ⟨gb615, 1, none⟩ = some (.int .i64 a1_1)) (ds := []) #[false, false, false, false, false, false, false, false, false, false, false, false, false, false, false, false, false, false, false, false, false, false, false, false] (by kernel_rfl) rfl rfl ⟨bc BK614 0, bc BK614 1, bc BK615 0, bc BK615 1⟩ (fun hHeld => ?_); refine with_tabW impl_TwoMul.tab1 impl_TwoMul.bits1 (fun HT_ HW_ => ?_)
 generalize w11.drew = w12 at BK614 BK615 BK616 HB hHeld ⊢
 refine pI 0 (some 5) HT_.out ?_
 refine pI 2 (some 7) HT_.out ?_
 refine pI 5 (some 10) HT_.out ?_
 refine pI 7 (some 12) HT_.out ?_
 refine pI 11 (some 16) HT_.out ?_
 refine pI 13 (some 18) HT_.out ?_
 refine pI 16 (some 21) HT_.out ?_
 refine pI 18 (some 23) HT_.out ?_
 refine tI4 1 (some 6) HT_.out HW_.out hHeld ?_
 refine tI4 3 (some 8) HT_.out HW_.out hHeld ?_
 refine tI4 6 (some 11) HT_.out HW_.out hHeld ?_
 refine tI4 8 (some 13) HT_.out HW_.out hHeld ?_
 refine tI4 12 (some 17) HT_.out HW_.out hHeld ?_
 refine tI4 14 (some 19) HT_.out HW_.out hHeld ?_
 refine tI4 17 (some 22) HT_.out HW_.out hHeld ?_
 refine tI4 19 (some 24) HT_.out HW_.out hHeld ?_
 refine oI 4 (some 9) HT_.out (fun K hK => ?_)
 refine gO Tryd.func95 #[.int .i64 a0_0, .int .i64 a1_0] ?_
 with_reducible refine (impl_FpMul.calls a0_0 a1_0 t617 _ A3.out).mono ?_
 rintro e w' ⟨rfl, ⟨nd, rfl⟩⟩
 refine ⟨_, rfl, ?_⟩
 refine hK.out _ _ ⟨bc BK614 0, bc BK614 1, bc BK615 0, bc BK615 1⟩ (fun hHeld => ?_)
 clear hK K
 refine nO (some 9) ?_
 refine oI 9 (some 14) HT_.out (fun K hK => ?_)
 refine gO Tryd.func95 #[.int .i64 a0_1, .int .i64 a1_1] ?_
 with_reducible refine (impl_FpMul.calls a0_1 a1_1 t618 _ A4.out).mono ?_
 rintro e w' ⟨rfl, ⟨nd, rfl⟩⟩
 refine ⟨_, rfl, ?_⟩
 refine hK.out _ _ ⟨bc BK614 0, bc BK614 1, bc BK615 0, bc BK615 1⟩ (fun hHeld => ?_)
 clear hK K
 refine nO (some 14) ?_
 refine oI 10 (some 15) HT_.out (fun K hK => ?_)
 refine gO Tryd.func126 #[.int .i64 t617, .int .i64 t618] ?_
 with_reducible refine (impl_FpSub.calls t617 t618 t619 _ A5.out).mono ?_
 rintro e w' ⟨rfl, ⟨nd, rfl⟩⟩
 refine ⟨_, rfl, ?_⟩
 refine hK.out _ _ ⟨bc BK614 0, bc BK614 1, bc BK615 0, bc BK615 1⟩ (fun hHeld => ?_)
 clear hK K
 refine nO (some 15) ?_
 refine oI 15 (some 20) HT_.out (fun K hK => ?_)
 refine gO Tryd.func95 #[.int .i64 a0_0, .int .i64 a1_1] ?_
 with_reducible refine (impl_FpMul.calls a0_0 a1_1 t620 _ A6.out).mono ?_
 rintro e w' ⟨rfl, ⟨nd, rfl⟩⟩
 refine ⟨_, rfl, ?_⟩
 refine hK.out _ _ ⟨bc BK614 0, bc BK614 1, bc BK615 0, bc BK615 1⟩ (fun hHeld => ?_)
 clear hK K
 refine nO (some 20) ?_
 refine oI 20 (some 25) HT_.out (fun K hK => ?_)
 refine gO Tryd.func95 #[.int .i64 a0_1, .int .i64 a1_0] ?_
 with_reducible refine (impl_FpMul.calls a0_1 a1_0 t621 _ A7.out).mono ?_
 rintro e w' ⟨rfl, ⟨nd, rfl⟩⟩
 refine ⟨_, rfl, ?_⟩
 refine hK.out _ _ ⟨bc BK614 0, bc BK614 1, bc BK615 0, bc BK615 1⟩ (fun hHeld => ?_)
 clear hK K
 refine nO (some 25) ?_
 refine oI 21 (some 26) HT_.out (fun K hK => ?_)
 refine gO Tryd.func96 #[.int .i64 t620, .int .i64 t621] ?_
 with_reducible refine (impl_FpAdd.calls t620 t621 t622 _ A8.out).mono ?_
 rintro e w' ⟨rfl, ⟨nd, rfl⟩⟩
 refine ⟨_, rfl, ?_⟩
 refine hK.out _ _ ⟨bc BK614 0, bc BK614 1, bc BK615 0, bc BK615 1⟩ (fun hHeld => ?_)
 clear hK K
 refine nO (some 26) ?_
 refine pI 22 (some 27) HT_.out ?_
 refine oI 23 (none) HT_.out (fun K hK => ?_)
 have hs13 : w12.cell? ⟨gb616, 0, none⟩ = some (.int .i64 0) := bc BK616 0
 have hfs13 := blk_frozen BK616.out 0
 have hns13_0 := NB614_616.out
 have hns13_1 := NB615_616.out
 have hms13_0 := NB616_614.out
 have hms13_1 := NB616_615.out
 have hs14 : w12.cell? ⟨gb616, 1, none⟩ = some (.int .i64 0) := bc BK616 1
 have hfs14 := blk_frozen BK616.out 1
 have hns14_0 := NB614_616.out
 have hns14_1 := NB615_616.out
 have hms14_0 := NB616_614.out
 have hms14_1 := NB616_615.out
 refine skip_ (w1 := ?_) (by rfl) rfl ?_ ?_
 rotate_left
 ·go_simp
  rfl
 refine hK.out _ _ ⟨((cell_far (p := ⟨gb616, _, none⟩) NB614_616.out _).trans (((cell_far (p := ⟨gb616, _, none⟩) NB614_616.out _).trans (hHeld.1)))), ((cell_far (p := ⟨gb616, _, none⟩) NB614_616.out _).trans (((cell_far (p := ⟨gb616, _, none⟩) NB614_616.out _).trans (hHeld.2.1)))), ((cell_far (p := ⟨gb616, _, none⟩) NB615_616.out _).trans (((cell_far (p := ⟨gb616, _, none⟩) NB615_616.out _).trans (hHeld.2.2.1)))), ((cell_far (p := ⟨gb616, _, none⟩) NB615_616.out _).trans (((cell_far (p := ⟨gb616, _, none⟩) NB615_616.out _).trans (hHeld.2.2.2))))⟩ (fun hHeld => ?_)
 clear hK K
 refine done_ (done_of HT_.out (by kernel_rfl)) ?_
 try go_wp2
 refine rC gb616 80 #[.int .i64 t619, .int .i64 t622] (bU BK616) Tryd.underlying80 ?_
 exact ⟨rR, bZ HB⟩
/-! ### impl_PointAdd: function 59 -/
def impl_PointAdd.f (k : Nat) (a0_0 : Int) (a0_1 : Int) (a0_2 : Bool) (a1_0 : Int) (a1_1 : Int) (a1_2 : Bool) : Option (Int × Int × Bool) := (impl_PointOk.f a0_0 a0_1 a0_2).bind fun t347 => (if t347 = true then ((impl_PointOk.f a1_0 a1_1 a1_2).bind fun t348 => (if t348 = true then ((impl_add.f k a0_0 a0_1 a0_2 a1_0 a1_1 a1_2).bind fun bt349 => (some (bt349.1, bt349.2.1, bt349.2.2))) else (some (0, 0, true)))) else (some (0, 0, true)))
theorem impl_PointAdd.mono : ∀ a0 a1 a2 a3 a4 a5 k, LeO (impl_PointAdd.f k a0 a1 a2 a3 a4 a5) (impl_PointAdd.f (k + 1) a0 a1 a2 a3 a4 a5) := by
 intro a0 a1 a2 a3 a4 a5 k
 unfold impl_PointAdd.f
 repeat' first
   | (with_reducible exact impl_add.mono _ _ _ _ _ _ _)
   | (with_reducible exact LeO.refl _)
   | (with_reducible exact LeO.none _)
   | (with_reducible refine LeO.ite ?_ ?_)
   | (with_reducible refine LeO.bind ?_ (fun _ => ?_))
   | exact impl_add.mono _ _ _ _ _ _ _
   | exact LeO.none _
   | refine LeO.ite ?_ ?_
   | refine LeO.bind ?_ (fun _ => ?_)
set_option maxHeartbeats 8000000 in
set_option maxRecDepth 100000 in
theorem impl_PointAdd.calls (k : Nat) (a0_0 : Int) (a0_1 : Int) (a0_2 : Bool) (a1_0 : Int) (a1_1 : Int) (a1_2 : Bool) (r1 : Int) (r2 : Int) (r3 : Bool) (w : World) (h : impl_PointAdd.f k a0_0 a0_1 a0_2 a1_0 a1_1 a1_2 = some (r1, r2, r3)) :
  Calls Tryd.prog 59 #[.agg #[.int .i64 a0_0, .int .i64 a0_1, .bool a0_2], .agg #[.int .i64 a1_0, .int .i64 a1_1, .bool a1_2]] w fun e w' => e = .returned (.agg #[.int .i64 r1, .int .i64 r2, .bool r3]) ∧ Below w.heap.size w w' := by
 have hu23 := Tryd.underlying23
 have HB := Aside0.mk (Below.refl w.heap.size w)
 have H : ((impl_PointOk.f a0_0 a0_1 a0_2).bind fun t347 => (if t347 = true then ((impl_PointOk.f a1_0 a1_1 a1_2).bind fun t348 => (if t348 = true then ((impl_add.f k a0_0 a0_1 a0_2 a1_0 a1_1 a1_2).bind fun bt349 => (some (bt349.1, bt349.2.1, bt349.2.2))) else (some (0, 0, true)))) else (some (0, 0, true)))) = some (r1, r2, r3) := h
 clear h
 replace H := Option.bind_eq_some_iff.mp H
 obtain ⟨t347, A30, H⟩ := H
 have A3 := Aside0.mk A30
 clear A30
 by_cases c4 : t347 = true
 ·subst c4
  rw [if_pos rfl] at H
  replace H := Option.bind_eq_some_iff.mp H
  obtain ⟨t348, A50, H⟩ := H
  have A5 := Aside0.mk A50
  clear A50
  by_cases c6 : t348 = true
  ·subst c6
   rw [if_pos rfl] at H
   replace H := Option.bind_eq_some_iff.mp H
   obtain ⟨⟨t349, t350, t351⟩, A70, H⟩ := H
   have A7 := Aside0.mk A70
   clear A70
   simp only [Option.some.injEq, Prod.mk.injEq] at H
   obtain ⟨rfl, rfl, rfl⟩ := H
   go_enter Tryd.func59, Tryd.ntmps59
   go_wp2_with (first | ((with_reducible refine gate_dst (N := 2) rfl ?_); refine bE 2 #[.int .i64 a0_0, .int .i64 a0_1, .bool a0_2] 23 ?_; intro gb344 hg w8 hbox hb; have BK344 := Aside0.mk (hbox); have GW344 := bG HB hg; have GE344 := bG HB hg; replace HB := bS HB hb; clear hb hbox hg) | ((with_reducible refine gate_dst (N := 3) rfl ?_); refine bE 3 #[.int .i64 a1_0, .int .i64 a1_1, .bool a1_2] 23 ?_; intro gb345 hg w9 hbox hb; have BK345 := Aside0.mk (hbox); have GW345 := bG HB hg; have GE345 := bG HB hg; replace HB := bS HB hb; have NB344_345 := bL BK344 hg; have NB345_344 := bR BK344 hg; replace BK344 := bB BK344 hb; clear hb hbox hg) | ((with_reducible refine gate_dst (N := 4) rfl ?_); refine bE 4 #[.int .i64 0, .int .i64 0, .bool false] 23 ?_; intro gb346 hg w10 hbox hb; have BK346 := Aside0.mk (hbox); have GW346 := bG HB hg; have GE346 := bG HB hg; replace HB := bS HB hb; have NB344_346 := bL BK344 hg; have NB346_344 := bR BK344 hg; replace BK344 := bB BK344 hb; have NB345_346 := bL BK345 hg; have NB346_345 := bR BK345 hg; replace BK345 := bB BK345 hb; clear hb hbox hg; have hnb11 := NB344_345.out; have hnc11 := NB345_344.out; have hnb12 := NB344_346.out; have hnc12 := NB346_344.out; obtain ⟨hcz13_0, hcz13_1, hcz13_2, hfz13_0, hfz13_1, hfz13_2⟩ := bK3 (w := w10) BK344) | ((with_reducible refine gate_callee (f := 97) rfl ?_); refine gL (some 6) Tryd.func97 #[.agg #[.int .i64 a0_0, .int .i64 a0_1, .bool a0_2]] ?_; (with_reducible refine (impl_PointOk.calls a0_0 a0_1 a0_2 true _ A3.out).mono ?_); rintro e w14 ⟨rfl, hb⟩; refine ⟨_, rfl, ?_⟩; replace BK344 := bB BK344 hb; replace BK345 := bB BK345 hb; replace BK346 := bB BK346 hb; replace HB := bS HB hb; (try clear hb); have hnb15 := NB345_346.out; have hnc15 := NB346_345.out; obtain ⟨hcz16_0, hcz16_1, hcz16_2, hfz16_0, hfz16_1, hfz16_2⟩ := bK3 (w := w14) BK345) | (go_at_call 97; (with_reducible refine (impl_PointOk.calls a1_0 a1_1 a1_2 true _ A5.out).mono ?_); rintro e w17 ⟨rfl, hb⟩; replace BK344 := bB BK344 hb; replace BK345 := bB BK345 hb; replace BK346 := bB BK346 hb; replace HB := bS HB hb; (try clear hb); obtain ⟨hcz18_0, hcz18_1, hcz18_2, hfz18_0, hfz18_1, hfz18_2⟩ := bK3 (w := w17) BK344; obtain ⟨hcz19_0, hcz19_1, hcz19_2, hfz19_0, hfz19_1, hfz19_2⟩ := bK3 (w := w17) BK345) | ((with_reducible refine gate_callee (f := 98) rfl ?_); refine gL (some 16) Tryd.func98 #[.agg #[.int .i64 a0_0, .int .i64 a0_1, .bool a0_2], .agg #[.int .i64 a1_0, .int .i64 a1_1, .bool a1_2]] ?_; (with_reducible refine (impl_add.calls k a0_0 a0_1 a0_2 a1_0 a1_1 a1_2 t349 t350 t351 _ A7.out).mono ?_); rintro e w20 ⟨rfl, hb⟩; refine ⟨_, rfl, ?_⟩; replace BK344 := bB BK344 hb; replace BK345 := bB BK345 hb; replace BK346 := bB BK346 hb; replace HB := bS HB hb; (try clear hb); obtain ⟨hcz21_0, hcz21_1, hcz21_2, hfz21_0, hfz21_1, hfz21_2⟩ := bK3 (w := w20) BK346))
   refine rC gb346 23 #[.int .i64 t349, .int .i64 t350, .bool t351] (bU BK346) Tryd.underlying23 ?_
   exact ⟨rR, bZ HB⟩
  ·replace c6 := Bool.eq_false_iff.mpr c6
   subst c6
   rw [if_neg (show ¬ (false = true) by decide)] at H
   simp only [Option.some.injEq, Prod.mk.injEq] at H
   obtain ⟨rfl, rfl, rfl⟩ := H
   go_enter Tryd.func59, Tryd.ntmps59
   go_wp2_with (first | ((with_reducible refine gate_dst (N := 2) rfl ?_); refine bE 2 #[.int .i64 a0_0, .int .i64 a0_1, .bool a0_2] 23 ?_; intro gb344 hg w22 hbox hb; have BK344 := Aside0.mk (hbox); have GW344 := bG HB hg; have GE344 := bG HB hg; replace HB := bS HB hb; clear hb hbox hg) | ((with_reducible refine gate_dst (N := 3) rfl ?_); refine bE 3 #[.int .i64 a1_0, .int .i64 a1_1, .bool a1_2] 23 ?_; intro gb345 hg w23 hbox hb; have BK345 := Aside0.mk (hbox); have GW345 := bG HB hg; have GE345 := bG HB hg; replace HB := bS HB hb; have NB344_345 := bL BK344 hg; have NB345_344 := bR BK344 hg; replace BK344 := bB BK344 hb; clear hb hbox hg) | ((with_reducible refine gate_dst (N := 4) rfl ?_); refine bE 4 #[.int .i64 0, .int .i64 0, .bool false] 23 ?_; intro gb346 hg w24 hbox hb; have BK346 := Aside0.mk (hbox); have GW346 := bG HB hg; have GE346 := bG HB hg; replace HB := bS HB hb; have NB344_346 := bL BK344 hg; have NB346_344 := bR BK344 hg; replace BK344 := bB BK344 hb; have NB345_346 := bL BK345 hg; have NB346_345 := bR BK345 hg; replace BK345 := bB BK345 hb; clear hb hbox hg; have hnb25 := NB344_345.out; have hnc25 := NB345_344.out; have hnb26 := NB344_346.out; have hnc26 := NB346_344.out; obtain ⟨hcz27_0, hcz27_1, hcz27_2, hfz27_0, hfz27_1, hfz27_2⟩ := bK3 (w := w24) BK344) | ((with_reducible refine gate_callee (f := 97) rfl ?_); refine gL (some 6) Tryd.func97 #[.agg #[.int .i64 a0_0, .int .i64 a0_1, .bool a0_2]] ?_; (with_reducible refine (impl_PointOk.calls a0_0 a0_1 a0_2 true _ A3.out).mono ?_); rintro e w28 ⟨rfl, hb⟩; refine ⟨_, rfl, ?_⟩; replace BK344 := bB BK344 hb; replace BK345 := bB BK345 hb; replace BK346 := bB BK346 hb; replace HB := bS HB hb; (try clear hb); have hnb29 := NB345_346.out; have hnc29 := NB346_345.out; obtain ⟨hcz30_0, hcz30_1, hcz30_2, hfz30_0, hfz30_1, hfz30_2⟩ := bK3 (w := w28) BK345) | (go_at_call 97; (with_reducible refine (impl_PointOk.calls a1_0 a1_1 a1_2 false _ A5.out).mono ?_); rintro e w31 ⟨rfl, hb⟩; replace BK344 := bB BK344 hb; replace BK345 := bB BK345 hb; replace BK346 := bB BK346 hb; replace HB := bS HB hb; (try clear hb); obtain ⟨hcz32_0, hcz32_1, hcz32_2, hfz32_0, hfz32_1, hfz32_2⟩ := bK3 (w := w31) BK346))
   refine rC gb346 23 #[.int .i64 0, .int .i64 0, .bool true] (bU BK346) Tryd.underlying23 ?_
   exact ⟨rR, bZ HB⟩
 ·replace c4 := Bool.eq_false_iff.mpr c4
  subst c4
  rw [if_neg (show ¬ (false = true) by decide)] at H
  simp only [Option.some.injEq, Prod.mk.injEq] at H
  obtain ⟨rfl, rfl, rfl⟩ := H
  go_enter Tryd.func59, Tryd.ntmps59
  go_wp2_with (first | ((with_reducible refine gate_dst (N := 2) rfl ?_); refine bE 2 #[.int .i64 a0_0, .int .i64 a0_1, .bool a0_2] 23 ?_; intro gb344 hg w33 hbox hb; have BK344 := Aside0.mk (hbox); have GW344 := bG HB hg; have GE344 := bG HB hg; replace HB := bS HB hb; clear hb hbox hg) | ((with_reducible refine gate_dst (N := 3) rfl ?_); refine bE 3 #[.int .i64 a1_0, .int .i64 a1_1, .bool a1_2] 23 ?_; intro gb345 hg w34 hbox hb; have BK345 := Aside0.mk (hbox); have GW345 := bG HB hg; have GE345 := bG HB hg; replace HB := bS HB hb; have NB344_345 := bL BK344 hg; have NB345_344 := bR BK344 hg; replace BK344 := bB BK344 hb; clear hb hbox hg) | ((with_reducible refine gate_dst (N := 4) rfl ?_); refine bE 4 #[.int .i64 0, .int .i64 0, .bool false] 23 ?_; intro gb346 hg w35 hbox hb; have BK346 := Aside0.mk (hbox); have GW346 := bG HB hg; have GE346 := bG HB hg; replace HB := bS HB hb; have NB344_346 := bL BK344 hg; have NB346_344 := bR BK344 hg; replace BK344 := bB BK344 hb; have NB345_346 := bL BK345 hg; have NB346_345 := bR BK345 hg; replace BK345 := bB BK345 hb; clear hb hbox hg; have hnb36 := NB344_345.out; have hnc36 := NB345_344.out; have hnb37 := NB344_346.out; have hnc37 := NB346_344.out; obtain ⟨hcz38_0, hcz38_1, hcz38_2, hfz38_0, hfz38_1, hfz38_2⟩ := bK3 (w := w35) BK344) | ((with_reducible refine gate_callee (f := 97) rfl ?_); refine gL (some 6) Tryd.func97 #[.agg #[.int .i64 a0_0, .int .i64 a0_1, .bool a0_2]] ?_; (with_reducible refine (impl_PointOk.calls a0_0 a0_1 a0_2 false _ A3.out).mono ?_); rintro e w39 ⟨rfl, hb⟩; refine ⟨_, rfl, ?_⟩; replace BK344 := bB BK344 hb; replace BK345 := bB BK345 hb; replace BK346 := bB BK346 hb; replace HB := bS HB hb; (try clear hb); have hnb40 := NB346_345.out; have hnc40 := NB345_346.out; obtain ⟨hcz41_0, hcz41_1, hcz41_2, hfz41_0, hfz41_1, hfz41_2⟩ := bK3 (w := w39) BK346))
  refine rC gb346 23 #[.int .i64 0, .int .i64 0, .bool true] (bU BK346) Tryd.underlying23 ?_
  exact ⟨rR, bZ HB⟩
/-! ### bits_Len64: function 144 -/
def bits_Len64.j0 : Nat → Int → Int → Option (Int)
 | 0, _, _ => none
 | k + 1, x0, x2 => if x0 ≥ 65536 then (if (x0 / 65536) ≥ 256 then (if 0 ≤ (((x0 / 65536) / 256) % 256) then (if (((x0 / 65536) / 256) % 256) < 256 then (some (wrap64 ((wrap64 ((wrap64 (x2 + 16)) + 8)) + (wrap64 (bt (⟨#[0, 1, 2, 2, 3, 3, 3, 3, 4, 4, 4, 4, 4, 4, 4, 4, 5, 5, 5, 5, 5, 5, 5, 5, 5, 5, 5, 5, 5, 5, 5, 5, 6, 6, 6, 6, 6, 6, 6, 6, 6, 6, 6, 6, 6, 6, 6, 6, 6, 6, 6, 6, 6, 6, 6, 6, 6, 6, 6, 6, 6, 6, 6, 6, 7, 7, 7, 7, 7, 7, 7, 7, 7, 7, 7, 7, 7, 7, 7, 7, 7, 7, 7, 7, 7, 7, 7, 7, 7, 7, 7, 7, 7, 7, 7, 7, 7, 7, 7, 7, 7, 7, 7, 7, 7, 7, 7, 7, 7, 7, 7, 7, 7, 7, 7, 7, 7, 7, 7, 7, 7, 7, 7, 7, 7, 7, 7, 7, 8, 8, 8, 8, 8, 8, 8, 8, 8, 8, 8, 8, 8, 8, 8, 8, 8, 8, 8, 8, 8, 8, 8, 8, 8, 8, 8, 8, 8, 8, 8, 8, 8, 8, 8, 8, 8, 8, 8, 8, 8, 8, 8, 8, 8, 8, 8, 8, 8, 8, 8, 8, 8, 8, 8, 8, 8, 8, 8, 8, 8, 8, 8, 8, 8, 8, 8, 8, 8, 8, 8, 8, 8, 8, 8, 8, 8, 8, 8, 8, 8, 8, 8, 8, 8, 8, 8, 8, 8, 8, 8, 8, 8, 8, 8, 8, 8, 8, 8, 8, 8, 8, 8, 8, 8, 8, 8, 8, 8, 8, 8, 8, 8, 8, 8, 8, 8, 8, 8, 8, 8, 8, 8, 8, 8, 8, 8, 8]⟩ : ByteArray) (((x0 / 65536) / 256) % 256)))))) else (none)) else (none)) else (if 0 ≤ ((x0 / 65536) % 256) then (if ((x0 / 65536) % 256) < 256 then (some (wrap64 ((wrap64 (x2 + 16)) + (wrap64 (bt (⟨#[0, 1, 2, 2, 3, 3, 3, 3, 4, 4, 4, 4, 4, 4, 4, 4, 5, 5, 5, 5, 5, 5, 5, 5, 5, 5, 5, 5, 5, 5, 5, 5, 6, 6, 6, 6, 6, 6, 6, 6, 6, 6, 6, 6, 6, 6, 6, 6, 6, 6, 6, 6, 6, 6, 6, 6, 6, 6, 6, 6, 6, 6, 6, 6, 7, 7, 7, 7, 7, 7, 7, 7, 7, 7, 7, 7, 7, 7, 7, 7, 7, 7, 7, 7, 7, 7, 7, 7, 7, 7, 7, 7, 7, 7, 7, 7, 7, 7, 7, 7, 7, 7, 7, 7, 7, 7, 7, 7, 7, 7, 7, 7, 7, 7, 7, 7, 7, 7, 7, 7, 7, 7, 7, 7, 7, 7, 7, 7, 8, 8, 8, 8, 8, 8, 8, 8, 8, 8, 8, 8, 8, 8, 8, 8, 8, 8, 8, 8, 8, 8, 8, 8, 8, 8, 8, 8, 8, 8, 8, 8, 8, 8, 8, 8, 8, 8, 8, 8, 8, 8, 8, 8, 8, 8, 8, 8, 8, 8, 8, 8, 8, 8, 8, 8, 8, 8, 8, 8, 8, 8, 8, 8, 8, 8, 8, 8, 8, 8, 8, 8, 8, 8, 8, 8, 8, 8, 8, 8, 8, 8, 8, 8, 8, 8, 8, 8, 8, 8, 8, 8, 8, 8, 8, 8, 8, 8, 8, 8, 8, 8, 8, 8, 8, 8, 8, 8, 8, 8, 8, 8, 8, 8, 8, 8, 8, 8, 8, 8, 8, 8, 8, 8, 8, 8, 8, 8]⟩ : ByteArray) ((x0 / 65536) % 256)))))) else (none)) else (none))) else (if x0 ≥ 256 then (if 0 ≤ ((x0 / 256) % 256) then (if ((x0 / 256) % 256) < 256 then (some (wrap64 ((wrap64 (x2 + 8)) + (wrap64 (bt (⟨#[0, 1, 2, 2, 3, 3, 3, 3, 4, 4, 4, 4, 4, 4, 4, 4, 5, 5, 5, 5, 5, 5, 5, 5, 5, 5, 5, 5, 5, 5, 5, 5, 6, 6, 6, 6, 6, 6, 6, 6, 6, 6, 6, 6, 6, 6, 6, 6, 6, 6, 6, 6, 6, 6, 6, 6, 6, 6, 6, 6, 6, 6, 6, 6, 7, 7, 7, 7, 7, 7, 7, 7, 7, 7, 7, 7, 7, 7, 7, 7, 7, 7, 7, 7, 7, 7, 7, 7, 7, 7, 7, 7, 7, 7, 7, 7, 7, 7, 7, 7, 7, 7, 7, 7, 7, 7, 7, 7, 7, 7, 7, 7, 7, 7, 7, 7, 7, 7, 7, 7, 7, 7, 7, 7, 7, 7, 7, 7, 8, 8, 8, 8, 8, 8, 8, 8, 8, 8, 8, 8, 8, 8, 8, 8, 8, 8, 8, 8, 8, 8, 8, 8, 8, 8, 8, 8, 8, 8, 8, 8, 8, 8, 8, 8, 8, 8, 8, 8, 8, 8, 8, 8, 8, 8, 8, 8, 8, 8, 8, 8, 8, 8, 8, 8, 8, 8, 8, 8, 8, 8, 8, 8, 8, 8, 8, 8, 8, 8, 8, 8, 8, 8, 8, 8, 8, 8, 8, 8, 8, 8, 8, 8, 8, 8, 8, 8, 8, 8, 8, 8, 8, 8, 8, 8, 8, 8, 8, 8, 8, 8, 8, 8, 8, 8, 8, 8, 8, 8, 8, 8, 8, 8, 8, 8, 8, 8, 8, 8, 8, 8, 8, 8, 8, 8, 8, 8]⟩ : ByteArray) ((x0 / 256) % 256)))))) else (none)) else (none)) else (if 0 ≤ ((x0) % 256) then (if ((x0) % 256) < 256 then (some (wrap64 (x2 + (wrap64 (bt (⟨#[0, 1, 2, 2, 3, 3, 3, 3, 4, 4, 4, 4, 4, 4, 4, 4, 5, 5, 5, 5, 5, 5, 5, 5, 5, 5, 5, 5, 5, 5, 5, 5, 6, 6, 6, 6, 6, 6, 6, 6, 6, 6, 6, 6, 6, 6, 6, 6, 6, 6, 6, 6, 6, 6, 6, 6, 6, 6, 6, 6, 6, 6, 6, 6, 7, 7, 7, 7, 7, 7, 7, 7, 7, 7, 7, 7, 7, 7, 7, 7, 7, 7, 7, 7, 7, 7, 7, 7, 7, 7, 7, 7, 7, 7, 7, 7, 7, 7, 7, 7, 7, 7, 7, 7, 7, 7, 7, 7, 7, 7, 7, 7, 7, 7, 7, 7, 7, 7, 7, 7, 7, 7, 7, 7, 7, 7, 7, 7, 8, 8, 8, 8, 8, 8, 8, 8, 8, 8, 8, 8, 8, 8, 8, 8, 8, 8, 8, 8, 8, 8, 8, 8, 8, 8, 8, 8, 8, 8, 8, 8, 8, 8, 8, 8, 8, 8, 8, 8, 8, 8, 8, 8, 8, 8, 8, 8, 8, 8, 8, 8, 8, 8, 8, 8, 8, 8, 8, 8, 8, 8, 8, 8, 8, 8, 8, 8, 8, 8, 8, 8, 8, 8, 8, 8, 8, 8, 8, 8, 8, 8, 8, 8, 8, 8, 8, 8, 8, 8, 8, 8, 8, 8, 8, 8, 8, 8, 8, 8, 8, 8, 8, 8, 8, 8, 8, 8, 8, 8, 8, 8, 8, 8, 8, 8, 8, 8, 8, 8, 8, 8, 8, 8, 8, 8, 8, 8]⟩ : ByteArray) ((x0) % 256)))))) else (none)) else (none)))
def bits_Len64.f (k : Nat) (a0 : Int) : Option (Int) := if a0 ≥ 4294967296 then (bits_Len64.j0 k (a0 / 4294967296) 32) else (bits_Len64.j0 k a0 0)
theorem bits_Len64.mono_l : ∀ k, (∀ y0 y1, LeO (bits_Len64.j0 k y0 y1) (bits_Len64.j0 (k + 1) y0 y1))
 | 0 => fun _ _ r h => by simp [bits_Len64.j0] at h
 | k + 1 => by
  have ih0 := bits_Len64.mono_l k
  ·intro y0 y1
   unfold bits_Len64.j0
   repeat' first
   | (with_reducible exact ih0 _ _)
   | (with_reducible exact LeO.refl _)
   | (with_reducible exact LeO.none _)
   | (with_reducible refine LeO.ite ?_ ?_)
   | (with_reducible refine LeO.bind ?_ (fun _ => ?_))
   | exact ih0 _ _
   | exact LeO.none _
   | refine LeO.ite ?_ ?_
   | refine LeO.bind ?_ (fun _ => ?_)
theorem bits_Len64.mono : ∀ a0 k, LeO (bits_Len64.f k a0) (bits_Len64.f (k + 1) a0) := by
 intro a0 k
 have ih0 := bits_Len64.mono_l k
 unfold bits_Len64.f
 repeat' first
   | (with_reducible exact ih0 _ _)
   | (with_reducible exact LeO.refl _)
   | (with_reducible exact LeO.none _)
   | (with_reducible refine LeO.ite ?_ ?_)
   | (with_reducible refine LeO.bind ?_ (fun _ => ?_))
   | exact ih0 _ _
   | exact LeO.none _
   | refine LeO.ite ?_ ?_
   | refine LeO.bind ?_ (fun _ => ?_)
set_option maxHeartbeats 8000000 in
set_option maxRecDepth 100000 in
theorem bits_Len64.calls (k : Nat) (a0 : Int) (r : Int) (w : World) (h : bits_Len64.f k a0 = some r) :
  Calls Tryd.prog 144 #[.int .u64 a0] w fun e w' => e = .returned (.int .i64 r) ∧ Drawn0 w w' := by
 have H : (if a0 ≥ 4294967296 then (bits_Len64.j0 k (a0 / 4294967296) 32) else (bits_Len64.j0 k a0 0)) = some r := h
 clear h
 have HC2 := Aside0.mk H
 clear H
 go_enter Tryd.func144, Tryd.ntmps144
 go_upto_if 4 with (fail)
 go_cut [0, 2] (fun v0 v2 wc => ∃ (kq : Nat) (x0_1 : Int) (x2_1 : Int), v0 = .int .u64 x0_1 ∧ v2 = .int .i64 x2_1 ∧ Aside0 (bits_Len64.j0 kq x0_1 x2_1 = some r) ∧ Aside0 (kq ≤ k) ∧ Drawn0 w wc)
 case first =>
  have H := HC2.out
  clear HC2
  by_cases c3 : a0 ≥ 4294967296
  ·rw [if_pos c3] at H
   have c3b0 : decide (4294967296 ≤ a0) = true := decide_eq_true c3
   clear c3
   (first | rw [c3b0] | (simp only [i64_w, i32_w]; rw [c3b0]) | rw [c3b1] | skip)
   have H' := Aside0.mk H
   clear H
   go_wp2
   go_meet
   case rel => exact ⟨_, (a0 / 4294967296), (32), rS, rS, H', ⟨by first | omega | exact Nat.le_refl _⟩, by repeat (first | exact Drawn0.refl _ | apply Drawn0.step)⟩
  ·rw [if_neg c3] at H
   have c3b0 : decide (4294967296 ≤ a0) = false := decide_eq_false c3
   clear c3
   (first | rw [c3b0] | (simp only [i64_w, i32_w]; rw [c3b0]) | rw [c3b1] | skip)
   have H' := Aside0.mk H
   clear H
   go_wp2
   go_meet
   case rel => exact ⟨_, (a0), (0), rS, rS, H', ⟨by first | omega | exact Nat.le_refl _⟩, by repeat (first | exact Drawn0.refl _ | apply Drawn0.step)⟩
 case rest =>
  clear HC2
  try clear c1
  try clear p2
  try clear c3
  try clear c3b0
  obtain ⟨kq, x0_1, x2_1, rfl, rfl, HA, HJ1, ⟨mc1, rfl⟩⟩ := hcut
  cases kq with
  | zero => exact absurd HA.out (by simp [bits_Len64.j0])
  | succ kj1 =>
   have H := HA.out
   clear HA
   simp only [bits_Len64.j0] at H
   by_cases c4 : x0_1 ≥ 65536
   ·rw [if_pos c4] at H
    have c4b0 : decide (65536 ≤ x0_1) = true := decide_eq_true c4
    clear c4
    by_cases c5 : (x0_1 / 65536) ≥ 256
    ·rw [if_pos c5] at H
     have c5b0 : decide (256 ≤ (x0_1 / 65536)) = true := decide_eq_true c5
     clear c5
     obtain ⟨ji6, hji6⟩ : ∃ j_ : Int, (((x0_1 / 65536) / 256) % 256) = j_ := ⟨_, rfl⟩
     replace H : (if 0 ≤ (ji6) then (if (ji6) < 256 then (some (wrap64 ((wrap64 ((wrap64 (x2_1 + 16)) + 8)) + (wrap64 (bt (⟨#[0, 1, 2, 2, 3, 3, 3, 3, 4, 4, 4, 4, 4, 4, 4, 4, 5, 5, 5, 5, 5, 5, 5, 5, 5, 5, 5, 5, 5, 5, 5, 5, 6, 6, 6, 6, 6, 6, 6, 6, 6, 6, 6, 6, 6, 6, 6, 6, 6, 6, 6, 6, 6, 6, 6, 6, 6, 6, 6, 6, 6, 6, 6, 6, 7, 7, 7, 7, 7, 7, 7, 7, 7, 7, 7, 7, 7, 7, 7, 7, 7, 7, 7, 7, 7, 7, 7, 7, 7, 7, 7, 7, 7, 7, 7, 7, 7, 7, 7, 7, 7, 7, 7, 7, 7, 7, 7, 7, 7, 7, 7, 7, 7, 7, 7, 7, 7, 7, 7, 7, 7, 7, 7, 7, 7, 7, 7, 7, 8, 8, 8, 8, 8, 8, 8, 8, 8, 8, 8, 8, 8, 8, 8, 8, 8, 8, 8, 8, 8, 8, 8, 8, 8, 8, 8, 8, 8, 8, 8, 8, 8, 8, 8, 8, 8, 8, 8, 8, 8, 8, 8, 8, 8, 8, 8, 8, 8, 8, 8, 8, 8, 8, 8, 8, 8, 8, 8, 8, 8, 8, 8, 8, 8, 8, 8, 8, 8, 8, 8, 8, 8, 8, 8, 8, 8, 8, 8, 8, 8, 8, 8, 8, 8, 8, 8, 8, 8, 8, 8, 8, 8, 8, 8, 8, 8, 8, 8, 8, 8, 8, 8, 8, 8, 8, 8, 8, 8, 8, 8, 8, 8, 8, 8, 8, 8, 8, 8, 8, 8, 8, 8, 8, 8, 8, 8, 8]⟩ : ByteArray) (ji6)))))) else (none)) else (none)) = some r := by first | (rw [hji6] at H; exact H) | (simp only [hji6] at H ⊢; exact H)
     by_cases c7 : 0 ≤ (ji6)
     ·rw [if_pos c7] at H
      have c7b0 : decide (0 ≤ (ji6)) = true := decide_eq_true c7
      clear c7
      by_cases c8 : (ji6) < 256
      ·rw [if_pos c8] at H
       have c8b0 : decide ((ji6) < 256) = true := decide_eq_true c8
       clear c8
       obtain rfl := Option.some.inj H
       have p9 : 0 ≤ ((ji6) : Int) := of_decide_eq_true (by first | (with_reducible assumption) | assumption)
       have q9 : (ji6) < (256 : Int) := of_decide_eq_true (by first | (with_reducible assumption) | assumption)
       have hx9 := bt_at (⟨#[0, 1, 2, 2, 3, 3, 3, 3, 4, 4, 4, 4, 4, 4, 4, 4, 5, 5, 5, 5, 5, 5, 5, 5, 5, 5, 5, 5, 5, 5, 5, 5, 6, 6, 6, 6, 6, 6, 6, 6, 6, 6, 6, 6, 6, 6, 6, 6, 6, 6, 6, 6, 6, 6, 6, 6, 6, 6, 6, 6, 6, 6, 6, 6, 7, 7, 7, 7, 7, 7, 7, 7, 7, 7, 7, 7, 7, 7, 7, 7, 7, 7, 7, 7, 7, 7, 7, 7, 7, 7, 7, 7, 7, 7, 7, 7, 7, 7, 7, 7, 7, 7, 7, 7, 7, 7, 7, 7, 7, 7, 7, 7, 7, 7, 7, 7, 7, 7, 7, 7, 7, 7, 7, 7, 7, 7, 7, 7, 8, 8, 8, 8, 8, 8, 8, 8, 8, 8, 8, 8, 8, 8, 8, 8, 8, 8, 8, 8, 8, 8, 8, 8, 8, 8, 8, 8, 8, 8, 8, 8, 8, 8, 8, 8, 8, 8, 8, 8, 8, 8, 8, 8, 8, 8, 8, 8, 8, 8, 8, 8, 8, 8, 8, 8, 8, 8, 8, 8, 8, 8, 8, 8, 8, 8, 8, 8, 8, 8, 8, 8, 8, 8, 8, 8, 8, 8, 8, 8, 8, 8, 8, 8, 8, 8, 8, 8, 8, 8, 8, 8, 8, 8, 8, 8, 8, 8, 8, 8, 8, 8, 8, 8, 8, 8, 8, 8, 8, 8, 8, 8, 8, 8, 8, 8, 8, 8, 8, 8, 8, 8, 8, 8, 8, 8, 8, 8]⟩ : ByteArray) (ji6)
       replace p9 := eq_true p9
       replace q9 := eq_true q9
       go_wp2
       go_ret
       exact ⟨by first | rfl | (simp; done) | (simp only [← hji6] <;> (first | rfl | simp)) | (simp [*]; done), by repeat (first | exact Drawn0.refl _ | apply Drawn0.step)⟩
      ·rw [if_neg c8] at H
       exact absurd H (by simp)
     ·rw [if_neg c7] at H
      exact absurd H (by simp)
    ·rw [if_neg c5] at H
     have c5b0 : decide (256 ≤ (x0_1 / 65536)) = false := decide_eq_false c5
     clear c5
     obtain ⟨ji10, hji10⟩ : ∃ j_ : Int, ((x0_1 / 65536) % 256) = j_ := ⟨_, rfl⟩
     replace H : (if 0 ≤ (ji10) then (if (ji10) < 256 then (some (wrap64 ((wrap64 (x2_1 + 16)) + (wrap64 (bt (⟨#[0, 1, 2, 2, 3, 3, 3, 3, 4, 4, 4, 4, 4, 4, 4, 4, 5, 5, 5, 5, 5, 5, 5, 5, 5, 5, 5, 5, 5, 5, 5, 5, 6, 6, 6, 6, 6, 6, 6, 6, 6, 6, 6, 6, 6, 6, 6, 6, 6, 6, 6, 6, 6, 6, 6, 6, 6, 6, 6, 6, 6, 6, 6, 6, 7, 7, 7, 7, 7, 7, 7, 7, 7, 7, 7, 7, 7, 7, 7, 7, 7, 7, 7, 7, 7, 7, 7, 7, 7, 7, 7, 7, 7, 7, 7, 7, 7, 7, 7, 7, 7, 7, 7, 7, 7, 7, 7, 7, 7, 7, 7, 7, 7, 7, 7, 7, 7, 7, 7, 7, 7, 7, 7, 7, 7, 7, 7, 7, 8, 8, 8, 8, 8, 8, 8, 8, 8, 8, 8, 8, 8, 8, 8, 8, 8, 8, 8, 8, 8, 8, 8, 8, 8, 8, 8, 8, 8, 8, 8, 8, 8, 8, 8, 8, 8, 8, 8, 8, 8, 8, 8, 8, 8, 8, 8, 8, 8, 8, 8, 8, 8, 8, 8, 8, 8, 8, 8, 8, 8, 8, 8, 8, 8, 8, 8, 8, 8, 8, 8, 8, 8, 8, 8, 8, 8, 8, 8, 8, 8, 8, 8, 8, 8, 8, 8, 8, 8, 8, 8, 8, 8, 8, 8, 8, 8, 8, 8, 8, 8, 8, 8, 8, 8, 8, 8, 8, 8, 8, 8, 8, 8, 8, 8, 8, 8, 8, 8, 8, 8, 8, 8, 8, 8, 8, 8, 8]⟩ : ByteArray) (ji10)))))) else (none)) else (none)) = some r := by first | (rw [hji10] at H; exact H) | (simp only [hji10] at H ⊢; exact H)
     by_cases c11 : 0 ≤ (ji10)
     ·rw [if_pos c11] at H
      have c11b0 : decide (0 ≤ (ji10)) = true := decide_eq_true c11
      clear c11
      by_cases c12 : (ji10) < 256
      ·rw [if_pos c12] at H
       have c12b0 : decide ((ji10) < 256) = true := decide_eq_true c12
       clear c12
       obtain rfl := Option.some.inj H
       have p13 : 0 ≤ ((ji10) : Int) := of_decide_eq_true (by first | (with_reducible assumption) | assumption)
       have q13 : (ji10) < (256 : Int) := of_decide_eq_true (by first | (with_reducible assumption) | assumption)
       have hx13 := bt_at (⟨#[0, 1, 2, 2, 3, 3, 3, 3, 4, 4, 4, 4, 4, 4, 4, 4, 5, 5, 5, 5, 5, 5, 5, 5, 5, 5, 5, 5, 5, 5, 5, 5, 6, 6, 6, 6, 6, 6, 6, 6, 6, 6, 6, 6, 6, 6, 6, 6, 6, 6, 6, 6, 6, 6, 6, 6, 6, 6, 6, 6, 6, 6, 6, 6, 7, 7, 7, 7, 7, 7, 7, 7, 7, 7, 7, 7, 7, 7, 7, 7, 7, 7, 7, 7, 7, 7, 7, 7, 7, 7, 7, 7, 7, 7, 7, 7, 7, 7, 7, 7, 7, 7, 7, 7, 7, 7, 7, 7, 7, 7, 7, 7, 7, 7, 7, 7, 7, 7, 7, 7, 7, 7, 7, 7, 7, 7, 7, 7, 8, 8, 8, 8, 8, 8, 8, 8, 8, 8, 8, 8, 8, 8, 8, 8, 8, 8, 8, 8, 8, 8, 8, 8, 8, 8, 8, 8, 8, 8, 8, 8, 8, 8, 8, 8, 8, 8, 8, 8, 8, 8, 8, 8, 8, 8, 8, 8, 8, 8, 8, 8, 8, 8, 8, 8, 8, 8, 8, 8, 8, 8, 8, 8, 8, 8, 8, 8, 8, 8, 8, 8, 8, 8, 8, 8, 8, 8, 8, 8, 8, 8, 8, 8, 8, 8, 8, 8, 8, 8, 8, 8, 8, 8, 8, 8, 8, 8, 8, 8, 8, 8, 8, 8, 8, 8, 8, 8, 8, 8, 8, 8, 8, 8, 8, 8, 8, 8, 8, 8, 8, 8, 8, 8, 8, 8, 8, 8]⟩ : ByteArray) (ji10)
       replace p13 := eq_true p13
       replace q13 := eq_true q13
       go_wp2
       go_ret
       exact ⟨by first | rfl | (simp; done) | (simp only [← hji10] <;> (first | rfl | simp)) | (simp [*]; done), by repeat (first | exact Drawn0.refl _ | apply Drawn0.step)⟩
      ·rw [if_neg c12] at H
       exact absurd H (by simp)
     ·rw [if_neg c11] at H
      exact absurd H (by simp)
   ·rw [if_neg c4] at H
    have c4b0 : decide (65536 ≤ x0_1) = false := decide_eq_false c4
    clear c4
    by_cases c14 : x0_1 ≥ 256
    ·rw [if_pos c14] at H
     have c14b0 : decide (256 ≤ x0_1) = true := decide_eq_true c14
     clear c14
     obtain ⟨ji15, hji15⟩ : ∃ j_ : Int, ((x0_1 / 256) % 256) = j_ := ⟨_, rfl⟩
     replace H : (if 0 ≤ (ji15) then (if (ji15) < 256 then (some (wrap64 ((wrap64 (x2_1 + 8)) + (wrap64 (bt (⟨#[0, 1, 2, 2, 3, 3, 3, 3, 4, 4, 4, 4, 4, 4, 4, 4, 5, 5, 5, 5, 5, 5, 5, 5, 5, 5, 5, 5, 5, 5, 5, 5, 6, 6, 6, 6, 6, 6, 6, 6, 6, 6, 6, 6, 6, 6, 6, 6, 6, 6, 6, 6, 6, 6, 6, 6, 6, 6, 6, 6, 6, 6, 6, 6, 7, 7, 7, 7, 7, 7, 7, 7, 7, 7, 7, 7, 7, 7, 7, 7, 7, 7, 7, 7, 7, 7, 7, 7, 7, 7, 7, 7, 7, 7, 7, 7, 7, 7, 7, 7, 7, 7, 7, 7, 7, 7, 7, 7, 7, 7, 7, 7, 7, 7, 7, 7, 7, 7, 7, 7, 7, 7, 7, 7, 7, 7, 7, 7, 8, 8, 8, 8, 8, 8, 8, 8, 8, 8, 8, 8, 8, 8, 8, 8, 8, 8, 8, 8, 8, 8, 8, 8, 8, 8, 8, 8, 8, 8, 8, 8, 8, 8, 8, 8, 8, 8, 8, 8, 8, 8, 8, 8, 8, 8, 8, 8, 8, 8, 8, 8, 8, 8, 8, 8, 8, 8, 8, 8, 8, 8, 8, 8, 8, 8, 8, 8, 8, 8, 8, 8, 8, 8, 8, 8, 8, 8, 8, 8, 8, 8, 8, 8, 8, 8, 8, 8, 8, 8, 8, 8, 8, 8, 8, 8, 8, 8, 8, 8, 8, 8, 8, 8, 8, 8, 8, 8, 8, 8, 8, 8, 8, 8, 8, 8, 8, 8, 8, 8, 8, 8, 8, 8, 8, 8, 8, 8]⟩ : ByteArray) (ji15)))))) else (none)) else (none)) = some r := by first | (rw [hji15] at H; exact H) | (simp only [hji15] at H ⊢; exact H)
     by_cases c16 : 0 ≤ (ji15)
     ·rw [if_pos c16] at H
      have c16b0 : decide (0 ≤ (ji15)) = true := decide_eq_true c16
      clear c16
      by_cases c17 : (ji15) < 256
      ·rw [if_pos c17] at H
       have c17b0 : decide ((ji15) < 256) = true := decide_eq_true c17
       clear c17
       obtain rfl := Option.some.inj H
       have p18 : 0 ≤ ((ji15) : Int) := of_decide_eq_true (by first | (with_reducible assumption) | assumption)
       have q18 : (ji15) < (256 : Int) := of_decide_eq_true (by first | (with_reducible assumption) | assumption)
       have hx18 := bt_at (⟨#[0, 1, 2, 2, 3, 3, 3, 3, 4, 4, 4, 4, 4, 4, 4, 4, 5, 5, 5, 5, 5, 5, 5, 5, 5, 5, 5, 5, 5, 5, 5, 5, 6, 6, 6, 6, 6, 6, 6, 6, 6, 6, 6, 6, 6, 6, 6, 6, 6, 6, 6, 6, 6, 6, 6, 6, 6, 6, 6, 6, 6, 6, 6, 6, 7, 7, 7, 7, 7, 7, 7, 7, 7, 7, 7, 7, 7, 7, 7, 7, 7, 7, 7, 7, 7, 7, 7, 7, 7, 7, 7, 7, 7, 7, 7, 7, 7, 7, 7, 7, 7, 7, 7, 7, 7, 7, 7, 7, 7, 7, 7, 7, 7, 7, 7, 7, 7, 7, 7, 7, 7, 7, 7, 7, 7, 7, 7, 7, 8, 8, 8, 8, 8, 8, 8, 8, 8, 8, 8, 8, 8, 8, 8, 8, 8, 8, 8, 8, 8, 8, 8, 8, 8, 8, 8, 8, 8, 8, 8, 8, 8, 8, 8, 8, 8, 8, 8, 8, 8, 8, 8, 8, 8, 8, 8, 8, 8, 8, 8, 8, 8, 8, 8, 8, 8, 8, 8, 8, 8, 8, 8, 8, 8, 8, 8, 8, 8, 8, 8, 8, 8, 8, 8, 8, 8, 8, 8, 8, 8, 8, 8, 8, 8, 8, 8, 8, 8, 8, 8, 8, 8, 8, 8, 8, 8, 8, 8, 8, 8, 8, 8, 8, 8, 8, 8, 8, 8, 8, 8, 8, 8, 8, 8, 8, 8, 8, 8, 8, 8, 8, 8, 8, 8, 8, 8, 8]⟩ : ByteArray) (ji15)
       replace p18 := eq_true p18
       replace q18 := eq_true q18
       go_wp2
       go_ret
       exact ⟨by first | rfl | (simp; done) | (simp only [← hji15] <;> (first | rfl | simp)) | (simp [*]; done), by repeat (first | exact Drawn0.refl _ | apply Drawn0.step)⟩
      ·rw [if_neg c17] at H
       exact absurd H (by simp)
     ·rw [if_neg c16] at H
      exact absurd H (by simp)
    ·rw [if_neg c14] at H
     have c14b0 : decide (256 ≤ x0_1) = false := decide_eq_false c14
     clear c14
     obtain ⟨ji19, hji19⟩ : ∃ j_ : Int, ((x0_1) % 256) = j_ := ⟨_, rfl⟩
     replace H : (if 0 ≤ (ji19) then (if (ji19) < 256 then (some (wrap64 (x2_1 + (wrap64 (bt (⟨#[0, 1, 2, 2, 3, 3, 3, 3, 4, 4, 4, 4, 4, 4, 4, 4, 5, 5, 5, 5, 5, 5, 5, 5, 5, 5, 5, 5, 5, 5, 5, 5, 6, 6, 6, 6, 6, 6, 6, 6, 6, 6, 6, 6, 6, 6, 6, 6, 6, 6, 6, 6, 6, 6, 6, 6, 6, 6, 6, 6, 6, 6, 6, 6, 7, 7, 7, 7, 7, 7, 7, 7, 7, 7, 7, 7, 7, 7, 7, 7, 7, 7, 7, 7, 7, 7, 7, 7, 7, 7, 7, 7, 7, 7, 7, 7, 7, 7, 7, 7, 7, 7, 7, 7, 7, 7, 7, 7, 7, 7, 7, 7, 7, 7, 7, 7, 7, 7, 7, 7, 7, 7, 7, 7, 7, 7, 7, 7, 8, 8, 8, 8, 8, 8, 8, 8, 8, 8, 8, 8, 8, 8, 8, 8, 8, 8, 8, 8, 8, 8, 8, 8, 8, 8, 8, 8, 8, 8, 8, 8, 8, 8, 8, 8, 8, 8, 8, 8, 8, 8, 8, 8, 8, 8, 8, 8, 8, 8, 8, 8, 8, 8, 8, 8, 8, 8, 8, 8, 8, 8, 8, 8, 8, 8, 8, 8, 8, 8, 8, 8, 8, 8, 8, 8, 8, 8, 8, 8, 8, 8, 8, 8, 8, 8, 8, 8, 8, 8, 8, 8, 8, 8, 8, 8, 8, 8, 8, 8, 8, 8, 8, 8, 8, 8, 8, 8, 8, 8, 8, 8, 8, 8, 8, 8, 8, 8, 8, 8, 8, 8, 8, 8, 8, 8, 8, 8]⟩ : ByteArray) (ji19)))))) else (none)) else (none)) = some r := by first | (rw [hji19] at H; exact H) | (simp only [hji19] at H ⊢; exact H)
     by_cases c20 : 0 ≤ (ji19)
     ·rw [if_pos c20] at H
      have c20b0 : decide (0 ≤ (ji19)) = true := decide_eq_true c20
      clear c20
      by_cases c21 : (ji19) < 256
      ·rw [if_pos c21] at H
       have c21b0 : decide ((ji19) < 256) = true := decide_eq_true c21
       clear c21
       obtain rfl := Option.some.inj H
       have p22 : 0 ≤ ((ji19) : Int) := of_decide_eq_true (by first | (with_reducible assumption) | assumption)
       have q22 : (ji19) < (256 : Int) := of_decide_eq_true (by first | (with_reducible assumption) | assumption)
       have hx22 := bt_at (⟨#[0, 1, 2, 2, 3, 3, 3, 3, 4, 4, 4, 4, 4, 4, 4, 4, 5, 5, 5, 5, 5, 5, 5, 5, 5, 5, 5, 5, 5, 5, 5, 5, 6, 6, 6, 6, 6, 6, 6, 6, 6, 6, 6, 6, 6, 6, 6, 6, 6, 6, 6, 6, 6, 6, 6, 6, 6, 6, 6, 6, 6, 6, 6, 6, 7, 7, 7, 7, 7, 7, 7, 7, 7, 7, 7, 7, 7, 7, 7, 7, 7, 7, 7, 7, 7, 7, 7, 7, 7, 7, 7, 7, 7, 7, 7, 7, 7, 7, 7, 7, 7, 7, 7, 7, 7, 7, 7, 7, 7, 7, 7, 7, 7, 7, 7, 7, 7, 7, 7, 7, 7, 7, 7, 7, 7, 7, 7, 7, 8, 8, 8, 8, 8, 8, 8, 8, 8, 8, 8, 8, 8, 8, 8, 8, 8, 8, 8, 8, 8, 8, 8, 8, 8, 8, 8, 8, 8, 8, 8, 8, 8, 8, 8, 8, 8, 8, 8, 8, 8, 8, 8, 8, 8, 8, 8, 8, 8, 8, 8, 8, 8, 8, 8, 8, 8, 8, 8, 8, 8, 8, 8, 8, 8, 8, 8, 8, 8, 8, 8, 8, 8, 8, 8, 8, 8, 8, 8, 8, 8, 8, 8, 8, 8, 8, 8, 8, 8, 8, 8, 8, 8, 8, 8, 8, 8, 8, 8, 8, 8, 8, 8, 8, 8, 8, 8, 8, 8, 8, 8, 8, 8, 8, 8, 8, 8, 8, 8, 8, 8, 8, 8, 8, 8, 8, 8, 8]⟩ : ByteArray) (ji19)
       replace p22 := eq_true p22
       replace q22 := eq_true q22
       go_wp2
       go_ret
       exact ⟨by first | rfl | (simp; done) | (simp only [← hji19] <;> (first | rfl | simp)) | (simp [*]; done), by repeat (first | exact Drawn0.refl _ | apply Drawn0.step)⟩
      ·rw [if_neg c21] at H
       exact absurd H (by simp)
     ·rw [if_neg c20] at H
      exact absurd H (by simp)
/-! ### bits_Len: function 132 -/
def bits_Len.f (k : Nat) (a0 : Int) : Option (Int) := (bits_Len64.f k a0).bind fun t623 => (some t623)
theorem bits_Len.mono : ∀ a0 k, LeO (bits_Len.f k a0) (bits_Len.f (k + 1) a0) := by
 intro a0 k
 unfold bits_Len.f
 repeat' first
   | (with_reducible exact bits_Len64.mono _ _)
   | (with_reducible exact LeO.refl _)
   | (with_reducible exact LeO.none _)
   | (with_reducible refine LeO.ite ?_ ?_)
   | (with_reducible refine LeO.bind ?_ (fun _ => ?_))
   | exact bits_Len64.mono _ _
   | exact LeO.none _
   | refine LeO.ite ?_ ?_
   | refine LeO.bind ?_ (fun _ => ?_)
set_option maxHeartbeats 8000000 in
set_option maxRecDepth 100000 in
theorem bits_Len.calls (k : Nat) (a0 : Int) (r : Int) (w : World) (h : bits_Len.f k a0 = some r) :
  Calls Tryd.prog 132 #[.int .u64 a0] w fun e w' => e = .returned (.int .i64 r) ∧ Drawn0 w w' := by
 have H : ((bits_Len64.f k a0).bind fun t623 => (some t623)) = some r := h
 clear h
 replace H := Option.bind_eq_some_iff.mp H
 obtain ⟨t623, A20, H⟩ := H
 have A2 := Aside0.mk A20
 clear A20
 obtain rfl := Option.some.inj H
 go_enter Tryd.func132, Tryd.ntmps132
 go_wp2_with (first | ((with_reducible refine gate_callee (f := 144) rfl ?_); refine gL (some 7) Tryd.func144 #[.int .u64 a0] ?_; (with_reducible refine (bits_Len64.calls k a0 t623 _ A2.out).mono ?_); rintro e w' ⟨rfl, ⟨nd, rfl⟩⟩; refine ⟨_, rfl, ?_⟩))
 go_ret
 exact ⟨rS, rD⟩
end Go.Proofs.YtkdmplfldfagnaaDoor.Pf
end
