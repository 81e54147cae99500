/- What is proved here: part 2 of 4 of the proof of the given statement FnExactCommitteeRoot: the contracts of the Go functions that it reaches, the plain facts on lists and numbers, and (in the last part) the statement itself. No conditions beyond the given ones. -/
import Derived.Test.YtkdmplfldfagnaaDoorMFnExactCommitteeRoota
import Derived.Test.YtkdmplfldfagnaaDoorMFnExactCommitteeRootwSlim
import Derived.ArgAppend

section
/- What is proved here: steps of Keccak as the program and the reference write it: what each function answers. No conditions but those that each theorem names. -/
namespace Go.Proofs.YtkdmplfldfagnaaDoor.Kp
open Go.RowKit Go.Proofs.YtkdmplfldfagnaaDoorW.PrintWords Go.Proofs.YtkdmplfldfagnaaDoorW.PrintLast Go.Proofs.YtkdmplfldfagnaaDoorW.PrintMore
set_option linter.unusedVariables false
set_option linter.unusedSimpArgs false
section
variable {P : Program} {ops : Array Oper} {rest : List Oper} {o : Oper} {a : Act} {w : World} {Q : Exit → Act → World → Prop}
theorem store_row_event (hgd : o.guard = none) (ty : TypeId) (x y : Operand) (ho : o.op = .store ty x y)
    (g : Nat) (cells : Array Value) (hx : a.eval x = .pointer (some ⟨g, 0, none⟩)) (hy : a.eval y = .agg cells)
    (t : TypeId) (old : Array Value) (hg : w.heap[g]? = some (.cells old t (0, 0))) (hi : (P.info? ty).map (·.size) = some cells.size)
    (hold : old.size = cells.size) (h1 : cells.all (·.oneCell') = true)
    (h : ∀ w1, w1.heap[g]? = some (.cells cells t (0, 0)) → (∀ k, k ≠ g → w1.heap[k]? = w.heap[k]?) → (∀ B w0, Below B w0 w → B ≤ g → Below B w0 w1) → wpList P ops Q rest (a.put o.dst undef) w1) : wpList P ops Q (o :: rest) a w :=
  wpList_store_row hgd ty x y ho g cells hx hy t old hg hi hold h1 (h _ (setRow_heap w g old cells t (0, 0) hg) (fun k hk => setRow_other w g k cells hk) (fun _ _ hb hB => below_setRow hb hB cells))
end
theorem built0_123 : Tryd.prog.built 123 [] = some (ue (List.replicate 5 0)) := by kernel_rfl
theorem built0_92 : Tryd.prog.built 92 [] = some (ue (List.replicate 25 0)) := by kernel_rfl
def tn (v k : Int) : Int := Go.bits .or .u64 (shl .u64 v k) (shr .u64 v (IntKind.u64.wrap (64 - k)))
def tok (k : Int) : Bool := decide (0 ≤ k) && decide (0 ≤ (IntKind.u64.wrap (64 - k)))
theorem turn_f {v k : Int} (h : tok k = true) : spec_l03Turn.f v k = some (tn v k) := by
  unfold tok at h
  simp only [Bool.and_eq_true, decide_eq_true_eq] at h
  unfold spec_l03Turn.f tn
  rw [if_pos h.1, if_pos h.2]
theorem tok_one : tok 1 = true := by decide +kernel
theorem tok_turns : ∀ i : Fin 25, tok (ga turnsL i.val) = true := by decide +kernel
def ddS (c : List Int) (x : Nat) : Int := xr (ga c ((x + 4) % 5)) (tn (ga c ((x + 1) % 5)) 1)
def batS (s c : List Int) (y x : Nat) : Int := if ga turnsL (x + 5 * y) > 0 then tn (xr (ga s (x + 5 * y)) (ddS c x)) (ga turnsL (x + 5 * y)) else xr (ga s (x + 5 * y)) (ddS c x)
def bstS (s c : List Int) : Nat → List Int
  | 0 => List.replicate 25 0
  | m + 1 => (bstS s c m).set (m % 5 + 5 * ((2 * (m / 5) + 3 * (m % 5)) % 5)) (batS s c (m % 5) (m / 5))
theorem bstS_len (s c : List Int) (k : Nat) : (bstS s c k).length = 25 := by
  induction k with
  | zero => rfl
  | succ k ih => simp [bstS, ih]
theorem bstS_succ (s c : List Int) {y x : Nat} (h : y < 5) : bstS s c (5 * x + (y + 1)) = (bstS s c (5 * x + y)).set (y + 5 * ((2 * x + 3 * y) % 5)) (batS s c y x) := by
  rw [show 5 * x + (y + 1) = (5 * x + y) + 1 by omega]
  simp only [bstS]
  rw [show (5 * x + y) / 5 = x by omega, show (5 * x + y) % 5 = y by omega]
def chiS (b : List Int) (y x : Nat) : Int := xr (ga b (x + 5 * y)) (Go.bits .and .u64 (xr (ga b ((x + 1) % 5 + 5 * y)) 18446744073709551615) (ga b ((x + 2) % 5 + 5 * y)))
def sstS (s b : List Int) : Nat → List Int
  | 0 => s
  | m + 1 => (sstS s b m).set m (chiS b (m / 5) (m % 5))
theorem sstS_len (s b : List Int) (k : Nat) : (sstS s b k).length = s.length := by
  induction k with
  | zero => rfl
  | succ k ih => simp [sstS, ih]
theorem sstS_succ (s b : List Int) {y x : Nat} (h : x < 5) : sstS s b (5 * y + (x + 1)) = (sstS s b (5 * y + x)).set (x + 5 * y) (chiS b y x) := by
  rw [show 5 * y + (x + 1) = (5 * y + x) + 1 by omega]
  simp only [sstS]
  rw [show (5 * y + x) / 5 = y by omega, show (5 * y + x) % 5 = x by omega, show 5 * y + x = x + 5 * y by omega]
def roundS (s : List Int) (rc : Int) : List Int :=
  let t := sstS s (bstS s (cst s 5) 25) 25
  t.set 0 (xr (ga t 0) rc)
theorem roundS_len (s : List Int) (rc : Int) : (roundS s rc).length = s.length := by simp [roundS, sstS_len]
theorem ue_size (xs : List Int) : (ue xs).size = xs.length := by unfold ue; rw [List.size_toArray, List.length_map]
def spec_l03Round.T5 : Bool × List (List Nat × List Nat) := (true, [([], []), ([], []), ([1], [1]), ([2], [2]), ([], []), ([4], [4]), ([5], [5]), ([6], [6]), ([3, 7], [3, 7]), ([], []), ([9], [9]), ([10], [10]), ([11], [11]), ([8, 12], [8, 12]), ([], []), ([14], [14]), ([15], [15]), ([16], [16]), ([13, 17], [13, 17]), ([], []), ([19], [19]), ([20], [20]), ([21], [21]), ([18, 22], [18, 22]), ([0, 0, 1, 2, 3, 4, 5, 6, 7, 8, 9, 10, 11, 12, 13, 14, 15, 16, 17, 18, 19, 20, 21, 22, 23], [0]), ([24, 23, 0, 1, 2, 3, 4, 5, 6, 7, 8, 9, 10, 11, 12, 13, 14, 15, 16, 17, 18, 19, 20, 21, 22, 23], [23, 24])])
def spec_l03Round.B5 : List Nat := [0, 0, 2, 6, 0, 16, 48, 112, 254, 0, 512, 1536, 3584, 8190, 0, 16384, 49152, 114688, 262142, 0, 524288, 1572864, 3670016, 8388606, 16777215, 33554431]
theorem spec_l03Round.tab5 : rtab .any (opsOf Tryd.f118 5) = spec_l03Round.T5 := by kernel_rfl
theorem spec_l03Round.bits5 : waitsOk spec_l03Round.T5.2 spec_l03Round.B5 = true := by kernel_rfl
def spec_l03Round.T10 : Bool × List (List Nat × List Nat) := (true, [([], []), ([0], [0]), ([1], [1]), ([2], [2]), ([3], [3]), ([], []), ([5], [5]), ([6], [6]), ([7], [7]), ([8], [8]), ([9], [9]), ([4, 10], [4, 10]), ([11, 10, 0, 1, 2, 3, 4, 5, 6, 7, 8, 9, 10, 11], [11])])
def spec_l03Round.B10 : List Nat := [0, 1, 3, 7, 15, 0, 32, 96, 224, 480, 992, 2047, 4095]
theorem spec_l03Round.tab10 : rtab .any (opsOf Tryd.f118 10) = spec_l03Round.T10 := by kernel_rfl
theorem spec_l03Round.bits10 : waitsOk spec_l03Round.T10.2 spec_l03Round.B10 = true := by kernel_rfl
def spec_l03Round.T25 : Bool × List (List Nat × List Nat) := (true, [([], []), ([], []), ([1], [1]), ([0, 2], [0, 2]), ([], []), ([], []), ([5], [5]), ([4, 6], [4, 6]), ([7], [7]), ([8], [8]), ([], []), ([10], [10]), ([11], [11]), ([], []), ([13], [13]), ([12, 14], [12, 14]), ([15], [15]), ([16], [16]), ([17], [17]), ([], []), ([19], [19]), ([20], [20]), ([], []), ([22], [22]), ([21, 23], [21, 23]), ([24], [24]), ([25], [25]), ([18, 26], [18, 26]), ([9, 27], [9, 27]), ([3, 0, 1, 2, 3, 4, 5, 6, 7, 8, 9, 10, 11, 12, 13, 14, 15, 16, 17, 18, 19, 20, 21, 22, 23, 24, 25, 26, 27, 28], [3]), ([29, 28, 0, 1, 2, 3, 4, 5, 6, 7, 8, 9, 10, 11, 12, 13, 14, 15, 16, 17, 18, 19, 20, 21, 22, 23, 24, 25, 26, 27, 28], [28, 29])])
def spec_l03Round.B25 : List Nat := [0, 0, 2, 7, 0, 0, 32, 112, 240, 496, 0, 1024, 3072, 0, 8192, 31744, 64512, 130048, 261120, 0, 524288, 1572864, 0, 4194304, 16252928, 33030144, 66584576, 134216704, 268435440, 536870911, 1073741823]
theorem spec_l03Round.tab25 : rtab .any (opsOf Tryd.f118 25) = spec_l03Round.T25 := by kernel_rfl
theorem spec_l03Round.bits25 : waitsOk spec_l03Round.T25.2 spec_l03Round.B25 = true := by kernel_rfl
set_option maxHeartbeats 8000000 in
set_option maxRecDepth 100000 in
theorem spec_l03Round.calls (s : List Int) (hs : s.length = 25) (rc : Int) (w : World) :
    Calls Tryd.prog 118 #[.agg (ue s), .agg (ue turnsL), .int .u64 rc] w fun e w' => e = .returned (.agg (ue (roundS s rc))) ∧ Below w.heap.size w w' := by
  have HB := Aside0.mk (Below.refl w.heap.size w)
  have HS := Aside0.mk hs
  clear hs
  go_enter Tryd.func118, Tryd.ntmps118
  go_wp2_with (first | ((with_reducible refine gate_dst (N := 3) rfl ?_); refine box_event ?hg (N := 3) ?hd (cs := ue s) (t := 92) ?hr ?_; (case hd => rfl); (case hg => rfl); (case hr => first | (go_simp; done) | (go_simp; rfl)); intro gs hg w1_ hbox hb; have n0_ := Aside0.mk (below_then (show Below w.heap.size w _ by repeat (first | exact HB.out | apply Below.drew | apply pw_below_drewN)) (Below.size (show Below w.heap.size w _ by repeat (first | exact HB.out | apply Below.drew | apply pw_below_drewN))) hb); have n1_ := Aside0.mk (show w.heap.size ≤ gs by rw [hg]; exact (Below.size (show Below w.heap.size w _ by repeat (first | exact HB.out | apply Below.drew | apply pw_below_drewN)))); have BKs := Aside0.mk hbox; clear  HB; have HB := n0_; have GEs := n1_; clear n0_ n1_ hb hbox hg) | ((with_reducible refine gate_dst (N := 4) rfl ?_); refine box_event ?hg (N := 4) ?hd (cs := ue turnsL) (t := 111) ?hr ?_; (case hd => rfl); (case hg => rfl); (case hr => first | (go_simp; done) | (go_simp; rfl)); intro go hg w1_ hbox hb; have n0_ := Aside0.mk (blk_below (by (with_reducible repeat (first | refine blk_drewN ?_ _ | refine blk_drew ?_)); exact BKs.out) hb); have n1_ := Aside0.mk (below_then (show Below w.heap.size w _ by repeat (first | exact HB.out | apply Below.drew | apply pw_below_drewN | refine Below.setCell ?_ GEs.out _)) (Below.size (show Below w.heap.size w _ by repeat (first | exact HB.out | apply Below.drew | apply pw_below_drewN | refine Below.setCell ?_ GEs.out _))) hb); have n2_ := Aside0.mk (show w.heap.size ≤ go by rw [hg]; exact (Below.size (show Below w.heap.size w _ by repeat (first | exact HB.out | apply Below.drew | apply pw_below_drewN | refine Below.setCell ?_ GEs.out _)))); have n3_ := Aside0.mk (show gs ≠ go by rw [hg]; exact Nat.ne_of_lt (blk_lt (o := .cells _ _ _) (by (with_reducible repeat (first | refine blk_drewN ?_ _ | refine blk_drew ?_)); exact BKs.out))); have BKo := Aside0.mk hbox; clear BKs HB; have BKs := n0_; have HB := n1_; have GEo := n2_; have NEso := n3_; clear n0_ n1_ n2_ n3_ hb hbox hg) | ((with_reducible refine gate_dst (N := 6) rfl ?_); refine box_event ?hg (N := 6) ?hd (cs := ue (List.replicate 25 0)) (t := 92) ?hr ?_; (case hd => rfl); (case hg => rfl); (case hr => first | (go_simp; done) | (go_simp; rfl)); intro gr hg w1_ hbox hb; have n0_ := Aside0.mk (blk_below (by (with_reducible repeat (first | refine blk_drewN ?_ _ | refine blk_drew ?_)); exact BKs.out) hb); have n1_ := Aside0.mk (blk_below (by (with_reducible repeat (first | refine blk_drewN ?_ _ | refine blk_drew ?_)); exact BKo.out) hb); have n2_ := Aside0.mk (below_then (show Below w.heap.size w _ by repeat (first | exact HB.out | apply Below.drew | apply pw_below_drewN | refine Below.setCell ?_ GEs.out _ | refine Below.setCell ?_ GEo.out _)) (Below.size (show Below w.heap.size w _ by repeat (first | exact HB.out | apply Below.drew | apply pw_below_drewN | refine Below.setCell ?_ GEs.out _ | refine Below.setCell ?_ GEo.out _))) hb); have n3_ := Aside0.mk (show w.heap.size ≤ gr by rw [hg]; exact (Below.size (show Below w.heap.size w _ by repeat (first | exact HB.out | apply Below.drew | apply pw_below_drewN | refine Below.setCell ?_ GEs.out _ | refine Below.setCell ?_ GEo.out _)))); have n4_ := Aside0.mk (show gs ≠ gr by rw [hg]; exact Nat.ne_of_lt (blk_lt (o := .cells _ _ _) (by (with_reducible repeat (first | refine blk_drewN ?_ _ | refine blk_drew ?_)); exact BKs.out))); have n5_ := Aside0.mk (show go ≠ gr by rw [hg]; exact Nat.ne_of_lt (blk_lt (o := .cells _ _ _) (by (with_reducible repeat (first | refine blk_drewN ?_ _ | refine blk_drew ?_)); exact BKo.out))); have BKr := Aside0.mk hbox; clear BKs BKo HB; have BKs := n0_; have BKo := n1_; have HB := n2_; have GEr := n3_; have NEsr := n4_; have NEor := n5_; clear n0_ n1_ n2_ n3_ n4_ n5_ hb hbox hg) | ((with_reducible refine gate_dst (N := 17) rfl ?_); refine wpList_buildA rfl 123 _ rfl (cs := ue (List.replicate 5 0)) ?hb ?_; (case hb => exact built0_123)) | ((with_reducible refine gate_dst (N := 7) rfl ?_); refine box_event ?hg (N := 7) ?hd (cs := ue (List.replicate 5 0)) (t := 123) ?hr ?_; (case hd => rfl); (case hg => rfl); (case hr => first | (go_simp; done) | (go_simp; rfl)); intro gc hg w1_ hbox hb; have n0_ := Aside0.mk (blk_below (by (with_reducible repeat (first | refine blk_drewN ?_ _ | refine blk_drew ?_)); exact BKs.out) hb); have n1_ := Aside0.mk (blk_below (by (with_reducible repeat (first | refine blk_drewN ?_ _ | refine blk_drew ?_)); exact BKo.out) hb); have n2_ := Aside0.mk (blk_below (by (with_reducible repeat (first | refine blk_drewN ?_ _ | refine blk_drew ?_)); exact BKr.out) hb); have n3_ := Aside0.mk (below_then (show Below w.heap.size w _ by repeat (first | exact HB.out | apply Below.drew | apply pw_below_drewN | refine Below.setCell ?_ GEs.out _ | refine Below.setCell ?_ GEo.out _ | refine Below.setCell ?_ GEr.out _)) (Below.size (show Below w.heap.size w _ by repeat (first | exact HB.out | apply Below.drew | apply pw_below_drewN | refine Below.setCell ?_ GEs.out _ | refine Below.setCell ?_ GEo.out _ | refine Below.setCell ?_ GEr.out _))) hb); have n4_ := Aside0.mk (show w.heap.size ≤ gc by rw [hg]; exact (Below.size (show Below w.heap.size w _ by repeat (first | exact HB.out | apply Below.drew | apply pw_below_drewN | refine Below.setCell ?_ GEs.out _ | refine Below.setCell ?_ GEo.out _ | refine Below.setCell ?_ GEr.out _)))); have n5_ := Aside0.mk (show gs ≠ gc by rw [hg]; exact Nat.ne_of_lt (blk_lt (o := .cells _ _ _) (by (with_reducible repeat (first | refine blk_drewN ?_ _ | refine blk_drew ?_)); exact BKs.out))); have n6_ := Aside0.mk (show go ≠ gc by rw [hg]; exact Nat.ne_of_lt (blk_lt (o := .cells _ _ _) (by (with_reducible repeat (first | refine blk_drewN ?_ _ | refine blk_drew ?_)); exact BKo.out))); have n7_ := Aside0.mk (show gr ≠ gc by rw [hg]; exact Nat.ne_of_lt (blk_lt (o := .cells _ _ _) (by (with_reducible repeat (first | refine blk_drewN ?_ _ | refine blk_drew ?_)); exact BKr.out))); have BKc := Aside0.mk hbox; clear BKs BKo BKr HB; have BKs := n0_; have BKo := n1_; have BKr := n2_; have HB := n3_; have GEc := n4_; have NEsc := n5_; have NEoc := n6_; have NErc := n7_; clear n0_ n1_ n2_ n3_ n4_ n5_ n6_ n7_ hb hbox hg) | ((with_reducible refine gate_store (t := 123) (p := 7) rfl ?_); refine store_row_event rfl 123 _ _ rfl gc (ue (List.replicate 5 0)) rfl rfl 123 (ue (List.replicate 5 0)) (by (with_reducible repeat (first | refine blk_drewN ?_ _ | refine blk_drew ?_)); exact BKc.out) (by kernel_rfl) rfl (ue_one _) ?_; intro w9_ h1_ h2_ h3_; have n0_ := Aside0.mk (h3_ w.heap.size w (show Below w.heap.size w _ by repeat (first | exact HB.out | apply Below.drew | apply pw_below_drewN | refine Below.setCell ?_ GEs.out _ | refine Below.setCell ?_ GEo.out _ | refine Below.setCell ?_ GEr.out _ | refine Below.setCell ?_ GEc.out _)) GEc.out); have m0_ := Aside0.mk ((h2_ gs NEsc.out).trans (by (with_reducible repeat (first | refine blk_drewN ?_ _ | refine blk_drew ?_)); exact BKs.out)); have m1_ := Aside0.mk ((h2_ go NEoc.out).trans (by (with_reducible repeat (first | refine blk_drewN ?_ _ | refine blk_drew ?_)); exact BKo.out)); have m2_ := Aside0.mk ((h2_ gr NErc.out).trans (by (with_reducible repeat (first | refine blk_drewN ?_ _ | refine blk_drew ?_)); exact BKr.out)); clear HB BKc BKs BKo BKr; have HB := n0_; have BKc := Aside0.mk h1_; have BKs := m0_; have BKo := m1_; have BKr := m2_; clear n0_ h1_ h2_ h3_ m0_ m1_ m2_))
  go_loopg [8] 6 (fun kq v8 w' => ∃ (k : Nat) (x : Int), v8 = .int .i64 x ∧ Aside0 (x = (k : Int) ∧ k + kq = 6 ∧ k ≤ 5) ∧ Aside0 (w'.heap[gc]? = some (.cells (ue (cst s k)) 123 (0, 0))) ∧ Aside0 (w'.heap[gs]? = some (.cells (ue (s)) 92 (0, 0))) ∧ Aside0 (w'.heap[go]? = some (.cells (ue (turnsL)) 111 (0, 0))) ∧ Aside0 (w'.heap[gr]? = some (.cells (ue (List.replicate 25 0)) 92 (0, 0))) ∧ Aside0 (Below w.heap.size w w'))
  case atStart => exact ⟨0, 0, rfl, ⟨rfl, rfl, by decide⟩, ⟨by (with_reducible repeat (first | refine blk_drewN ?_ _ | refine blk_drew ?_)); exact BKc.out⟩, ⟨by (with_reducible repeat (first | refine blk_drewN ?_ _ | refine blk_drew ?_)); exact BKs.out⟩, ⟨by (with_reducible repeat (first | refine blk_drewN ?_ _ | refine blk_drew ?_)); exact BKo.out⟩, ⟨by (with_reducible repeat (first | refine blk_drewN ?_ _ | refine blk_drew ?_)); exact BKr.out⟩, ⟨(show Below w.heap.size w _ by repeat (first | exact HB.out | apply Below.drew | apply pw_below_drewN | refine Below.setCell ?_ GEs.out _ | refine Below.setCell ?_ GEo.out _ | refine Below.setCell ?_ GEr.out _ | refine Below.setCell ?_ GEc.out _))⟩⟩
  case round =>
    clear BKc BKs BKo BKr HB
    try clear c0
    obtain ⟨K1, x, rfl, HK1, BKc, BKs, BKo, BKr, HB⟩ := hrel
    cases gk with
    | zero => exact absurd HK1.out (by omega)
    | succ k1 =>
      by_cases c : K1 < 5
      · have c0 : decide (x < 5) = true := decide_eq_true (by have := HK1.out; omega)
        have HC1 := Aside0.mk c
        clear c
        obtain ⟨x5, hx5, ex5⟩ : ∃ y_, wrap64 (x + 5) = y_ ∧ Aside0 (y_ = ((K1 + 5 : Nat) : Int)) := ⟨_, rfl, ⟨by have := HK1.out; have := HC1.out; have := HS.out; first | (unfold wrap64; omega) | (rw [Int.tmod_eq_emod_of_nonneg (by omega)]; omega)⟩⟩
        obtain ⟨x10, hx10, ex10⟩ : ∃ y_, wrap64 (x + 10) = y_ ∧ Aside0 (y_ = ((K1 + 10 : Nat) : Int)) := ⟨_, rfl, ⟨by have := HK1.out; have := HC1.out; have := HS.out; have := ex5.out; first | (unfold wrap64; omega) | (rw [Int.tmod_eq_emod_of_nonneg (by omega)]; omega)⟩⟩
        obtain ⟨x15, hx15, ex15⟩ : ∃ y_, wrap64 (x + 15) = y_ ∧ Aside0 (y_ = ((K1 + 15 : Nat) : Int)) := ⟨_, rfl, ⟨by have := HK1.out; have := HC1.out; have := HS.out; have := ex5.out; have := ex10.out; first | (unfold wrap64; omega) | (rw [Int.tmod_eq_emod_of_nonneg (by omega)]; omega)⟩⟩
        obtain ⟨x20, hx20, ex20⟩ : ∃ y_, wrap64 (x + 20) = y_ ∧ Aside0 (y_ = ((K1 + 20 : Nat) : Int)) := ⟨_, rfl, ⟨by have := HK1.out; have := HC1.out; have := HS.out; have := ex5.out; have := ex10.out; have := ex15.out; first | (unfold wrap64; omega) | (rw [Int.tmod_eq_emod_of_nonneg (by omega)]; omega)⟩⟩
        have px : (0 ≤ x) = True := eq_true (by have := HK1.out; have := HC1.out; have := HS.out; have := ex5.out; have := ex10.out; have := ex15.out; have := ex20.out; omega)
        have qx_25 : (x < 25) = True := eq_true (by have := HK1.out; have := HC1.out; have := HS.out; have := ex5.out; have := ex10.out; have := ex15.out; have := ex20.out; omega)
        have px : (0 ≤ x) = True := eq_true (by have := HK1.out; have := HC1.out; have := HS.out; have := ex5.out; have := ex10.out; have := ex15.out; have := ex20.out; omega)
        have qx_5 : (x < 5) = True := eq_true (by have := HK1.out; have := HC1.out; have := HS.out; have := ex5.out; have := ex10.out; have := ex15.out; have := ex20.out; omega)
        have px5 : (0 ≤ x5) = True := eq_true (by have := HK1.out; have := HC1.out; have := HS.out; have := ex5.out; have := ex10.out; have := ex15.out; have := ex20.out; omega)
        have qx5_25 : (x5 < 25) = True := eq_true (by have := HK1.out; have := HC1.out; have := HS.out; have := ex5.out; have := ex10.out; have := ex15.out; have := ex20.out; omega)
        have px10 : (0 ≤ x10) = True := eq_true (by have := HK1.out; have := HC1.out; have := HS.out; have := ex5.out; have := ex10.out; have := ex15.out; have := ex20.out; omega)
        have qx10_25 : (x10 < 25) = True := eq_true (by have := HK1.out; have := HC1.out; have := HS.out; have := ex5.out; have := ex10.out; have := ex15.out; have := ex20.out; omega)
        have px15 : (0 ≤ x15) = True := eq_true (by have := HK1.out; have := HC1.out; have := HS.out; have := ex5.out; have := ex10.out; have := ex15.out; have := ex20.out; omega)
        have qx15_25 : (x15 < 25) = True := eq_true (by have := HK1.out; have := HC1.out; have := HS.out; have := ex5.out; have := ex10.out; have := ex15.out; have := ex20.out; omega)
        have px20 : (0 ≤ x20) = True := eq_true (by have := HK1.out; have := HC1.out; have := HS.out; have := ex5.out; have := ex10.out; have := ex15.out; have := ex20.out; omega)
        have qx20_25 : (x20 < 25) = True := eq_true (by have := HK1.out; have := HC1.out; have := HS.out; have := ex5.out; have := ex10.out; have := ex15.out; have := ex20.out; omega)
        have hc0 : wr.cell? ⟨gs, x.toNat, none⟩ = some (.int .u64 (ga (s) x.toNat)) := (blk_cell BKs.out _).trans (ue_get (by rw [HS.out]; have := HK1.out; have := HC1.out; have := HS.out; have := ex5.out; have := ex10.out; have := ex15.out; have := ex20.out; omega))
        have hc1 : wr.cell? ⟨gs, x5.toNat, none⟩ = some (.int .u64 (ga (s) x5.toNat)) := (blk_cell BKs.out _).trans (ue_get (by rw [HS.out]; have := HK1.out; have := HC1.out; have := HS.out; have := ex5.out; have := ex10.out; have := ex15.out; have := ex20.out; omega))
        have hc2 : wr.cell? ⟨gs, x10.toNat, none⟩ = some (.int .u64 (ga (s) x10.toNat)) := (blk_cell BKs.out _).trans (ue_get (by rw [HS.out]; have := HK1.out; have := HC1.out; have := HS.out; have := ex5.out; have := ex10.out; have := ex15.out; have := ex20.out; omega))
        have hc3 : wr.cell? ⟨gs, x15.toNat, none⟩ = some (.int .u64 (ga (s) x15.toNat)) := (blk_cell BKs.out _).trans (ue_get (by rw [HS.out]; have := HK1.out; have := HC1.out; have := HS.out; have := ex5.out; have := ex10.out; have := ex15.out; have := ex20.out; omega))
        have hc4 : wr.cell? ⟨gs, x20.toNat, none⟩ = some (.int .u64 (ga (s) x20.toNat)) := (blk_cell BKs.out _).trans (ue_get (by rw [HS.out]; have := HK1.out; have := HC1.out; have := HS.out; have := ex5.out; have := ex10.out; have := ex15.out; have := ex20.out; omega))
        have hst : wr.cell? ⟨gc, x.toNat, none⟩ = some (.int .u64 (ga (cst s K1) x.toNat)) := (blk_cell BKc.out _).trans (ue_get (by rw [cst_len]; have := HK1.out; have := HC1.out; have := HS.out; have := ex5.out; have := ex10.out; have := ex15.out; have := ex20.out; omega))
        have hfz : wr.frozen? ⟨gc, x.toNat, none⟩ = false := blk_frozen BKc.out _
        go_wp2
        refine start_ (n := 26) (S := fun w' => w'.cell? ⟨gs, x.toNat, none⟩ = some (.int .u64 (ga (s) x.toNat)) ∧ w'.cell? ⟨gs, x5.toNat, none⟩ = some (.int .u64 (ga (s) x5.toNat)) ∧ w'.cell? ⟨gs, x10.toNat, none⟩ = some (.int .u64 (ga (s) x10.toNat)) ∧ w'.cell? ⟨gs, x15.toNat, none⟩ = some (.int .u64 (ga (s) x15.toNat)) ∧ w'.cell? ⟨gs, x20.toNat, none⟩ = some (.int .u64 (ga (s) x20.toNat))) (ds := [25]) #[false, false, false, false, false, false, false, false, false, false, false, false, false, false, false, false, false, false, false, false, false, false, false, false, false, false] (by kernel_rfl) rfl rfl ⟨hc0, hc1, hc2, hc3, hc4⟩ (fun hHeld => ?_)
        refine with_tabW spec_l03Round.tab5 spec_l03Round.bits5 (fun HT_ HW_ => ?_)
        refine pI 0 (some 22) HT_.out ?_
        refine pI 1 (some 23) HT_.out ?_
        refine pI 2 (some 24) HT_.out ?_
        refine pI 4 (some 26) HT_.out ?_
        refine pI 5 (some 27) HT_.out ?_
        refine pI 6 (some 28) HT_.out ?_
        refine pI 9 (some 31) HT_.out ?_
        refine pI 10 (some 32) HT_.out ?_
        refine pI 11 (some 33) HT_.out ?_
        refine pI 14 (some 36) HT_.out ?_
        refine pI 15 (some 37) HT_.out ?_
        refine pI 16 (some 38) HT_.out ?_
        refine pI 19 (some 41) HT_.out ?_
        refine pI 20 (some 42) HT_.out ?_
        refine pI 21 (some 43) HT_.out ?_
        refine tI5 3 (some 25) HT_.out HW_.out hHeld ?_
        refine tI5 7 (some 29) HT_.out HW_.out hHeld ?_
        refine pI 8 (some 30) HT_.out ?_
        refine tI5 12 (some 34) HT_.out HW_.out hHeld ?_
        refine pI 13 (some 35) HT_.out ?_
        refine tI5 17 (some 39) HT_.out HW_.out hHeld ?_
        refine pI 18 (some 40) HT_.out ?_
        refine tI5 22 (some 44) HT_.out HW_.out hHeld ?_
        refine pI 23 (some 45) HT_.out ?_
        refine pI 24 (some 46) HT_.out ?_
        refine last_ (i := 25) (N := none) #[true, true, true, true, true, true, true, true, true, true, true, true, true, true, true, true, true, true, true, true, true, true, true, true, true, true] rfl rfl (one_of HT_.out (by kernel_rfl)) (by decide) (fun K hK => ?_)
        refine skip_ (w1 := ?_) (by rfl) rfl ?_ ?_
        rotate_left
        · go_simp
          rfl
        refine hK.out _ _ ?_
        clear hK K
        refine done_ (done_of HT_.out (by kernel_rfl)) ?_
        go_wp2
        go_roundg k1
        case measure => omega
        case rel => exact ⟨K1 + 1, _, rfl, ⟨by have := HK1.out; have := HC1.out; have := HS.out; have := ex5.out; have := ex10.out; have := ex15.out; have := ex20.out; first | omega | (unfold wrap64; omega), by have := HK1.out; have := HC1.out; have := HS.out; have := ex5.out; have := ex10.out; have := ex15.out; have := ex20.out; omega, by have := HK1.out; have := HC1.out; have := HS.out; have := ex5.out; have := ex10.out; have := ex15.out; have := ex20.out; omega⟩, ⟨by (with_reducible repeat (first | refine blk_drewN ?_ _ | refine blk_drew ?_)); refine blk_put (cs := ue (cst s K1)) (by (with_reducible repeat (first | refine blk_drewN ?_ _ | refine blk_drew ?_)); exact BKc.out) x.toNat _ ?_; rw [ue_set]; simp only [cst, col]; rw [show x.toNat = K1 by have := HK1.out; have := HC1.out; have := HS.out; have := ex5.out; have := ex10.out; have := ex15.out; have := ex20.out; omega, show x5.toNat = K1 + 5 by have := HK1.out; have := HC1.out; have := HS.out; have := ex5.out; have := ex10.out; have := ex15.out; have := ex20.out; omega, show x10.toNat = K1 + 10 by have := HK1.out; have := HC1.out; have := HS.out; have := ex5.out; have := ex10.out; have := ex15.out; have := ex20.out; omega, show x15.toNat = K1 + 15 by have := HK1.out; have := HC1.out; have := HS.out; have := ex5.out; have := ex10.out; have := ex15.out; have := ex20.out; omega, show x20.toNat = K1 + 20 by have := HK1.out; have := HC1.out; have := HS.out; have := ex5.out; have := ex10.out; have := ex15.out; have := ex20.out; omega]⟩, ⟨by (with_reducible repeat (first | refine blk_drewN ?_ _ | refine blk_drew ?_)); refine blk_far ?_ (p := ⟨gc, _, none⟩) NEsc.out _; (with_reducible repeat (first | refine blk_drewN ?_ _ | refine blk_drew ?_)); exact BKs.out⟩, ⟨by (with_reducible repeat (first | refine blk_drewN ?_ _ | refine blk_drew ?_)); refine blk_far ?_ (p := ⟨gc, _, none⟩) NEoc.out _; (with_reducible repeat (first | refine blk_drewN ?_ _ | refine blk_drew ?_)); exact BKo.out⟩, ⟨by (with_reducible repeat (first | refine blk_drewN ?_ _ | refine blk_drew ?_)); refine blk_far ?_ (p := ⟨gc, _, none⟩) NErc.out _; (with_reducible repeat (first | refine blk_drewN ?_ _ | refine blk_drew ?_)); exact BKr.out⟩, ⟨(show Below w.heap.size w _ by repeat (first | exact HB.out | apply Below.drew | apply pw_below_drewN | refine Below.setCell ?_ GEs.out _ | refine Below.setCell ?_ GEo.out _ | refine Below.setCell ?_ GEr.out _ | refine Below.setCell ?_ GEc.out _))⟩⟩
      · have c0 : decide (x < 5) = false := decide_eq_false (by have := HK1.out; omega)
        obtain rfl : K1 = 5 := by have := HK1.out; omega
        clear c HK1
        go_wp2_with (first | ((with_reducible refine gate_dst (N := 47) rfl ?_); refine wpList_buildA rfl 92 _ rfl (cs := ue (List.replicate 25 0)) ?hb ?_; (case hb => exact built0_92)) | ((with_reducible refine gate_dst (N := 9) rfl ?_); refine box_event ?hg (N := 9) ?hd (cs := ue (List.replicate 25 0)) (t := 92) ?hr ?_; (case hd => rfl); (case hg => rfl); (case hr => first | (go_simp; done) | (go_simp; rfl)); intro gb hg w1_ hbox hb; have n0_ := Aside0.mk (blk_below (by (with_reducible repeat (first | refine blk_drewN ?_ _ | refine blk_drew ?_)); exact BKs.out) hb); have n1_ := Aside0.mk (blk_below (by (with_reducible repeat (first | refine blk_drewN ?_ _ | refine blk_drew ?_)); exact BKo.out) hb); have n2_ := Aside0.mk (blk_below (by (with_reducible repeat (first | refine blk_drewN ?_ _ | refine blk_drew ?_)); exact BKr.out) hb); have n3_ := Aside0.mk (blk_below (by (with_reducible repeat (first | refine blk_drewN ?_ _ | refine blk_drew ?_)); exact BKc.out) hb); have n4_ := Aside0.mk (below_then (show Below w.heap.size w _ by repeat (first | exact HB.out | apply Below.drew | apply pw_below_drewN | refine Below.setCell ?_ GEs.out _ | refine Below.setCell ?_ GEo.out _ | refine Below.setCell ?_ GEr.out _ | refine Below.setCell ?_ GEc.out _)) (Below.size (show Below w.heap.size w _ by repeat (first | exact HB.out | apply Below.drew | apply pw_below_drewN | refine Below.setCell ?_ GEs.out _ | refine Below.setCell ?_ GEo.out _ | refine Below.setCell ?_ GEr.out _ | refine Below.setCell ?_ GEc.out _))) hb); have n5_ := Aside0.mk (show w.heap.size ≤ gb by rw [hg]; exact (Below.size (show Below w.heap.size w _ by repeat (first | exact HB.out | apply Below.drew | apply pw_below_drewN | refine Below.setCell ?_ GEs.out _ | refine Below.setCell ?_ GEo.out _ | refine Below.setCell ?_ GEr.out _ | refine Below.setCell ?_ GEc.out _)))); have n6_ := Aside0.mk (show gs ≠ gb by rw [hg]; exact Nat.ne_of_lt (blk_lt (o := .cells _ _ _) (by (with_reducible repeat (first | refine blk_drewN ?_ _ | refine blk_drew ?_)); exact BKs.out))); have n7_ := Aside0.mk (show go ≠ gb by rw [hg]; exact Nat.ne_of_lt (blk_lt (o := .cells _ _ _) (by (with_reducible repeat (first | refine blk_drewN ?_ _ | refine blk_drew ?_)); exact BKo.out))); have n8_ := Aside0.mk (show gr ≠ gb by rw [hg]; exact Nat.ne_of_lt (blk_lt (o := .cells _ _ _) (by (with_reducible repeat (first | refine blk_drewN ?_ _ | refine blk_drew ?_)); exact BKr.out))); have n9_ := Aside0.mk (show gc ≠ gb by rw [hg]; exact Nat.ne_of_lt (blk_lt (o := .cells _ _ _) (by (with_reducible repeat (first | refine blk_drewN ?_ _ | refine blk_drew ?_)); exact BKc.out))); have BKb := Aside0.mk hbox; clear BKs BKo BKr BKc HB; have BKs := n0_; have BKo := n1_; have BKr := n2_; have BKc := n3_; have HB := n4_; have GEb := n5_; have NEsb := n6_; have NEob := n7_; have NErb := n8_; have NEcb := n9_; clear n0_ n1_ n2_ n3_ n4_ n5_ n6_ n7_ n8_ n9_ hb hbox hg) | ((with_reducible refine gate_store (t := 92) (p := 9) rfl ?_); refine store_row_event rfl 92 _ _ rfl gb (ue (List.replicate 25 0)) rfl rfl 92 (ue (List.replicate 25 0)) (by (with_reducible repeat (first | refine blk_drewN ?_ _ | refine blk_drew ?_)); exact BKb.out) (by kernel_rfl) rfl (ue_one _) ?_; intro w9_ h1_ h2_ h3_; have n0_ := Aside0.mk (h3_ w.heap.size w (show Below w.heap.size w _ by repeat (first | exact HB.out | apply Below.drew | apply pw_below_drewN | refine Below.setCell ?_ GEs.out _ | refine Below.setCell ?_ GEo.out _ | refine Below.setCell ?_ GEr.out _ | refine Below.setCell ?_ GEc.out _ | refine Below.setCell ?_ GEb.out _)) GEb.out); have m0_ := Aside0.mk ((h2_ gs NEsb.out).trans (by (with_reducible repeat (first | refine blk_drewN ?_ _ | refine blk_drew ?_)); exact BKs.out)); have m1_ := Aside0.mk ((h2_ go NEob.out).trans (by (with_reducible repeat (first | refine blk_drewN ?_ _ | refine blk_drew ?_)); exact BKo.out)); have m2_ := Aside0.mk ((h2_ gr NErb.out).trans (by (with_reducible repeat (first | refine blk_drewN ?_ _ | refine blk_drew ?_)); exact BKr.out)); have m3_ := Aside0.mk ((h2_ gc NEcb.out).trans (by (with_reducible repeat (first | refine blk_drewN ?_ _ | refine blk_drew ?_)); exact BKc.out)); clear HB BKb BKs BKo BKr BKc; have HB := n0_; have BKb := Aside0.mk h1_; have BKs := m0_; have BKo := m1_; have BKr := m2_; have BKc := m3_; clear n0_ h1_ h2_ h3_ m0_ m1_ m2_ m3_))
        go_loopg [10] 6 (fun kq v10 w' => ∃ (k : Nat) (x : Int), v10 = .int .i64 x ∧ Aside0 (x = (k : Int) ∧ k + kq = 6 ∧ k ≤ 5) ∧ Aside0 (w'.heap[gc]? = some (.cells (ue (cst s 5)) 123 (0, 0))) ∧ Aside0 (w'.heap[gs]? = some (.cells (ue (s)) 92 (0, 0))) ∧ Aside0 (w'.heap[go]? = some (.cells (ue (turnsL)) 111 (0, 0))) ∧ Aside0 (w'.heap[gr]? = some (.cells (ue (List.replicate 25 0)) 92 (0, 0))) ∧ Aside0 (w'.heap[gb]? = some (.cells (ue (bstS s (cst s 5) (5 * k))) 92 (0, 0))) ∧ Aside0 (Below w.heap.size w w'))
        case atStart => exact ⟨0, 0, rfl, ⟨rfl, rfl, by decide⟩, ⟨by (with_reducible repeat (first | refine blk_drewN ?_ _ | refine blk_drew ?_)); exact BKc.out⟩, ⟨by (with_reducible repeat (first | refine blk_drewN ?_ _ | refine blk_drew ?_)); exact BKs.out⟩, ⟨by (with_reducible repeat (first | refine blk_drewN ?_ _ | refine blk_drew ?_)); exact BKo.out⟩, ⟨by (with_reducible repeat (first | refine blk_drewN ?_ _ | refine blk_drew ?_)); exact BKr.out⟩, ⟨by (with_reducible repeat (first | refine blk_drewN ?_ _ | refine blk_drew ?_)); exact BKb.out⟩, ⟨(show Below w.heap.size w _ by repeat (first | exact HB.out | apply Below.drew | apply pw_below_drewN | refine Below.setCell ?_ GEs.out _ | refine Below.setCell ?_ GEo.out _ | refine Below.setCell ?_ GEr.out _ | refine Below.setCell ?_ GEc.out _ | refine Below.setCell ?_ GEb.out _))⟩⟩
        case round =>
          clear BKc BKs BKo BKr BKb HB
          try clear c0
          obtain ⟨K2, x, rfl, HK2, BKc, BKs, BKo, BKr, BKb, HB⟩ := hrel
          cases gk with
          | zero => exact absurd HK2.out (by omega)
          | succ k2 =>
            by_cases c : K2 < 5
            · have c0 : decide (x < 5) = true := decide_eq_true (by have := HK2.out; omega)
              have HC2 := Aside0.mk c
              clear c
              obtain ⟨a1, ha1, ea1⟩ : ∃ y_, wrap64 (x + 4) = y_ ∧ Aside0 (y_ = ((K2 + 4 : Nat) : Int)) := ⟨_, rfl, ⟨by have := HK2.out; have := HC2.out; have := HS.out; first | (unfold wrap64; omega) | (rw [Int.tmod_eq_emod_of_nonneg (by omega)]; omega)⟩⟩
              obtain ⟨a2, ha2, ea2⟩ : ∃ y_, Int.tmod a1 5 = y_ ∧ Aside0 (y_ = (((K2 + 4) % 5 : Nat) : Int)) := ⟨_, rfl, ⟨by have := HK2.out; have := HC2.out; have := HS.out; have := ea1.out; first | (unfold wrap64; omega) | (rw [Int.tmod_eq_emod_of_nonneg (by omega)]; omega)⟩⟩
              obtain ⟨b1, hb1, eb1⟩ : ∃ y_, wrap64 (x + 1) = y_ ∧ Aside0 (y_ = ((K2 + 1 : Nat) : Int)) := ⟨_, rfl, ⟨by have := HK2.out; have := HC2.out; have := HS.out; have := ea1.out; have := ea2.out; first | (unfold wrap64; omega) | (rw [Int.tmod_eq_emod_of_nonneg (by omega)]; omega)⟩⟩
              obtain ⟨b2, hb2, eb2⟩ : ∃ y_, Int.tmod b1 5 = y_ ∧ Aside0 (y_ = (((K2 + 1) % 5 : Nat) : Int)) := ⟨_, rfl, ⟨by have := HK2.out; have := HC2.out; have := HS.out; have := ea1.out; have := ea2.out; have := eb1.out; first | (unfold wrap64; omega) | (rw [Int.tmod_eq_emod_of_nonneg (by omega)]; omega)⟩⟩
              have pa2 : (0 ≤ a2) = True := eq_true (by have := HK2.out; have := HC2.out; have := HS.out; have := ea1.out; have := ea2.out; have := eb1.out; have := eb2.out; omega)
              have qa2_5 : (a2 < 5) = True := eq_true (by have := HK2.out; have := HC2.out; have := HS.out; have := ea1.out; have := ea2.out; have := eb1.out; have := eb2.out; omega)
              have pb2 : (0 ≤ b2) = True := eq_true (by have := HK2.out; have := HC2.out; have := HS.out; have := ea1.out; have := ea2.out; have := eb1.out; have := eb2.out; omega)
              have qb2_5 : (b2 < 5) = True := eq_true (by have := HK2.out; have := HC2.out; have := HS.out; have := ea1.out; have := ea2.out; have := eb1.out; have := eb2.out; omega)
              have hc0 : wr.cell? ⟨gc, a2.toNat, none⟩ = some (.int .u64 (ga (cst s 5) a2.toNat)) := (blk_cell BKc.out _).trans (ue_get (by rw [cst_len]; have := HK2.out; have := HC2.out; have := HS.out; have := ea1.out; have := ea2.out; have := eb1.out; have := eb2.out; omega))
              have hc1 : wr.cell? ⟨gc, b2.toNat, none⟩ = some (.int .u64 (ga (cst s 5) b2.toNat)) := (blk_cell BKc.out _).trans (ue_get (by rw [cst_len]; have := HK2.out; have := HC2.out; have := HS.out; have := ea1.out; have := ea2.out; have := eb1.out; have := eb2.out; omega))
              have HRa := Aside0.mk (turn_f (v := ga (cst s 5) b2.toNat) tok_one)
              go_wp2
              refine start_ (n := 13) (S := fun w' => w'.cell? ⟨gc, a2.toNat, none⟩ = some (.int .u64 (ga (cst s 5) a2.toNat)) ∧ w'.cell? ⟨gc, b2.toNat, none⟩ = some (.int .u64 (ga (cst s 5) b2.toNat))) (ds := []) #[false, false, false, false, false, false, false, false, false, false, false, false, false] (by kernel_rfl) rfl rfl ⟨hc0, hc1⟩ (fun hHeld => ?_)
              refine with_tabW spec_l03Round.tab10 spec_l03Round.bits10 (fun HT_ HW_ => ?_)
              refine pI 0 (some 52) HT_.out ?_
              refine pI 1 (some 53) HT_.out ?_
              refine pI 2 (some 54) HT_.out ?_
              refine pI 3 (some 55) HT_.out ?_
              refine pI 5 (some 57) HT_.out ?_
              refine pI 6 (some 58) HT_.out ?_
              refine pI 7 (some 59) HT_.out ?_
              refine pI 8 (some 60) HT_.out ?_
              refine tI2 4 (some 56) HT_.out HW_.out hHeld ?_
              refine tI2 9 (some 61) HT_.out HW_.out hHeld ?_
              refine oI 10 (some 62) HT_.out (fun K hK => ?_)
              refine goes_ Tryd.func135 (by kernel_rfl) rfl #[.int .u64 (ga (cst s 5) b2.toNat), .int .u64 (1)] (by rfl) rfl rfl (by simp only [List.map_toArray, List.map_cons, List.map_nil]; rfl) ?_
              with_reducible refine (spec_l03Turn.calls _ _ _ _ HRa.out).mono ?_
              rintro e w3_ ⟨rfl, ⟨nd, rfl⟩⟩
              refine ⟨_, rfl, ?_⟩
              refine hK.out _ _ ⟨(by exact hHeld.1), (by exact hHeld.2)⟩ (fun hHeld => ?_)
              clear hK K
              refine nO (some 62) ?_
              refine pI 11 (some 63) HT_.out ?_
              refine pI 12 (some 11) HT_.out ?_
              refine done_ (done_of HT_.out (by kernel_rfl)) ?_
              go_wp2
              clear hb1 ha1
              go_loopg [12] 6 (fun kq v12 w' => ∃ (k : Nat) (x : Int), v12 = .int .i64 x ∧ Aside0 (x = (k : Int) ∧ k + kq = 6 ∧ k ≤ 5) ∧ Aside0 (w'.heap[gc]? = some (.cells (ue (cst s 5)) 123 (0, 0))) ∧ Aside0 (w'.heap[gs]? = some (.cells (ue (s)) 92 (0, 0))) ∧ Aside0 (w'.heap[go]? = some (.cells (ue (turnsL)) 111 (0, 0))) ∧ Aside0 (w'.heap[gr]? = some (.cells (ue (List.replicate 25 0)) 92 (0, 0))) ∧ Aside0 (w'.heap[gb]? = some (.cells (ue (bstS s (cst s 5) (5 * K2 + k))) 92 (0, 0))) ∧ Aside0 (Below w.heap.size w w'))
              case atStart => exact ⟨0, 0, rfl, ⟨rfl, rfl, by decide⟩, ⟨by (with_reducible repeat (first | refine blk_drewN ?_ _ | refine blk_drew ?_)); exact BKc.out⟩, ⟨by (with_reducible repeat (first | refine blk_drewN ?_ _ | refine blk_drew ?_)); exact BKs.out⟩, ⟨by (with_reducible repeat (first | refine blk_drewN ?_ _ | refine blk_drew ?_)); exact BKo.out⟩, ⟨by (with_reducible repeat (first | refine blk_drewN ?_ _ | refine blk_drew ?_)); exact BKr.out⟩, ⟨by (with_reducible repeat (first | refine blk_drewN ?_ _ | refine blk_drew ?_)); exact BKb.out⟩, ⟨(show Below w.heap.size w _ by repeat (first | exact HB.out | apply Below.drew | apply pw_below_drewN | refine Below.setCell ?_ GEs.out _ | refine Below.setCell ?_ GEo.out _ | refine Below.setCell ?_ GEr.out _ | refine Below.setCell ?_ GEc.out _ | refine Below.setCell ?_ GEb.out _))⟩⟩
              case round =>
                clear BKc BKs BKo BKr BKb HB
                try clear c0
                obtain ⟨K3, y, rfl, HK3, BKc, BKs, BKo, BKr, BKb, HB⟩ := hrel
                cases gk with
                | zero => exact absurd HK3.out (by omega)
                | succ k3 =>
                  by_cases c : K3 < 5
                  · have c0 : decide (y < 5) = true := decide_eq_true (by have := HK3.out; omega)
                    have HC3 := Aside0.mk c
                    clear c
                    obtain ⟨z1, hz1, ez1⟩ : ∃ y_, wrap64 (5 * y) = y_ ∧ Aside0 (y_ = ((5 * K3 : Nat) : Int)) := ⟨_, rfl, ⟨by have := HK2.out; have := HC2.out; have := HS.out; have := ea1.out; have := ea2.out; have := eb1.out; have := eb2.out; have := HK3.out; have := HC3.out; first | (unfold wrap64; omega) | (rw [Int.tmod_eq_emod_of_nonneg (by omega)]; omega)⟩⟩
                    obtain ⟨z2, hz2, ez2⟩ : ∃ y_, wrap64 (x + z1) = y_ ∧ Aside0 (y_ = ((K2 + 5 * K3 : Nat) : Int)) := ⟨_, rfl, ⟨by have := HK2.out; have := HC2.out; have := HS.out; have := ea1.out; have := ea2.out; have := eb1.out; have := eb2.out; have := HK3.out; have := HC3.out; have := ez1.out; first | (unfold wrap64; omega) | (rw [Int.tmod_eq_emod_of_nonneg (by omega)]; omega)⟩⟩
                    obtain ⟨m1, hm1, em1⟩ : ∃ y_, wrap64 (2 * x) = y_ ∧ Aside0 (y_ = ((2 * K2 : Nat) : Int)) := ⟨_, rfl, ⟨by have := HK2.out; have := HC2.out; have := HS.out; have := ea1.out; have := ea2.out; have := eb1.out; have := eb2.out; have := HK3.out; have := HC3.out; have := ez1.out; have := ez2.out; first | (unfold wrap64; omega) | (rw [Int.tmod_eq_emod_of_nonneg (by omega)]; omega)⟩⟩
                    obtain ⟨m2, hm2, em2⟩ : ∃ y_, wrap64 (3 * y) = y_ ∧ Aside0 (y_ = ((3 * K3 : Nat) : Int)) := ⟨_, rfl, ⟨by have := HK2.out; have := HC2.out; have := HS.out; have := ea1.out; have := ea2.out; have := eb1.out; have := eb2.out; have := HK3.out; have := HC3.out; have := ez1.out; have := ez2.out; have := em1.out; first | (unfold wrap64; omega) | (rw [Int.tmod_eq_emod_of_nonneg (by omega)]; omega)⟩⟩
                    obtain ⟨m3, hm3, em3⟩ : ∃ y_, wrap64 (m1 + m2) = y_ ∧ Aside0 (y_ = ((2 * K2 + 3 * K3 : Nat) : Int)) := ⟨_, rfl, ⟨by have := HK2.out; have := HC2.out; have := HS.out; have := ea1.out; have := ea2.out; have := eb1.out; have := eb2.out; have := HK3.out; have := HC3.out; have := ez1.out; have := ez2.out; have := em1.out; have := em2.out; first | (unfold wrap64; omega) | (rw [Int.tmod_eq_emod_of_nonneg (by omega)]; omega)⟩⟩
                    obtain ⟨m4, hm4, em4⟩ : ∃ y_, Int.tmod m3 5 = y_ ∧ Aside0 (y_ = (((2 * K2 + 3 * K3) % 5 : Nat) : Int)) := ⟨_, rfl, ⟨by have := HK2.out; have := HC2.out; have := HS.out; have := ea1.out; have := ea2.out; have := eb1.out; have := eb2.out; have := HK3.out; have := HC3.out; have := ez1.out; have := ez2.out; have := em1.out; have := em2.out; have := em3.out; first | (unfold wrap64; omega) | (rw [Int.tmod_eq_emod_of_nonneg (by omega)]; omega)⟩⟩
                    obtain ⟨m5, hm5, em5⟩ : ∃ y_, wrap64 (5 * m4) = y_ ∧ Aside0 (y_ = ((5 * ((2 * K2 + 3 * K3) % 5) : Nat) : Int)) := ⟨_, rfl, ⟨by have := HK2.out; have := HC2.out; have := HS.out; have := ea1.out; have := ea2.out; have := eb1.out; have := eb2.out; have := HK3.out; have := HC3.out; have := ez1.out; have := ez2.out; have := em1.out; have := em2.out; have := em3.out; have := em4.out; first | (unfold wrap64; omega) | (rw [Int.tmod_eq_emod_of_nonneg (by omega)]; omega)⟩⟩
                    obtain ⟨m6, hm6, em6⟩ : ∃ y_, wrap64 (y + m5) = y_ ∧ Aside0 (y_ = ((K3 + 5 * ((2 * K2 + 3 * K3) % 5) : Nat) : Int)) := ⟨_, rfl, ⟨by have := HK2.out; have := HC2.out; have := HS.out; have := ea1.out; have := ea2.out; have := eb1.out; have := eb2.out; have := HK3.out; have := HC3.out; have := ez1.out; have := ez2.out; have := em1.out; have := em2.out; have := em3.out; have := em4.out; have := em5.out; first | (unfold wrap64; omega) | (rw [Int.tmod_eq_emod_of_nonneg (by omega)]; omega)⟩⟩
                    have pm6 : (0 ≤ m6) = True := eq_true (by have := HK2.out; have := HC2.out; have := HS.out; have := ea1.out; have := ea2.out; have := eb1.out; have := eb2.out; have := HK3.out; have := HC3.out; have := ez1.out; have := ez2.out; have := em1.out; have := em2.out; have := em3.out; have := em4.out; have := em5.out; have := em6.out; omega)
                    have qm6_25 : (m6 < 25) = True := eq_true (by have := HK2.out; have := HC2.out; have := HS.out; have := ea1.out; have := ea2.out; have := eb1.out; have := eb2.out; have := HK3.out; have := HC3.out; have := ez1.out; have := ez2.out; have := em1.out; have := em2.out; have := em3.out; have := em4.out; have := em5.out; have := em6.out; omega)
                    have pz2 : (0 ≤ z2) = True := eq_true (by have := HK2.out; have := HC2.out; have := HS.out; have := ea1.out; have := ea2.out; have := eb1.out; have := eb2.out; have := HK3.out; have := HC3.out; have := ez1.out; have := ez2.out; have := em1.out; have := em2.out; have := em3.out; have := em4.out; have := em5.out; have := em6.out; omega)
                    have qz2_25 : (z2 < 25) = True := eq_true (by have := HK2.out; have := HC2.out; have := HS.out; have := ea1.out; have := ea2.out; have := eb1.out; have := eb2.out; have := HK3.out; have := HC3.out; have := ez1.out; have := ez2.out; have := em1.out; have := em2.out; have := em3.out; have := em4.out; have := em5.out; have := em6.out; omega)
                    have hd0 : wr.cell? ⟨gs, z2.toNat, none⟩ = some (.int .u64 (ga (s) z2.toNat)) := (blk_cell BKs.out _).trans (ue_get (by rw [HS.out]; have := HK2.out; have := HC2.out; have := HS.out; have := ea1.out; have := ea2.out; have := eb1.out; have := eb2.out; have := HK3.out; have := HC3.out; have := ez1.out; have := ez2.out; have := em1.out; have := em2.out; have := em3.out; have := em4.out; have := em5.out; have := em6.out; omega))
                    have hd1 : wr.cell? ⟨go, z2.toNat, none⟩ = some (.int .u64 (ga (turnsL) z2.toNat)) := (blk_cell BKo.out _).trans (ue_get (by show z2.toNat < turnsL.length; show z2.toNat < 25; have := HK2.out; have := HC2.out; have := HS.out; have := ea1.out; have := ea2.out; have := eb1.out; have := eb2.out; have := HK3.out; have := HC3.out; have := ez1.out; have := ez2.out; have := em1.out; have := em2.out; have := em3.out; have := em4.out; have := em5.out; have := em6.out; omega))
                    have hst : wr.cell? ⟨gb, m6.toNat, none⟩ = some (.int .u64 (ga (bstS s (cst s 5) (5 * K2 + K3)) m6.toNat)) := (blk_cell BKb.out _).trans (ue_get (by rw [bstS_len]; have := HK2.out; have := HC2.out; have := HS.out; have := ea1.out; have := ea2.out; have := eb1.out; have := eb2.out; have := HK3.out; have := HC3.out; have := ez1.out; have := ez2.out; have := em1.out; have := em2.out; have := em3.out; have := em4.out; have := em5.out; have := em6.out; omega))
                    have hfz : wr.frozen? ⟨gb, m6.toNat, none⟩ = false := blk_frozen BKb.out _
                    have hz25 : z2.toNat < 25 := by have := HK2.out; have := HC2.out; have := HS.out; have := ea1.out; have := ea2.out; have := eb1.out; have := eb2.out; have := HK3.out; have := HC3.out; have := ez1.out; have := ez2.out; have := em1.out; have := em2.out; have := em3.out; have := em4.out; have := em5.out; have := em6.out; omega
                    have HRb := Aside0.mk (show spec_l03Turn.f (Go.bits .xor .u64 (ga s z2.toNat) (Go.bits .xor .u64 (ga (cst s 5) a2.toNat) (tn (ga (cst s 5) b2.toNat) 1))) (ga turnsL z2.toNat) = some (tn (Go.bits .xor .u64 (ga s z2.toNat) (Go.bits .xor .u64 (ga (cst s 5) a2.toNat) (tn (ga (cst s 5) b2.toNat) 1))) (ga turnsL z2.toNat)) from turn_f (tok_turns ⟨z2.toNat, hz25⟩))
                    clear hz25
                    by_cases hk : ga turnsL z2.toNat > 0
                    · have hk0 : decide (ga turnsL z2.toNat > 0) = true := decide_eq_true hk
                      have HKK := Aside0.mk hk
                      clear hk
                      go_wp2_with (first | (go_at_call 135; (with_reducible refine (spec_l03Turn.calls _ _ _ _ HRb.out).mono ?_); rintro e w3_ ⟨rfl, ⟨nd, rfl⟩⟩))
                      go_roundg k3
                      case measure => omega
                      case rel => exact ⟨K3 + 1, _, rfl, ⟨by have := HK2.out; have := HC2.out; have := HS.out; have := ea1.out; have := ea2.out; have := eb1.out; have := eb2.out; have := HK3.out; have := HC3.out; have := ez1.out; have := ez2.out; have := em1.out; have := em2.out; have := em3.out; have := em4.out; have := em5.out; have := em6.out; first | omega | (unfold wrap64; omega), by have := HK2.out; have := HC2.out; have := HS.out; have := ea1.out; have := ea2.out; have := eb1.out; have := eb2.out; have := HK3.out; have := HC3.out; have := ez1.out; have := ez2.out; have := em1.out; have := em2.out; have := em3.out; have := em4.out; have := em5.out; have := em6.out; omega, by have := HK2.out; have := HC2.out; have := HS.out; have := ea1.out; have := ea2.out; have := eb1.out; have := eb2.out; have := HK3.out; have := HC3.out; have := ez1.out; have := ez2.out; have := em1.out; have := em2.out; have := em3.out; have := em4.out; have := em5.out; have := em6.out; omega⟩, ⟨by (with_reducible repeat (first | refine blk_drewN ?_ _ | refine blk_drew ?_)); refine blk_far ?_ (p := ⟨gb, _, none⟩) NEcb.out _; (with_reducible repeat (first | refine blk_drewN ?_ _ | refine blk_drew ?_)); exact BKc.out⟩, ⟨by (with_reducible repeat (first | refine blk_drewN ?_ _ | refine blk_drew ?_)); refine blk_far ?_ (p := ⟨gb, _, none⟩) NEsb.out _; (with_reducible repeat (first | refine blk_drewN ?_ _ | refine blk_drew ?_)); exact BKs.out⟩, ⟨by (with_reducible repeat (first | refine blk_drewN ?_ _ | refine blk_drew ?_)); refine blk_far ?_ (p := ⟨gb, _, none⟩) NEob.out _; (with_reducible repeat (first | refine blk_drewN ?_ _ | refine blk_drew ?_)); exact BKo.out⟩, ⟨by (with_reducible repeat (first | refine blk_drewN ?_ _ | refine blk_drew ?_)); refine blk_far ?_ (p := ⟨gb, _, none⟩) NErb.out _; (with_reducible repeat (first | refine blk_drewN ?_ _ | refine blk_drew ?_)); exact BKr.out⟩, ⟨by have hkk_ := HKK.out; (with_reducible repeat (first | refine blk_drewN ?_ _ | refine blk_drew ?_)); refine blk_put (cs := ue (bstS s (cst s 5) (5 * K2 + K3))) (by (with_reducible repeat (first | refine blk_drewN ?_ _ | refine blk_drew ?_)); exact BKb.out) m6.toNat _ ?_; rw [ue_set, bstS_succ s _ (by have := HK2.out; have := HC2.out; have := HS.out; have := ea1.out; have := ea2.out; have := eb1.out; have := eb2.out; have := HK3.out; have := HC3.out; have := ez1.out; have := ez2.out; have := em1.out; have := em2.out; have := em3.out; have := em4.out; have := em5.out; have := em6.out; omega)]; simp only [batS, ddS]; rw [show z2.toNat = K2 + 5 * K3 by have := HK2.out; have := HC2.out; have := HS.out; have := ea1.out; have := ea2.out; have := eb1.out; have := eb2.out; have := HK3.out; have := HC3.out; have := ez1.out; have := ez2.out; have := em1.out; have := em2.out; have := em3.out; have := em4.out; have := em5.out; have := em6.out; omega] at hkk_; rw [show m6.toNat = K3 + 5 * ((2 * K2 + 3 * K3) % 5) by have := HK2.out; have := HC2.out; have := HS.out; have := ea1.out; have := ea2.out; have := eb1.out; have := eb2.out; have := HK3.out; have := HC3.out; have := ez1.out; have := ez2.out; have := em1.out; have := em2.out; have := em3.out; have := em4.out; have := em5.out; have := em6.out; omega, show z2.toNat = K2 + 5 * K3 by have := HK2.out; have := HC2.out; have := HS.out; have := ea1.out; have := ea2.out; have := eb1.out; have := eb2.out; have := HK3.out; have := HC3.out; have := ez1.out; have := ez2.out; have := em1.out; have := em2.out; have := em3.out; have := em4.out; have := em5.out; have := em6.out; omega, show a2.toNat = (K2 + 4) % 5 by have := HK2.out; have := HC2.out; have := HS.out; have := ea1.out; have := ea2.out; have := eb1.out; have := eb2.out; have := HK3.out; have := HC3.out; have := ez1.out; have := ez2.out; have := em1.out; have := em2.out; have := em3.out; have := em4.out; have := em5.out; have := em6.out; omega, show b2.toNat = (K2 + 1) % 5 by have := HK2.out; have := HC2.out; have := HS.out; have := ea1.out; have := ea2.out; have := eb1.out; have := eb2.out; have := HK3.out; have := HC3.out; have := ez1.out; have := ez2.out; have := em1.out; have := em2.out; have := em3.out; have := em4.out; have := em5.out; have := em6.out; omega]; exact congrArg (fun v_ => ue (List.set (bstS s (cst s 5) (5 * K2 + K3)) (K3 + 5 * ((2 * K2 + 3 * K3) % 5)) v_)) (if_pos hkk_).symm⟩, ⟨(show Below w.heap.size w _ by repeat (first | exact HB.out | apply Below.drew | apply pw_below_drewN | refine Below.setCell ?_ GEs.out _ | refine Below.setCell ?_ GEo.out _ | refine Below.setCell ?_ GEr.out _ | refine Below.setCell ?_ GEc.out _ | refine Below.setCell ?_ GEb.out _))⟩⟩
                    · have hk0 : decide (ga turnsL z2.toNat > 0) = false := decide_eq_false hk
                      have HKK := Aside0.mk hk
                      clear hk
                      go_wp2
                      go_roundg k3
                      case measure => omega
                      case rel => exact ⟨K3 + 1, _, rfl, ⟨by have := HK2.out; have := HC2.out; have := HS.out; have := ea1.out; have := ea2.out; have := eb1.out; have := eb2.out; have := HK3.out; have := HC3.out; have := ez1.out; have := ez2.out; have := em1.out; have := em2.out; have := em3.out; have := em4.out; have := em5.out; have := em6.out; first | omega | (unfold wrap64; omega), by have := HK2.out; have := HC2.out; have := HS.out; have := ea1.out; have := ea2.out; have := eb1.out; have := eb2.out; have := HK3.out; have := HC3.out; have := ez1.out; have := ez2.out; have := em1.out; have := em2.out; have := em3.out; have := em4.out; have := em5.out; have := em6.out; omega, by have := HK2.out; have := HC2.out; have := HS.out; have := ea1.out; have := ea2.out; have := eb1.out; have := eb2.out; have := HK3.out; have := HC3.out; have := ez1.out; have := ez2.out; have := em1.out; have := em2.out; have := em3.out; have := em4.out; have := em5.out; have := em6.out; omega⟩, ⟨by (with_reducible repeat (first | refine blk_drewN ?_ _ | refine blk_drew ?_)); refine blk_far ?_ (p := ⟨gb, _, none⟩) NEcb.out _; (with_reducible repeat (first | refine blk_drewN ?_ _ | refine blk_drew ?_)); exact BKc.out⟩, ⟨by (with_reducible repeat (first | refine blk_drewN ?_ _ | refine blk_drew ?_)); refine blk_far ?_ (p := ⟨gb, _, none⟩) NEsb.out _; (with_reducible repeat (first | refine blk_drewN ?_ _ | refine blk_drew ?_)); exact BKs.out⟩, ⟨by (with_reducible repeat (first | refine blk_drewN ?_ _ | refine blk_drew ?_)); refine blk_far ?_ (p := ⟨gb, _, none⟩) NEob.out _; (with_reducible repeat (first | refine blk_drewN ?_ _ | refine blk_drew ?_)); exact BKo.out⟩, ⟨by (with_reducible repeat (first | refine blk_drewN ?_ _ | refine blk_drew ?_)); refine blk_far ?_ (p := ⟨gb, _, none⟩) NErb.out _; (with_reducible repeat (first | refine blk_drewN ?_ _ | refine blk_drew ?_)); exact BKr.out⟩, ⟨by have hkk_ := HKK.out; (with_reducible repeat (first | refine blk_drewN ?_ _ | refine blk_drew ?_)); refine blk_put (cs := ue (bstS s (cst s 5) (5 * K2 + K3))) (by (with_reducible repeat (first | refine blk_drewN ?_ _ | refine blk_drew ?_)); exact BKb.out) m6.toNat _ ?_; rw [ue_set, bstS_succ s _ (by have := HK2.out; have := HC2.out; have := HS.out; have := ea1.out; have := ea2.out; have := eb1.out; have := eb2.out; have := HK3.out; have := HC3.out; have := ez1.out; have := ez2.out; have := em1.out; have := em2.out; have := em3.out; have := em4.out; have := em5.out; have := em6.out; omega)]; simp only [batS, ddS]; rw [show z2.toNat = K2 + 5 * K3 by have := HK2.out; have := HC2.out; have := HS.out; have := ea1.out; have := ea2.out; have := eb1.out; have := eb2.out; have := HK3.out; have := HC3.out; have := ez1.out; have := ez2.out; have := em1.out; have := em2.out; have := em3.out; have := em4.out; have := em5.out; have := em6.out; omega] at hkk_; rw [show m6.toNat = K3 + 5 * ((2 * K2 + 3 * K3) % 5) by have := HK2.out; have := HC2.out; have := HS.out; have := ea1.out; have := ea2.out; have := eb1.out; have := eb2.out; have := HK3.out; have := HC3.out; have := ez1.out; have := ez2.out; have := em1.out; have := em2.out; have := em3.out; have := em4.out; have := em5.out; have := em6.out; omega, show z2.toNat = K2 + 5 * K3 by have := HK2.out; have := HC2.out; have := HS.out; have := ea1.out; have := ea2.out; have := eb1.out; have := eb2.out; have := HK3.out; have := HC3.out; have := ez1.out; have := ez2.out; have := em1.out; have := em2.out; have := em3.out; have := em4.out; have := em5.out; have := em6.out; omega, show a2.toNat = (K2 + 4) % 5 by have := HK2.out; have := HC2.out; have := HS.out; have := ea1.out; have := ea2.out; have := eb1.out; have := eb2.out; have := HK3.out; have := HC3.out; have := ez1.out; have := ez2.out; have := em1.out; have := em2.out; have := em3.out; have := em4.out; have := em5.out; have := em6.out; omega, show b2.toNat = (K2 + 1) % 5 by have := HK2.out; have := HC2.out; have := HS.out; have := ea1.out; have := ea2.out; have := eb1.out; have := eb2.out; have := HK3.out; have := HC3.out; have := ez1.out; have := ez2.out; have := em1.out; have := em2.out; have := em3.out; have := em4.out; have := em5.out; have := em6.out; omega]; exact congrArg (fun v_ => ue (List.set (bstS s (cst s 5) (5 * K2 + K3)) (K3 + 5 * ((2 * K2 + 3 * K3) % 5)) v_)) (if_neg (by omega)).symm⟩, ⟨(show Below w.heap.size w _ by repeat (first | exact HB.out | apply Below.drew | apply pw_below_drewN | refine Below.setCell ?_ GEs.out _ | refine Below.setCell ?_ GEo.out _ | refine Below.setCell ?_ GEr.out _ | refine Below.setCell ?_ GEc.out _ | refine Below.setCell ?_ GEb.out _))⟩⟩
                  · have c0 : decide (y < 5) = false := decide_eq_false (by have := HK3.out; omega)
                    obtain rfl : K3 = 5 := by have := HK3.out; omega
                    clear c HK3
                    go_wp2
                    go_roundg k2
                    case measure => omega
                    case rel => exact ⟨K2 + 1, _, rfl, ⟨by have := HK2.out; have := HC2.out; have := HS.out; have := ea1.out; have := ea2.out; have := eb1.out; have := eb2.out; first | omega | (unfold wrap64; omega), by have := HK2.out; have := HC2.out; have := HS.out; have := ea1.out; have := ea2.out; have := eb1.out; have := eb2.out; omega, by have := HK2.out; have := HC2.out; have := HS.out; have := ea1.out; have := ea2.out; have := eb1.out; have := eb2.out; omega⟩, ⟨by (with_reducible repeat (first | refine blk_drewN ?_ _ | refine blk_drew ?_)); exact BKc.out⟩, ⟨by (with_reducible repeat (first | refine blk_drewN ?_ _ | refine blk_drew ?_)); exact BKs.out⟩, ⟨by (with_reducible repeat (first | refine blk_drewN ?_ _ | refine blk_drew ?_)); exact BKo.out⟩, ⟨by (with_reducible repeat (first | refine blk_drewN ?_ _ | refine blk_drew ?_)); exact BKr.out⟩, ⟨by rw [show 5 * (K2 + 1) = 5 * K2 + 5 by omega]; (with_reducible repeat (first | refine blk_drewN ?_ _ | refine blk_drew ?_)); exact BKb.out⟩, ⟨(show Below w.heap.size w _ by repeat (first | exact HB.out | apply Below.drew | apply pw_below_drewN | refine Below.setCell ?_ GEs.out _ | refine Below.setCell ?_ GEo.out _ | refine Below.setCell ?_ GEr.out _ | refine Below.setCell ?_ GEc.out _ | refine Below.setCell ?_ GEb.out _))⟩⟩
            · have c0 : decide (x < 5) = false := decide_eq_false (by have := HK2.out; omega)
              obtain rfl : K2 = 5 := by have := HK2.out; omega
              clear c HK2
              go_wp2
              go_loopg [15] 6 (fun kq v15 w' => ∃ (k : Nat) (x : Int), v15 = .int .i64 x ∧ Aside0 (x = (k : Int) ∧ k + kq = 6 ∧ k ≤ 5) ∧ Aside0 (w'.heap[gs]? = some (.cells (ue (sstS s (bstS s (cst s 5) 25) (5 * k))) 92 (0, 0))) ∧ Aside0 (w'.heap[gr]? = some (.cells (ue (List.replicate 25 0)) 92 (0, 0))) ∧ Aside0 (w'.heap[gb]? = some (.cells (ue (bstS s (cst s 5) 25)) 92 (0, 0))) ∧ Aside0 (Below w.heap.size w w'))
              case atStart => exact ⟨0, 0, rfl, ⟨rfl, rfl, by decide⟩, ⟨by (with_reducible repeat (first | refine blk_drewN ?_ _ | refine blk_drew ?_)); exact BKs.out⟩, ⟨by (with_reducible repeat (first | refine blk_drewN ?_ _ | refine blk_drew ?_)); exact BKr.out⟩, ⟨by (with_reducible repeat (first | refine blk_drewN ?_ _ | refine blk_drew ?_)); exact BKb.out⟩, ⟨(show Below w.heap.size w _ by repeat (first | exact HB.out | apply Below.drew | apply pw_below_drewN | refine Below.setCell ?_ GEs.out _ | refine Below.setCell ?_ GEo.out _ | refine Below.setCell ?_ GEr.out _ | refine Below.setCell ?_ GEc.out _ | refine Below.setCell ?_ GEb.out _))⟩⟩
              case round =>
                clear BKc BKo
                clear BKs BKr BKb HB
                try clear c0
                obtain ⟨K2, y, rfl, HK2, BKs, BKr, BKb, HB⟩ := hrel
                cases gk with
                | zero => exact absurd HK2.out (by omega)
                | succ k2 =>
                  by_cases c : K2 < 5
                  · have c0 : decide (y < 5) = true := decide_eq_true (by have := HK2.out; omega)
                    have HC2 := Aside0.mk c
                    clear c
                    go_wp2
                    go_loopg [16] 6 (fun kq v16 w' => ∃ (k : Nat) (x : Int), v16 = .int .i64 x ∧ Aside0 (x = (k : Int) ∧ k + kq = 6 ∧ k ≤ 5) ∧ Aside0 (w'.heap[gs]? = some (.cells (ue (sstS s (bstS s (cst s 5) 25) (5 * K2 + k))) 92 (0, 0))) ∧ Aside0 (w'.heap[gr]? = some (.cells (ue (List.replicate 25 0)) 92 (0, 0))) ∧ Aside0 (w'.heap[gb]? = some (.cells (ue (bstS s (cst s 5) 25)) 92 (0, 0))) ∧ Aside0 (Below w.heap.size w w'))
                    case atStart => exact ⟨0, 0, rfl, ⟨rfl, rfl, by decide⟩, ⟨by (with_reducible repeat (first | refine blk_drewN ?_ _ | refine blk_drew ?_)); exact BKs.out⟩, ⟨by (with_reducible repeat (first | refine blk_drewN ?_ _ | refine blk_drew ?_)); exact BKr.out⟩, ⟨by (with_reducible repeat (first | refine blk_drewN ?_ _ | refine blk_drew ?_)); exact BKb.out⟩, ⟨(show Below w.heap.size w _ by repeat (first | exact HB.out | apply Below.drew | apply pw_below_drewN | refine Below.setCell ?_ GEs.out _ | refine Below.setCell ?_ GEo.out _ | refine Below.setCell ?_ GEr.out _ | refine Below.setCell ?_ GEc.out _ | refine Below.setCell ?_ GEb.out _))⟩⟩
                    case round =>
                      clear BKs BKr BKb HB
                      try clear c0
                      obtain ⟨K3, x, rfl, HK3, BKs, BKr, BKb, HB⟩ := hrel
                      cases gk with
                      | zero => exact absurd HK3.out (by omega)
                      | succ k3 =>
                        by_cases c : K3 < 5
                        · have c0 : decide (x < 5) = true := decide_eq_true (by have := HK3.out; omega)
                          have HC3 := Aside0.mk c
                          clear c
                          obtain ⟨z1, hz1, ez1⟩ : ∃ y_, wrap64 (5 * y) = y_ ∧ Aside0 (y_ = ((5 * K2 : Nat) : Int)) := ⟨_, rfl, ⟨by have := HK2.out; have := HC2.out; have := HK3.out; have := HC3.out; have := HS.out; first | (unfold wrap64; omega) | (rw [Int.tmod_eq_emod_of_nonneg (by omega)]; omega)⟩⟩
                          obtain ⟨z2, hz2, ez2⟩ : ∃ y_, wrap64 (x + z1) = y_ ∧ Aside0 (y_ = ((K3 + 5 * K2 : Nat) : Int)) := ⟨_, rfl, ⟨by have := HK2.out; have := HC2.out; have := HK3.out; have := HC3.out; have := HS.out; have := ez1.out; first | (unfold wrap64; omega) | (rw [Int.tmod_eq_emod_of_nonneg (by omega)]; omega)⟩⟩
                          obtain ⟨c1, hc1, ec1⟩ : ∃ y_, wrap64 (x + 1) = y_ ∧ Aside0 (y_ = ((K3 + 1 : Nat) : Int)) := ⟨_, rfl, ⟨by have := HK2.out; have := HC2.out; have := HK3.out; have := HC3.out; have := HS.out; have := ez1.out; have := ez2.out; first | (unfold wrap64; omega) | (rw [Int.tmod_eq_emod_of_nonneg (by omega)]; omega)⟩⟩
                          obtain ⟨c2, hc2, ec2⟩ : ∃ y_, Int.tmod c1 5 = y_ ∧ Aside0 (y_ = (((K3 + 1) % 5 : Nat) : Int)) := ⟨_, rfl, ⟨by have := HK2.out; have := HC2.out; have := HK3.out; have := HC3.out; have := HS.out; have := ez1.out; have := ez2.out; have := ec1.out; first | (unfold wrap64; omega) | (rw [Int.tmod_eq_emod_of_nonneg (by omega)]; omega)⟩⟩
                          obtain ⟨c3, hc3, ec3⟩ : ∃ y_, wrap64 (c2 + z1) = y_ ∧ Aside0 (y_ = (((K3 + 1) % 5 + 5 * K2 : Nat) : Int)) := ⟨_, rfl, ⟨by have := HK2.out; have := HC2.out; have := HK3.out; have := HC3.out; have := HS.out; have := ez1.out; have := ez2.out; have := ec1.out; have := ec2.out; first | (unfold wrap64; omega) | (rw [Int.tmod_eq_emod_of_nonneg (by omega)]; omega)⟩⟩
                          obtain ⟨d1, hd1, ed1⟩ : ∃ y_, wrap64 (x + 2) = y_ ∧ Aside0 (y_ = ((K3 + 2 : Nat) : Int)) := ⟨_, rfl, ⟨by have := HK2.out; have := HC2.out; have := HK3.out; have := HC3.out; have := HS.out; have := ez1.out; have := ez2.out; have := ec1.out; have := ec2.out; have := ec3.out; first | (unfold wrap64; omega) | (rw [Int.tmod_eq_emod_of_nonneg (by omega)]; omega)⟩⟩
                          obtain ⟨d2, hd2, ed2⟩ : ∃ y_, Int.tmod d1 5 = y_ ∧ Aside0 (y_ = (((K3 + 2) % 5 : Nat) : Int)) := ⟨_, rfl, ⟨by have := HK2.out; have := HC2.out; have := HK3.out; have := HC3.out; have := HS.out; have := ez1.out; have := ez2.out; have := ec1.out; have := ec2.out; have := ec3.out; have := ed1.out; first | (unfold wrap64; omega) | (rw [Int.tmod_eq_emod_of_nonneg (by omega)]; omega)⟩⟩
                          obtain ⟨d3, hd3, ed3⟩ : ∃ y_, wrap64 (d2 + z1) = y_ ∧ Aside0 (y_ = (((K3 + 2) % 5 + 5 * K2 : Nat) : Int)) := ⟨_, rfl, ⟨by have := HK2.out; have := HC2.out; have := HK3.out; have := HC3.out; have := HS.out; have := ez1.out; have := ez2.out; have := ec1.out; have := ec2.out; have := ec3.out; have := ed1.out; have := ed2.out; first | (unfold wrap64; omega) | (rw [Int.tmod_eq_emod_of_nonneg (by omega)]; omega)⟩⟩
                          have pz2 : (0 ≤ z2) = True := eq_true (by have := HK2.out; have := HC2.out; have := HK3.out; have := HC3.out; have := HS.out; have := ez1.out; have := ez2.out; have := ec1.out; have := ec2.out; have := ec3.out; have := ed1.out; have := ed2.out; have := ed3.out; omega)
                          have qz2_25 : (z2 < 25) = True := eq_true (by have := HK2.out; have := HC2.out; have := HK3.out; have := HC3.out; have := HS.out; have := ez1.out; have := ez2.out; have := ec1.out; have := ec2.out; have := ec3.out; have := ed1.out; have := ed2.out; have := ed3.out; omega)
                          have pc3 : (0 ≤ c3) = True := eq_true (by have := HK2.out; have := HC2.out; have := HK3.out; have := HC3.out; have := HS.out; have := ez1.out; have := ez2.out; have := ec1.out; have := ec2.out; have := ec3.out; have := ed1.out; have := ed2.out; have := ed3.out; omega)
                          have qc3_25 : (c3 < 25) = True := eq_true (by have := HK2.out; have := HC2.out; have := HK3.out; have := HC3.out; have := HS.out; have := ez1.out; have := ez2.out; have := ec1.out; have := ec2.out; have := ec3.out; have := ed1.out; have := ed2.out; have := ed3.out; omega)
                          have pd3 : (0 ≤ d3) = True := eq_true (by have := HK2.out; have := HC2.out; have := HK3.out; have := HC3.out; have := HS.out; have := ez1.out; have := ez2.out; have := ec1.out; have := ec2.out; have := ec3.out; have := ed1.out; have := ed2.out; have := ed3.out; omega)
                          have qd3_25 : (d3 < 25) = True := eq_true (by have := HK2.out; have := HC2.out; have := HK3.out; have := HC3.out; have := HS.out; have := ez1.out; have := ez2.out; have := ec1.out; have := ec2.out; have := ec3.out; have := ed1.out; have := ed2.out; have := ed3.out; omega)
                          have hc0 : wr.cell? ⟨gb, z2.toNat, none⟩ = some (.int .u64 (ga (bstS s (cst s 5) 25) z2.toNat)) := (blk_cell BKb.out _).trans (ue_get (by rw [bstS_len]; have := HK2.out; have := HC2.out; have := HK3.out; have := HC3.out; have := HS.out; have := ez1.out; have := ez2.out; have := ec1.out; have := ec2.out; have := ec3.out; have := ed1.out; have := ed2.out; have := ed3.out; omega))
                          have hc1 : wr.cell? ⟨gb, c3.toNat, none⟩ = some (.int .u64 (ga (bstS s (cst s 5) 25) c3.toNat)) := (blk_cell BKb.out _).trans (ue_get (by rw [bstS_len]; have := HK2.out; have := HC2.out; have := HK3.out; have := HC3.out; have := HS.out; have := ez1.out; have := ez2.out; have := ec1.out; have := ec2.out; have := ec3.out; have := ed1.out; have := ed2.out; have := ed3.out; omega))
                          have hc2 : wr.cell? ⟨gb, d3.toNat, none⟩ = some (.int .u64 (ga (bstS s (cst s 5) 25) d3.toNat)) := (blk_cell BKb.out _).trans (ue_get (by rw [bstS_len]; have := HK2.out; have := HC2.out; have := HK3.out; have := HC3.out; have := HS.out; have := ez1.out; have := ez2.out; have := ec1.out; have := ec2.out; have := ec3.out; have := ed1.out; have := ed2.out; have := ed3.out; omega))
                          have hst : wr.cell? ⟨gs, z2.toNat, none⟩ = some (.int .u64 (ga (sstS s (bstS s (cst s 5) 25) (5 * K2 + K3)) z2.toNat)) := (blk_cell BKs.out _).trans (ue_get (by rw [sstS_len, HS.out]; have := HK2.out; have := HC2.out; have := HK3.out; have := HC3.out; have := HS.out; have := ez1.out; have := ez2.out; have := ec1.out; have := ec2.out; have := ec3.out; have := ed1.out; have := ed2.out; have := ed3.out; omega))
                          have hfz : wr.frozen? ⟨gs, z2.toNat, none⟩ = false := blk_frozen BKs.out _
                          go_wp2
                          refine start_ (n := 31) (S := fun w' => w'.cell? ⟨gb, z2.toNat, none⟩ = some (.int .u64 (ga (bstS s (cst s 5) 25) z2.toNat)) ∧ w'.cell? ⟨gb, c3.toNat, none⟩ = some (.int .u64 (ga (bstS s (cst s 5) 25) c3.toNat)) ∧ w'.cell? ⟨gb, d3.toNat, none⟩ = some (.int .u64 (ga (bstS s (cst s 5) 25) d3.toNat))) (ds := [30]) #[false, false, false, false, false, false, false, false, false, false, false, false, false, false, false, false, false, false, false, false, false, false, false, false, false, false, false, false, false, false, false] (by kernel_rfl) rfl rfl ⟨hc0, hc1, hc2⟩ (fun hHeld => ?_)
                          refine with_tabW spec_l03Round.tab25 spec_l03Round.bits25 (fun HT_ HW_ => ?_)
                          refine pI 0 (some 106) HT_.out ?_
                          refine pI 1 (some 107) HT_.out ?_
                          refine pI 2 (some 108) HT_.out ?_
                          refine pI 3 (some 109) HT_.out ?_
                          refine pI 4 (some 110) HT_.out ?_
                          refine pI 5 (some 111) HT_.out ?_
                          refine pI 6 (some 112) HT_.out ?_
                          refine pI 7 (some 113) HT_.out ?_
                          refine pI 8 (some 114) HT_.out ?_
                          refine pI 10 (some 116) HT_.out ?_
                          refine pI 11 (some 117) HT_.out ?_
                          refine pI 12 (some 118) HT_.out ?_
                          refine pI 13 (some 119) HT_.out ?_
                          refine pI 14 (some 120) HT_.out ?_
                          refine pI 15 (some 121) HT_.out ?_
                          refine pI 16 (some 122) HT_.out ?_
                          refine pI 19 (some 125) HT_.out ?_
                          refine pI 20 (some 126) HT_.out ?_
                          refine pI 21 (some 127) HT_.out ?_
                          refine pI 22 (some 128) HT_.out ?_
                          refine pI 23 (some 129) HT_.out ?_
                          refine pI 24 (some 130) HT_.out ?_
                          refine pI 25 (some 131) HT_.out ?_
                          refine tI3 9 (some 115) HT_.out HW_.out hHeld ?_
                          refine tI3 17 (some 123) HT_.out HW_.out hHeld ?_
                          refine pI 18 (some 124) HT_.out ?_
                          refine tI3 26 (some 132) HT_.out HW_.out hHeld ?_
                          refine pI 27 (some 133) HT_.out ?_
                          refine pI 28 (some 134) HT_.out ?_
                          refine pI 29 (some 135) HT_.out ?_
                          refine last_ (i := 30) (N := none) #[true, true, true, true, true, true, true, true, true, true, true, true, true, true, true, true, true, true, true, true, true, true, true, true, true, true, true, true, true, true, true] rfl rfl (one_of HT_.out (by kernel_rfl)) (by decide) (fun K hK => ?_)
                          refine skip_ (w1 := ?_) (by rfl) rfl ?_ ?_
                          rotate_left
                          · go_simp
                            rfl
                          refine hK.out _ _ ?_
                          clear hK K
                          refine done_ (done_of HT_.out (by kernel_rfl)) ?_
                          go_wp2
                          go_roundg k3
                          case measure => omega
                          case rel => exact ⟨K3 + 1, _, rfl, ⟨by have := HK2.out; have := HC2.out; have := HK3.out; have := HC3.out; have := HS.out; have := ez1.out; have := ez2.out; have := ec1.out; have := ec2.out; have := ec3.out; have := ed1.out; have := ed2.out; have := ed3.out; first | omega | (unfold wrap64; omega), by have := HK2.out; have := HC2.out; have := HK3.out; have := HC3.out; have := HS.out; have := ez1.out; have := ez2.out; have := ec1.out; have := ec2.out; have := ec3.out; have := ed1.out; have := ed2.out; have := ed3.out; omega, by have := HK2.out; have := HC2.out; have := HK3.out; have := HC3.out; have := HS.out; have := ez1.out; have := ez2.out; have := ec1.out; have := ec2.out; have := ec3.out; have := ed1.out; have := ed2.out; have := ed3.out; omega⟩, ⟨by (with_reducible repeat (first | refine blk_drewN ?_ _ | refine blk_drew ?_)); refine blk_put (cs := ue (sstS s (bstS s (cst s 5) 25) (5 * K2 + K3))) (by (with_reducible repeat (first | refine blk_drewN ?_ _ | refine blk_drew ?_)); exact BKs.out) z2.toNat _ ?_; rw [ue_set, sstS_succ s _ (by have := HK2.out; have := HC2.out; have := HK3.out; have := HC3.out; have := HS.out; have := ez1.out; have := ez2.out; have := ec1.out; have := ec2.out; have := ec3.out; have := ed1.out; have := ed2.out; have := ed3.out; omega)]; simp only [chiS]; rw [show z2.toNat = K3 + 5 * K2 by have := HK2.out; have := HC2.out; have := HK3.out; have := HC3.out; have := HS.out; have := ez1.out; have := ez2.out; have := ec1.out; have := ec2.out; have := ec3.out; have := ed1.out; have := ed2.out; have := ed3.out; omega, show c3.toNat = (K3 + 1) % 5 + 5 * K2 by have := HK2.out; have := HC2.out; have := HK3.out; have := HC3.out; have := HS.out; have := ez1.out; have := ez2.out; have := ec1.out; have := ec2.out; have := ec3.out; have := ed1.out; have := ed2.out; have := ed3.out; omega, show d3.toNat = (K3 + 2) % 5 + 5 * K2 by have := HK2.out; have := HC2.out; have := HK3.out; have := HC3.out; have := HS.out; have := ez1.out; have := ez2.out; have := ec1.out; have := ec2.out; have := ec3.out; have := ed1.out; have := ed2.out; have := ed3.out; omega]⟩, ⟨by (with_reducible repeat (first | refine blk_drewN ?_ _ | refine blk_drew ?_)); refine blk_far ?_ (p := ⟨gs, _, none⟩) NEsr.out.symm _; (with_reducible repeat (first | refine blk_drewN ?_ _ | refine blk_drew ?_)); exact BKr.out⟩, ⟨by (with_reducible repeat (first | refine blk_drewN ?_ _ | refine blk_drew ?_)); refine blk_far ?_ (p := ⟨gs, _, none⟩) NEsb.out.symm _; (with_reducible repeat (first | refine blk_drewN ?_ _ | refine blk_drew ?_)); exact BKb.out⟩, ⟨(show Below w.heap.size w _ by repeat (first | exact HB.out | apply Below.drew | apply pw_below_drewN | refine Below.setCell ?_ GEs.out _ | refine Below.setCell ?_ GEo.out _ | refine Below.setCell ?_ GEr.out _ | refine Below.setCell ?_ GEc.out _ | refine Below.setCell ?_ GEb.out _))⟩⟩
                        · have c0 : decide (x < 5) = false := decide_eq_false (by have := HK3.out; omega)
                          obtain rfl : K3 = 5 := by have := HK3.out; omega
                          clear c HK3
                          go_wp2
                          go_roundg k2
                          case measure => omega
                          case rel => exact ⟨K2 + 1, _, rfl, ⟨by have := HK2.out; have := HC2.out; first | omega | (unfold wrap64; omega), by have := HK2.out; have := HC2.out; omega, by have := HK2.out; have := HC2.out; omega⟩, ⟨by rw [show 5 * (K2 + 1) = 5 * K2 + 5 by omega]; (with_reducible repeat (first | refine blk_drewN ?_ _ | refine blk_drew ?_)); exact BKs.out⟩, ⟨by (with_reducible repeat (first | refine blk_drewN ?_ _ | refine blk_drew ?_)); exact BKr.out⟩, ⟨by (with_reducible repeat (first | refine blk_drewN ?_ _ | refine blk_drew ?_)); exact BKb.out⟩, ⟨(show Below w.heap.size w _ by repeat (first | exact HB.out | apply Below.drew | apply pw_below_drewN | refine Below.setCell ?_ GEs.out _ | refine Below.setCell ?_ GEo.out _ | refine Below.setCell ?_ GEr.out _ | refine Below.setCell ?_ GEc.out _ | refine Below.setCell ?_ GEb.out _))⟩⟩
                  · have c0 : decide (y < 5) = false := decide_eq_false (by have := HK2.out; omega)
                    obtain rfl : K2 = 5 := by have := HK2.out; omega
                    clear c HK2
                    have hc0 : wr.cell? ⟨gs, 0, none⟩ = some (.int .u64 (ga (sstS s (bstS s (cst s 5) 25) 25) 0)) := (blk_cell BKs.out _).trans (ue_get (by rw [sstS_len, HS.out]; decide))
                    have hfz : wr.frozen? ⟨gs, 0, none⟩ = false := blk_frozen BKs.out _
                    have HR0 := Aside0.mk (show roundS s rc = (sstS s (bstS s (cst s 5) 25) 25).set 0 (Go.bits .xor .u64 (ga (sstS s (bstS s (cst s 5) 25) 25) 0) rc) from rfl)
                    have HZ1 := Aside0.mk (show (Tryd.prog.info? 92).map (·.size) = some (ue (roundS s rc)).size by rw [ue_size, roundS_len, HS.out]; kernel_rfl)
                    have HZ2 := Aside0.mk (show (ue (List.replicate 25 0)).size = (ue (roundS s rc)).size by rw [ue_size, ue_size, roundS_len, HS.out, List.length_replicate])
                    go_wp2_with (first | ((with_reducible refine gate_dst (N := 141) rfl ?_); refine wpList_load_row rfl 92 _ rfl gs rfl 92 (ue (roundS s rc)) (0, 0) _ (by rw [HR0.out]; (with_reducible repeat (first | refine blk_drewN ?_ _ | refine blk_drew ?_)); exact blk_put (cs := ue (sstS s (bstS s (cst s 5) 25) 25)) (by (with_reducible repeat (first | refine blk_drewN ?_ _ | refine blk_drew ?_)); exact BKs.out) 0 _ (ue_set _ _ _)) Tryd.underlying92 rfl HZ1.out ?_) | ((with_reducible refine gate_store (t := 92) (p := 6) rfl ?_); refine store_row_event rfl 92 _ _ rfl gr (ue (roundS s rc)) rfl rfl 92 (ue (List.replicate 25 0)) (by (with_reducible repeat (first | refine blk_drewN ?_ _ | refine blk_drew ?_)); refine blk_far ?_ (p := ⟨gs, _, none⟩) NEsr.out.symm _; (with_reducible repeat (first | refine blk_drewN ?_ _ | refine blk_drew ?_)); exact BKr.out) HZ1.out HZ2.out (ue_one _) ?_; intro w9_ h1_ h2_ h3_; have n0_ := Aside0.mk (h3_ w.heap.size w (show Below w.heap.size w _ by repeat (first | exact HB.out | apply Below.drew | apply pw_below_drewN | refine Below.setCell ?_ GEs.out _ | refine Below.setCell ?_ GEo.out _ | refine Below.setCell ?_ GEr.out _ | refine Below.setCell ?_ GEc.out _ | refine Below.setCell ?_ GEb.out _)) GEr.out); clear HB BKr; have HB := n0_; have BKr := Aside0.mk h1_; clear n0_ h1_ h2_ h3_))
                    refine bodyPost_ret (results_cell_row rfl _ _ gr 92 (ue (roundS s rc)) (0, 0) _ rfl (by (with_reducible repeat (first | refine blk_drewN ?_ _ | refine blk_drew ?_)); exact BKr.out) Tryd.underlying92 rfl HZ1.out) rfl ?_
                    exact ⟨rfl, (show Below w.heap.size w _ by repeat (first | exact HB.out | apply Below.drew | apply pw_below_drewN | refine Below.setCell ?_ GEs.out _ | refine Below.setCell ?_ GEo.out _ | refine Below.setCell ?_ GEr.out _ | refine Below.setCell ?_ GEc.out _ | refine Below.setCell ?_ GEb.out _))⟩
end Go.Proofs.YtkdmplfldfagnaaDoor.Kp
end
section
/- What is proved here: steps of Keccak as the program and the reference write it: what each function answers. No conditions but those that each theorem names. -/
namespace Go.Proofs.YtkdmplfldfagnaaDoor.Kp
open Go.RowKit Go.Proofs.YtkdmplfldfagnaaDoorW.PrintWords Go.Proofs.YtkdmplfldfagnaaDoorW.PrintLast Go.Proofs.YtkdmplfldfagnaaDoorW.PrintMore
set_option linter.unusedVariables false
set_option linter.unusedSimpArgs false
theorem run_loadA {P : Program} {W : World} {o : Oper} {ρ : Operand → Value} {t e : TypeId} {x : Operand} {g : Nat} {cs : Array Value} (ho : o.op = .load t x) (hp : ρ x = .pointer (some ⟨g, 0, none⟩)) (hb : W.heap[g]? = some (.cells cs e (0, 0))) {d : TypeDesc}
    (hu : P.underlying t = some d) (hd : (match d with | .struct _ | .array _ _ => true | _ => false) = true) (hi : (P.info? t).map (·.size) = some cs.size) : (execOp ρ o).run P W = .ok (.value (.agg cs)) W := by
  unfold execOp
  rw [ho]
  simp only [hp, Instr.loadAt, Instr.sureAddr, Sem.run_bind, Sem.run_pure, Result.andThen_ok, run_loadVar_row W g e t cs (0, 0) d hb hu hd hi]
theorem run_storeA {P : Program} {W : World} {o : Oper} {ρ : Operand → Value} {t e : TypeId} {x y : Operand} {g : Nat} {cs old : Array Value} (ho : o.op = .store t x y) (hp : ρ x = .pointer (some ⟨g, 0, none⟩)) (hv : ρ y = .agg cs) (hb : W.heap[g]? = some (.cells old e (0, 0)))
    (hi : (P.info? t).map (·.size) = some cs.size) (hold : old.size = cs.size) (h1 : cs.all (·.oneCell') = true) : (execOp ρ o).run P W = .ok .skip (W.setRow g cs) := by
  unfold execOp
  rw [ho]
  simp only [hp, hv, Instr.storeAt, Instr.sureAddr, Sem.run_bind, Sem.run_pure, Result.andThen_ok, run_storeVar_row W g e t old cs hb hi hold h1]
def allS (s : List Int) : Nat → List Int
  | 0 => s
  | k + 1 => roundS (allS s k) (ga rcL k)
theorem allS_len (s : List Int) (k : Nat) : (allS s k).length = s.length := by
  induction k with
  | zero => rfl
  | succ k ih => simp [allS, roundS_len, ih]
def spec_l03All.T6 : Bool × List (List Nat × List Nat) := (true, [([], []), ([], []), ([], []), ([2], [2]), ([3], [3]), ([0, 1, 4], [0, 1, 4]), ([5, 5, 0, 1, 2, 3, 4, 5], [5])])
def spec_l03All.B6 : List Nat := [0, 0, 0, 4, 12, 31, 63]
theorem spec_l03All.tab6 : rtab .any (opsOf Tryd.f81 6) = spec_l03All.T6 := by kernel_rfl
theorem spec_l03All.bits6 : waitsOk spec_l03All.T6.2 spec_l03All.B6 = true := by kernel_rfl
set_option maxHeartbeats 8000000 in
set_option maxRecDepth 100000 in
theorem spec_l03All.calls (s : List Int) (hs : s.length = 25) (w : World) :
    Calls Tryd.prog 81 #[.agg (ue s)] w fun e w' => e = .returned (.agg (ue (allS s 24))) ∧ Below w.heap.size w w' := by
  have HB := Aside0.mk (Below.refl w.heap.size w)
  have HS := Aside0.mk hs
  clear hs
  go_enter Tryd.func81, Tryd.ntmps81
  go_wp2_with (first | ((with_reducible refine gate_dst (N := 1) rfl ?_); refine box_event ?hg (N := 1) ?hd (cs := ue s) (t := 92) ?hr ?_; (case hd => rfl); (case hg => rfl); (case hr => first | (go_simp; done) | (go_simp; rfl)); intro gs hg w1_ hbox hb; have n0_ := Aside0.mk (below_then (show Below w.heap.size w _ by repeat (first | exact HB.out | apply Below.drew | apply pw_below_drewN)) (Below.size (show Below w.heap.size w _ by repeat (first | exact HB.out | apply Below.drew | apply pw_below_drewN))) hb); have n1_ := Aside0.mk (show w.heap.size ≤ gs by rw [hg]; exact (Below.size (show Below w.heap.size w _ by repeat (first | exact HB.out | apply Below.drew | apply pw_below_drewN)))); have BKs := Aside0.mk hbox; clear  HB; have HB := n0_; have GEs := n1_; clear n0_ n1_ hb hbox hg) | ((with_reducible refine gate_dst (N := 2) rfl ?_); refine box_event ?hg (N := 2) ?hd (cs := ue (List.replicate 25 0)) (t := 92) ?hr ?_; (case hd => rfl); (case hg => rfl); (case hr => first | (go_simp; done) | (go_simp; rfl)); intro gr hg w1_ hbox hb; have n0_ := Aside0.mk (blk_below (by (with_reducible repeat (first | refine blk_drewN ?_ _ | refine blk_drew ?_)); exact BKs.out) hb); have n1_ := Aside0.mk (below_then (show Below w.heap.size w _ by repeat (first | exact HB.out | apply Below.drew | apply pw_below_drewN)) (Below.size (show Below w.heap.size w _ by repeat (first | exact HB.out | apply Below.drew | apply pw_below_drewN))) hb); have n2_ := Aside0.mk (show w.heap.size ≤ gr by rw [hg]; exact (Below.size (show Below w.heap.size w _ by repeat (first | exact HB.out | apply Below.drew | apply pw_below_drewN)))); have n3_ := Aside0.mk (show gs ≠ gr by rw [hg]; exact Nat.ne_of_lt (blk_lt (o := .cells _ _ _) (by (with_reducible repeat (first | refine blk_drewN ?_ _ | refine blk_drew ?_)); exact BKs.out))); have BKr := Aside0.mk hbox; clear BKs HB; have BKs := n0_; have HB := n1_; have GEr := n2_; have NEsr := n3_; clear n0_ n1_ n2_ n3_ hb hbox hg) | (go_at_call 116; (with_reducible refine (spec_l03Offsets.calls _).mono ?_); rintro e w1_ ⟨rfl, hb⟩; have n0_ := Aside0.mk (below_then (show Below w.heap.size w _ by repeat (first | exact HB.out | apply Below.drew | apply pw_below_drewN)) (Below.size (show Below w.heap.size w _ by repeat (first | exact HB.out | apply Below.drew | apply pw_below_drewN))) hb); have m0_ := Aside0.mk (blk_below (by (with_reducible repeat (first | refine blk_drewN ?_ _ | refine blk_drew ?_)); exact BKs.out) hb); have m1_ := Aside0.mk (blk_below (by (with_reducible repeat (first | refine blk_drewN ?_ _ | refine blk_drew ?_)); exact BKr.out) hb); clear HB BKs BKr hb; have HB := n0_; have BKs := m0_; have BKr := m1_; clear n0_ m0_ m1_) | ((with_reducible refine gate_dst (N := 3) rfl ?_); refine box_event ?hg (N := 3) ?hd (cs := ue (List.replicate 25 0)) (t := 111) ?hr ?_; (case hd => rfl); (case hg => rfl); (case hr => first | (go_simp; done) | (go_simp; rfl)); intro go hg w1_ hbox hb; have n0_ := Aside0.mk (blk_below (by (with_reducible repeat (first | refine blk_drewN ?_ _ | refine blk_drew ?_)); exact BKs.out) hb); have n1_ := Aside0.mk (blk_below (by (with_reducible repeat (first | refine blk_drewN ?_ _ | refine blk_drew ?_)); exact BKr.out) hb); have n2_ := Aside0.mk (below_then (show Below w.heap.size w _ by repeat (first | exact HB.out | apply Below.drew | apply pw_below_drewN)) (Below.size (show Below w.heap.size w _ by repeat (first | exact HB.out | apply Below.drew | apply pw_below_drewN))) hb); have n3_ := Aside0.mk (show w.heap.size ≤ go by rw [hg]; exact (Below.size (show Below w.heap.size w _ by repeat (first | exact HB.out | apply Below.drew | apply pw_below_drewN)))); have n4_ := Aside0.mk (show gs ≠ go by rw [hg]; exact Nat.ne_of_lt (blk_lt (o := .cells _ _ _) (by (with_reducible repeat (first | refine blk_drewN ?_ _ | refine blk_drew ?_)); exact BKs.out))); have n5_ := Aside0.mk (show gr ≠ go by rw [hg]; exact Nat.ne_of_lt (blk_lt (o := .cells _ _ _) (by (with_reducible repeat (first | refine blk_drewN ?_ _ | refine blk_drew ?_)); exact BKr.out))); have BKo := Aside0.mk hbox; clear BKs BKr HB; have BKs := n0_; have BKr := n1_; have HB := n2_; have GEo := n3_; have NEso := n4_; have NEro := n5_; clear n0_ n1_ n2_ n3_ n4_ n5_ hb hbox hg) | ((with_reducible refine gate_store (t := 111) (p := 3) rfl ?_); refine store_row_event rfl 111 _ _ rfl go (ue (turnsL)) rfl rfl 111 (ue (List.replicate 25 0)) (by (with_reducible repeat (first | refine blk_drewN ?_ _ | refine blk_drew ?_)); exact BKo.out) (by kernel_rfl) rfl (ue_one _) ?_; intro w9_ h1_ h2_ h3_; have n0_ := Aside0.mk (h3_ w.heap.size w (show Below w.heap.size w _ by repeat (first | exact HB.out | apply Below.drew | apply pw_below_drewN)) GEo.out); have m0_ := Aside0.mk ((h2_ gs NEso.out).trans (by (with_reducible repeat (first | refine blk_drewN ?_ _ | refine blk_drew ?_)); exact BKs.out)); have m1_ := Aside0.mk ((h2_ gr NEro.out).trans (by (with_reducible repeat (first | refine blk_drewN ?_ _ | refine blk_drew ?_)); exact BKr.out)); clear HB BKo BKs BKr; have HB := n0_; have BKo := Aside0.mk h1_; have BKs := m0_; have BKr := m1_; clear n0_ h1_ h2_ h3_ m0_ m1_) | (go_at_call 117; (with_reducible refine (spec_l03Rounds.calls _).mono ?_); rintro e w1_ ⟨rfl, hb⟩; have n0_ := Aside0.mk (below_then (show Below w.heap.size w _ by repeat (first | exact HB.out | apply Below.drew | apply pw_below_drewN)) (Below.size (show Below w.heap.size w _ by repeat (first | exact HB.out | apply Below.drew | apply pw_below_drewN))) hb); have m0_ := Aside0.mk (blk_below (by (with_reducible repeat (first | refine blk_drewN ?_ _ | refine blk_drew ?_)); exact BKs.out) hb); have m1_ := Aside0.mk (blk_below (by (with_reducible repeat (first | refine blk_drewN ?_ _ | refine blk_drew ?_)); exact BKr.out) hb); have m2_ := Aside0.mk (blk_below (by (with_reducible repeat (first | refine blk_drewN ?_ _ | refine blk_drew ?_)); exact BKo.out) hb); clear HB BKs BKr BKo hb; have HB := n0_; have BKs := m0_; have BKr := m1_; have BKo := m2_; clear n0_ m0_ m1_ m2_) | ((with_reducible refine gate_dst (N := 4) rfl ?_); refine box_event ?hg (N := 4) ?hd (cs := ue (List.replicate 24 0)) (t := 113) ?hr ?_; (case hd => rfl); (case hg => rfl); (case hr => first | (go_simp; done) | (go_simp; rfl)); intro gk hg w1_ hbox hb; have n0_ := Aside0.mk (blk_below (by (with_reducible repeat (first | refine blk_drewN ?_ _ | refine blk_drew ?_)); exact BKs.out) hb); have n1_ := Aside0.mk (blk_below (by (with_reducible repeat (first | refine blk_drewN ?_ _ | refine blk_drew ?_)); exact BKr.out) hb); have n2_ := Aside0.mk (blk_below (by (with_reducible repeat (first | refine blk_drewN ?_ _ | refine blk_drew ?_)); exact BKo.out) hb); have n3_ := Aside0.mk (below_then (show Below w.heap.size w _ by repeat (first | exact HB.out | apply Below.drew | apply pw_below_drewN)) (Below.size (show Below w.heap.size w _ by repeat (first | exact HB.out | apply Below.drew | apply pw_below_drewN))) hb); have n4_ := Aside0.mk (show w.heap.size ≤ gk by rw [hg]; exact (Below.size (show Below w.heap.size w _ by repeat (first | exact HB.out | apply Below.drew | apply pw_below_drewN)))); have n5_ := Aside0.mk (show gs ≠ gk by rw [hg]; exact Nat.ne_of_lt (blk_lt (o := .cells _ _ _) (by (with_reducible repeat (first | refine blk_drewN ?_ _ | refine blk_drew ?_)); exact BKs.out))); have n6_ := Aside0.mk (show gr ≠ gk by rw [hg]; exact Nat.ne_of_lt (blk_lt (o := .cells _ _ _) (by (with_reducible repeat (first | refine blk_drewN ?_ _ | refine blk_drew ?_)); exact BKr.out))); have n7_ := Aside0.mk (show go ≠ gk by rw [hg]; exact Nat.ne_of_lt (blk_lt (o := .cells _ _ _) (by (with_reducible repeat (first | refine blk_drewN ?_ _ | refine blk_drew ?_)); exact BKo.out))); have BKk := Aside0.mk hbox; clear BKs BKr BKo HB; have BKs := n0_; have BKr := n1_; have BKo := n2_; have HB := n3_; have GEk := n4_; have NEsk := n5_; have NErk := n6_; have NEok := n7_; clear n0_ n1_ n2_ n3_ n4_ n5_ n6_ n7_ hb hbox hg) | ((with_reducible refine gate_store (t := 113) (p := 4) rfl ?_); refine store_row_event rfl 113 _ _ rfl gk (ue (rcL)) rfl rfl 113 (ue (List.replicate 24 0)) (by (with_reducible repeat (first | refine blk_drewN ?_ _ | refine blk_drew ?_)); exact BKk.out) (by kernel_rfl) rfl (ue_one _) ?_; intro w9_ h1_ h2_ h3_; have n0_ := Aside0.mk (h3_ w.heap.size w (show Below w.heap.size w _ by repeat (first | exact HB.out | apply Below.drew | apply pw_below_drewN)) GEk.out); have m0_ := Aside0.mk ((h2_ gs NEsk.out).trans (by (with_reducible repeat (first | refine blk_drewN ?_ _ | refine blk_drew ?_)); exact BKs.out)); have m1_ := Aside0.mk ((h2_ gr NErk.out).trans (by (with_reducible repeat (first | refine blk_drewN ?_ _ | refine blk_drew ?_)); exact BKr.out)); have m2_ := Aside0.mk ((h2_ go NEok.out).trans (by (with_reducible repeat (first | refine blk_drewN ?_ _ | refine blk_drew ?_)); exact BKo.out)); clear HB BKk BKs BKr BKo; have HB := n0_; have BKk := Aside0.mk h1_; have BKs := m0_; have BKr := m1_; have BKo := m2_; clear n0_ h1_ h2_ h3_ m0_ m1_ m2_))
  go_loopg [5] 25 (fun kq v5 w' => ∃ (k : Nat) (x : Int), v5 = .int .i64 x ∧ Aside0 (x = (k : Int) ∧ k + kq = 25 ∧ k ≤ 24) ∧ Aside0 (w'.heap[gs]? = some (.cells (ue (allS s k)) 92 (0, 0))) ∧ Aside0 (w'.heap[gr]? = some (.cells (ue (List.replicate 25 0)) 92 (0, 0))) ∧ Aside0 (w'.heap[go]? = some (.cells (ue (turnsL)) 111 (0, 0))) ∧ Aside0 (w'.heap[gk]? = some (.cells (ue (rcL)) 113 (0, 0))) ∧ Aside0 (Below w.heap.size w w'))
  case atStart => exact ⟨0, 0, rfl, ⟨rfl, rfl, by decide⟩, ⟨by (with_reducible repeat (first | refine blk_drewN ?_ _ | refine blk_drew ?_)); exact BKs.out⟩, ⟨by (with_reducible repeat (first | refine blk_drewN ?_ _ | refine blk_drew ?_)); exact BKr.out⟩, ⟨by (with_reducible repeat (first | refine blk_drewN ?_ _ | refine blk_drew ?_)); exact BKo.out⟩, ⟨by (with_reducible repeat (first | refine blk_drewN ?_ _ | refine blk_drew ?_)); exact BKk.out⟩, ⟨(show Below w.heap.size w _ by repeat (first | exact HB.out | apply Below.drew | apply pw_below_drewN))⟩⟩
  case round =>
    clear BKs BKr BKo BKk HB
    obtain ⟨K1, x, rfl, HK1, BKs, BKr, BKo, BKk, HB⟩ := hrel
    cases gk with
    | zero => exact absurd HK1.out (by omega)
    | succ k1 =>
      by_cases c : K1 < 24
      · have c0 : decide (x < 24) = true := decide_eq_true (by have := HK1.out; omega)
        have HC1 := Aside0.mk c
        clear c
        have px : (0 ≤ x) = True := eq_true (by have := HK1.out; have := HC1.out; omega)
        have qx : (x < 24) = True := eq_true (by have := HK1.out; have := HC1.out; omega)
        have hc0 : wr.cell? ⟨gk, x.toNat, none⟩ = some (.int .u64 (ga rcL x.toNat)) := (blk_cell BKk.out _).trans (ue_get (by show x.toNat < 24; have := HK1.out; have := HC1.out; omega))
        have HZ1 := Aside0.mk (show (Tryd.prog.info? 92).map (·.size) = some (ue (allS s K1)).size by rw [ue_size, allS_len, HS.out]; kernel_rfl)
        obtain ⟨nv, hnv⟩ : ∃ y_ : List Int, y_ = roundS (allS s K1) (ga rcL x.toNat) := ⟨_, rfl⟩
        have HNL := Aside0.mk (show nv.length = 25 by rw [hnv, roundS_len, allS_len, HS.out])
        have HNV := Aside0.mk hnv
        clear hnv
        have HZ2 := Aside0.mk (show (Tryd.prog.info? 92).map (·.size) = some (ue nv).size by rw [ue_size, HNL.out]; kernel_rfl)
        have HZ3 := Aside0.mk (show (ue (allS s K1)).size = (ue nv).size by rw [ue_size, ue_size, HNL.out, allS_len, HS.out])
        go_wp2
        refine start_ (n := 7) (S := fun w' => w'.heap[gs]? = some (.cells (ue (allS s K1)) 92 (0, 0)) ∧ w'.heap[go]? = some (.cells (ue turnsL) 111 (0, 0)) ∧ w'.cell? ⟨gk, x.toNat, none⟩ = some (.int .u64 (ga rcL x.toNat))) (ds := [6]) #[false, false, false, false, false, false, false] (by kernel_rfl) rfl rfl ⟨(by (with_reducible repeat (first | refine blk_drewN ?_ _ | refine blk_drew ?_)); exact BKs.out), (by (with_reducible repeat (first | refine blk_drewN ?_ _ | refine blk_drew ?_)); exact BKo.out), (by exact hc0)⟩ (fun hHeld => ?_)
        refine with_tabW spec_l03All.tab6 spec_l03All.bits6 (fun HT_ HW_ => ?_)
        refine pI 2 (some 14) HT_.out ?_
        refine pI 3 (some 15) HT_.out ?_
        refine take_ (i := 0) (N := some 12) (v := ?_) (a' := ?_) #[true, false, true, true, false, false, false] rfl rfl (take_ofW HT_.out HW_.out (by kernel_rfl)) (fun _ _ _ h => h) (Or.inl ⟨by rfl, ?_⟩) hHeld ?_ ?_
        rotate_left
        · rintro w' ⟨s0, s1, s2⟩
          refine run_loadA (t := 92) (x := .tmp 1) ?_ ?_ s0 Tryd.underlying92 rfl HZ1.out
          all_goals rfl
        rotate_left
        · simp only [Act.put, List.setIfInBounds_toArray, List.set_cons_zero, List.set_cons_succ, i64_w, i32_w]
          rfl
        refine take_ (i := 1) (N := some 13) (v := ?_) (a' := ?_) #[true, true, true, true, false, false, false] rfl rfl (take_ofW HT_.out HW_.out (by kernel_rfl)) (fun _ _ _ h => h) (Or.inl ⟨by rfl, ?_⟩) hHeld ?_ ?_
        rotate_left
        · rintro w' ⟨s0, s1, s2⟩
          refine run_loadA (t := 111) (x := .tmp 3) ?_ ?_ s1 Tryd.underlying111 rfl (by kernel_rfl)
          all_goals rfl
        rotate_left
        · simp only [Act.put, List.setIfInBounds_toArray, List.set_cons_zero, List.set_cons_succ, i64_w, i32_w]
          rfl
        refine tI3 4 (some 16) HT_.out HW_.out hHeld ?_
        refine oI 5 (some 17) HT_.out (fun K hK => ?_)
        refine goes_ Tryd.func118 (by kernel_rfl) rfl #[.agg (ue (allS s K1)), .agg (ue turnsL), .int .u64 (ga rcL x.toNat)] (by rfl) rfl rfl (by simp only [List.map_toArray, List.map_cons, List.map_nil]; rfl) ?_
        with_reducible refine (spec_l03Round.calls (allS s K1) (by rw [allS_len]; exact HS.out) (ga rcL x.toNat) _).mono ?_
        rintro e w3_ ⟨rfl, hb⟩
        rw [← HNV.out]
        have nB_ := Aside0.mk (below_then (show Below w.heap.size w _ by repeat (first | exact HB.out | apply Below.drew | apply pw_below_drewN)) (Below.size (show Below w.heap.size w _ by repeat (first | exact HB.out | apply Below.drew | apply pw_below_drewN))) hb)
        have ms_ := Aside0.mk (blk_below (by (with_reducible repeat (first | refine blk_drewN ?_ _ | refine blk_drew ?_)); exact BKs.out) hb)
        have mr_ := Aside0.mk (blk_below (by (with_reducible repeat (first | refine blk_drewN ?_ _ | refine blk_drew ?_)); exact BKr.out) hb)
        have mo_ := Aside0.mk (blk_below (by (with_reducible repeat (first | refine blk_drewN ?_ _ | refine blk_drew ?_)); exact BKo.out) hb)
        have mk_ := Aside0.mk (blk_below (by (with_reducible repeat (first | refine blk_drewN ?_ _ | refine blk_drew ?_)); exact BKk.out) hb)
        refine ⟨_, rfl, ?_⟩
        refine hK.out _ _ ⟨(by exact ms_.out), (by exact mo_.out), ((blk_cell mk_.out _).trans (ue_get (by show x.toNat < 24; have := HK1.out; have := HC1.out; omega)))⟩ (fun hHeld => ?_)
        clear hK K
        refine nO (some 17) ?_
        refine last_ (i := 6) (N := none) #[true, true, true, true, true, true, true] rfl rfl (one_of HT_.out (by kernel_rfl)) (by decide) (fun K hK => ?_)
        refine skip_ (w1 := World.setRow w3_ gs (ue nv)) (by rfl) rfl ?_ ?_
        · refine run_storeA (t := 92) (x := .tmp 1) (y := .tmp 17) ?_ ?_ ?_ ms_.out HZ2.out HZ3.out (ue_one _)
          all_goals rfl
        refine hK.out _ _ ?_
        clear hK K
        refine done_ (done_of HT_.out (by kernel_rfl)) ?_
        have q0_ := Aside0.mk (below_setRow nB_.out GEs.out (ue nv))
        have q1_ := Aside0.mk (setRow_heap w3_ gs _ (ue nv) _ _ ms_.out)
        have qr_ := Aside0.mk ((setRow_other w3_ gs gr (ue nv) NEsr.out.symm).trans mr_.out)
        have qo_ := Aside0.mk ((setRow_other w3_ gs go (ue nv) NEso.out.symm).trans mo_.out)
        have qk_ := Aside0.mk ((setRow_other w3_ gs gk (ue nv) NEsk.out.symm).trans mk_.out)
        clear HB BKs BKr BKo BKk
        generalize World.setRow w3_ gs (ue nv) = w8_ at q0_ q1_ qr_ qo_ qk_ ⊢
        have HB := q0_
        have BKs := q1_
        have BKr := qr_
        have BKo := qo_
        have BKk := qk_
        clear q0_ q1_ qr_ qo_ qk_ nB_ ms_ mr_ mo_ mk_
        go_wp2
        go_roundg k1
        case measure => omega
        case rel => exact ⟨K1 + 1, _, rfl, ⟨by have := HK1.out; have := HC1.out; first | omega | (unfold wrap64; omega), by have := HK1.out; have := HC1.out; omega, by have := HK1.out; have := HC1.out; omega⟩, ⟨by have h_ := BKs.out; rw [HNV.out, show x.toNat = K1 by have := HK1.out; have := HC1.out; omega] at h_; (with_reducible repeat (first | refine blk_drewN ?_ _ | refine blk_drew ?_)); exact h_⟩, ⟨by (with_reducible repeat (first | refine blk_drewN ?_ _ | refine blk_drew ?_)); exact BKr.out⟩, ⟨by (with_reducible repeat (first | refine blk_drewN ?_ _ | refine blk_drew ?_)); exact BKo.out⟩, ⟨by (with_reducible repeat (first | refine blk_drewN ?_ _ | refine blk_drew ?_)); exact BKk.out⟩, ⟨(show Below w.heap.size w _ by repeat (first | exact HB.out | apply Below.drew | apply pw_below_drewN))⟩⟩
      · have c0 : decide (x < 24) = false := decide_eq_false (by have := HK1.out; omega)
        obtain rfl : K1 = 24 := by have := HK1.out; omega
        clear c
        have HZ1 := Aside0.mk (show (Tryd.prog.info? 92).map (·.size) = some (ue (allS s 24)).size by rw [ue_size, allS_len, HS.out]; kernel_rfl)
        have HZ2 := Aside0.mk (show (ue (List.replicate 25 0)).size = (ue (allS s 24)).size by rw [ue_size, ue_size, allS_len, HS.out, List.length_replicate])
        go_wp2_with (first | ((with_reducible refine gate_dst (N := 18) rfl ?_); refine wpList_load_row rfl 92 _ rfl gs rfl 92 (ue (allS s 24)) (0, 0) _ (by (with_reducible repeat (first | refine blk_drewN ?_ _ | refine blk_drew ?_)); exact BKs.out) Tryd.underlying92 rfl HZ1.out ?_) | ((with_reducible refine gate_store (t := 92) (p := 2) rfl ?_); refine store_row_event rfl 92 _ _ rfl gr (ue (allS s 24)) rfl rfl 92 (ue (List.replicate 25 0)) (by (with_reducible repeat (first | refine blk_drewN ?_ _ | refine blk_drew ?_)); exact BKr.out) HZ1.out HZ2.out (ue_one _) ?_; intro w9_ h1_ h2_ h3_; have n0_ := Aside0.mk (h3_ w.heap.size w (show Below w.heap.size w _ by repeat (first | exact HB.out | apply Below.drew | apply pw_below_drewN)) GEr.out); clear HB BKr; have HB := n0_; have BKr := Aside0.mk h1_; clear n0_ h1_ h2_ h3_))
        refine bodyPost_ret (results_cell_row rfl _ _ gr 92 (ue (allS s 24)) (0, 0) _ rfl (by (with_reducible repeat (first | refine blk_drewN ?_ _ | refine blk_drew ?_)); exact BKr.out) Tryd.underlying92 rfl HZ1.out) rfl ?_
        exact ⟨rfl, (show Below w.heap.size w _ by repeat (first | exact HB.out | apply Below.drew | apply pw_below_drewN))⟩
end Go.Proofs.YtkdmplfldfagnaaDoor.Kp
end
section
/- What is proved here: steps of Keccak as the program and the reference write it: what each function answers. No conditions but those that each theorem names. -/
namespace Go.Proofs.YtkdmplfldfagnaaDoor.Kp
open Go.RowKit Go.Proofs.YtkdmplfldfagnaaDoorW.PrintWords Go.Proofs.YtkdmplfldfagnaaDoorW.PrintLast Go.Proofs.YtkdmplfldfagnaaDoorW.PrintMore
set_option linter.unusedVariables false
set_option linter.unusedSimpArgs false
def u8e (xs : List Int) : Array Value := (xs.map (Value.int .u8)).toArray
theorem u8e_get {xs : List Int} {i : Nat} (h : i < xs.length) : (u8e xs)[i]? = some (.int .u8 (ga xs i)) := by
  unfold u8e ga
  rw [List.getElem?_toArray, List.getElem?_map, List.getElem?_eq_getElem h, List.getD_eq_getElem?_getD, List.getElem?_eq_getElem h]
  rfl
theorem u8e_set (xs : List Int) (i : Nat) (v : Int) : (u8e xs).setIfInBounds i (.int .u8 v) = u8e (xs.set i v) := by
  unfold u8e
  rw [List.setIfInBounds_toArray, List.map_set]
theorem made200 : madeCells (Value.int .u8 0).cells (200 * 1) = u8e (List.replicate 200 0) := by kernel_rfl
section
variable {P : Program} {ops : Array Oper} {rest : List Oper} {o : Oper} {a : Act} {Q : Exit → Act → World → Prop}
theorem make_event {W : World} (hgd : o.guard = none) {N : Tmp} (_hd : o.dst = some N) {t e : TypeId} {x y : Operand} (ho : o.op = .makeSlice t x y) {i : TypeInfo} {z : Value} (ht : P.underlying t = some (.slice e)) (hi : P.info? e = some i) (hz : i.zero = some z)
    (n : Nat) (hx : a.eval x = .int .i64 (n : Int)) (hy : a.eval y = .int .i64 (n : Int)) (hb : (i.bytes : Int) * n ≤ 281474976710656) (h63 : n ≤ 1000000)
    (h : ∀ g, g = W.heap.size → ∀ w1, w1.heap[g]? = some (.cells (madeCells z.cells (n * i.size)) e (0, 0)) → Below W.heap.size W w1 → wpList P ops Q rest (a.put o.dst (.slice (some ⟨g, 0, none⟩) n n)) w1) : wpList P ops Q (o :: rest) a W := by
  have hr := run_make (P := P) W t e i z ht hi hz .i64 .i64 (n : Int) (n : Int) (by omega) (by omega) hb (by omega)
  simp only [Int.toNat_natCast] at hr
  refine Kd.event_run hgd (v := .slice (some ⟨W.heap.size, 0, none⟩) n n) (w1 := W.alloc (.cells (madeCells z.cells (n * i.size)) e)) ?_ (h _ rfl _ (blk_new W _) (below_alloc (Below.refl _ _) _))
  unfold execOp
  rw [ho]
  dsimp only
  rw [hx, hy, Sem.run_bind, hr]
  rfl
end
def byteS (a : List Int) (k : Nat) : Int := ga a (k / 8) / 2 ^ min (((8 * (k % 8) : Nat) : Int)).toNat 64 % 256
def tby (a : List Int) : Nat → List Int
  | 0 => List.replicate 200 0
  | k + 1 => (tby a k).set k (byteS a k)
theorem tby_len (a : List Int) (k : Nat) : (tby a k).length = 200 := by
  induction k with
  | zero => rfl
  | succ k ih => simp [tby, ih]
set_option maxHeartbeats 4000000 in
set_option maxRecDepth 100000 in
theorem spec_l03Text.calls (s : List Int) (hs : s.length = 25) (w : World) :
    Calls Tryd.prog 82 #[.agg (ue s)] w fun e w' => e = .returned (.string (strOfNums (tby s 200))) ∧ Below w.heap.size w w' := by
  have HB := Aside0.mk (Below.refl w.heap.size w)
  have HS := Aside0.mk hs
  clear hs
  obtain ⟨i0, hi, hz0, hz1, hz2⟩ := info_parts info5
  go_enter Tryd.func82, Tryd.ntmps82
  go_wp2_with (first | ((with_reducible refine gate_dst (N := 1) rfl ?_); refine box_event ?hg (N := 1) ?hd (cs := ue s) (t := 92) ?hr ?_; (case hd => rfl); (case hg => rfl); (case hr => first | (go_simp; done) | (go_simp; rfl)); intro gs hg w1_ hbox hb; have n0_ := Aside0.mk (below_then (show Below w.heap.size w _ by repeat (first | exact HB.out | apply Below.drew | apply pw_below_drewN)) (Below.size (show Below w.heap.size w _ by repeat (first | exact HB.out | apply Below.drew | apply pw_below_drewN))) hb); have BKs := Aside0.mk hbox; clear HB; have HB := n0_; clear n0_ hb hbox hg) | ((with_reducible refine gate_dst (N := 5) rfl ?_); refine make_event ?hg (N := 5) ?hd (t := 46) (e := 5) rfl Tryd.underlying46 hi hz0 200 rfl rfl (by rw [hz2]; decide) (by decide) ?_; (case hd => rfl); (case hg => rfl); intro gb hg w2_ hbox hb; have n0_ := Aside0.mk (below_then (show Below w.heap.size w _ by repeat (first | exact HB.out | apply Below.drew | apply pw_below_drewN)) (Below.size (show Below w.heap.size w _ by repeat (first | exact HB.out | apply Below.drew | apply pw_below_drewN))) hb); have m0_ := Aside0.mk (blk_below (by (with_reducible repeat (first | refine blk_drewN ?_ _ | refine blk_drew ?_)); exact BKs.out) hb); have GEs := Aside0.mk (show w.heap.size ≤ gb by rw [hg]; exact Below.size (show Below w.heap.size w _ by repeat (first | exact HB.out | apply Below.drew | apply pw_below_drewN))); have NE := Aside0.mk (show gs ≠ gb by rw [hg]; exact Nat.ne_of_lt (blk_lt (o := .cells _ _ _) (by (with_reducible repeat (first | refine blk_drewN ?_ _ | refine blk_drew ?_)); exact BKs.out))); have BKb := Aside0.mk (show w2_.heap[gb]? = some (.cells (u8e (List.replicate 200 0)) 5 (0, 0)) by rw [← made200, ← hz1]; exact hbox); clear HB BKs; have HB := n0_; have BKs := m0_; clear n0_ m0_ hb hbox hg))
  go_loopg [4] 201 (fun kq v4 w' => ∃ (k : Nat) (x : Int), v4 = .int .i64 x ∧ Aside0 (x = (k : Int) ∧ k + kq = 201 ∧ k ≤ 200) ∧ Aside0 (w'.heap[gs]? = some (.cells (ue s) 92 (0, 0))) ∧ Aside0 (w'.heap[gb]? = some (.cells (u8e (tby s k)) 5 (0, 0))) ∧ Aside0 (Below w.heap.size w w'))
  case atStart => exact ⟨0, 0, rfl, ⟨rfl, rfl, by decide⟩, ⟨by (with_reducible repeat (first | refine blk_drewN ?_ _ | refine blk_drew ?_)); exact BKs.out⟩, ⟨by (with_reducible repeat (first | refine blk_drewN ?_ _ | refine blk_drew ?_)); exact BKb.out⟩, ⟨(by repeat (first | exact HB.out | apply Below.drew | apply pw_below_drewN | refine Below.setCell ?_ GEs.out _))⟩⟩
  case round =>
    clear BKs BKb HB
    obtain ⟨K1, x, rfl, HK1, BKs, BKb, HB⟩ := hrel
    cases gk with
    | zero => exact absurd HK1.out (by omega)
    | succ k1 =>
      by_cases c : K1 < 200
      · have c0 : decide (x < 200) = true := decide_eq_true (by have := HK1.out; omega)
        have HC1 := Aside0.mk c
        clear c
        obtain ⟨q, hq, eq⟩ : ∃ y_, Int.tdiv x 8 = y_ ∧ Aside0 (y_ = ((K1 / 8 : Nat) : Int)) := ⟨_, rfl, ⟨by have := HK1.out; rw [Int.tdiv_eq_ediv_of_nonneg (by omega)]; omega⟩⟩
        have hwq : wrap64 q = q := by have := eq.out; have := HC1.out; unfold wrap64; omega
        obtain ⟨m, hm, em⟩ : ∃ y_, Int.tmod x 8 = y_ ∧ Aside0 (y_ = ((K1 % 8 : Nat) : Int)) := ⟨_, rfl, ⟨by have := HK1.out; rw [Int.tmod_eq_emod_of_nonneg (by omega)]; omega⟩⟩
        have hu1 : IntKind.u64.wrap m = m := by have := em.out; rw [IntKind.wrap_u64]; omega
        obtain ⟨n, hn, en⟩ : ∃ y_, IntKind.u64.wrap (8 * m) = y_ ∧ Aside0 (y_ = ((8 * (K1 % 8) : Nat) : Int)) := ⟨_, rfl, ⟨by have := em.out; rw [IntKind.wrap_u64]; omega⟩⟩
        have pq : (0 ≤ q) = True := eq_true (by have := eq.out; omega)
        have qq : (q < 25) = True := eq_true (by have := eq.out; have := HC1.out; omega)
        have px : (0 ≤ x) = True := eq_true (by have := HK1.out; omega)
        have qx : (x < 200) = True := eq_true (by have := HK1.out; have := HC1.out; omega)
        have pn : (0 ≤ n) = True := eq_true (by have := en.out; omega)
        have hc0 : wr.cell? ⟨gs, q.toNat, none⟩ = some (.int .u64 (ga s q.toNat)) := (blk_cell BKs.out _).trans (ue_get (by rw [HS.out]; have := eq.out; have := HC1.out; omega))
        have hst : wr.cell? ⟨gb, x.toNat, none⟩ = some (.int .u8 (ga (tby s K1) x.toNat)) := (blk_cell BKb.out _).trans (u8e_get (by rw [tby_len]; have := HK1.out; have := HC1.out; omega))
        have hfz : wr.frozen? ⟨gb, x.toNat, none⟩ = false := blk_frozen BKb.out _
        go_wp2
        go_roundg k1
        case measure => omega
        case rel => exact ⟨K1 + 1, _, rfl, ⟨by have := HK1.out; first | omega | (unfold wrap64; omega), by have := HK1.out; omega, by have := HK1.out; have := HC1.out; omega⟩, ⟨by (with_reducible repeat (first | refine blk_drewN ?_ _ | refine blk_drew ?_)); refine blk_far ?_ (p := ⟨gb, _, none⟩) NE.out _; (with_reducible repeat (first | refine blk_drewN ?_ _ | refine blk_drew ?_)); exact BKs.out⟩, ⟨by (with_reducible repeat (first | refine blk_drewN ?_ _ | refine blk_drew ?_)); refine blk_put (cs := u8e (tby s K1)) (by (with_reducible repeat (first | refine blk_drewN ?_ _ | refine blk_drew ?_)); exact BKb.out) x.toNat _ ?_; rw [u8e_set]; simp only [tby, byteS]; rw [show x.toNat = K1 by have := HK1.out; omega, show q.toNat = K1 / 8 by have := eq.out; omega, en.out]⟩, ⟨(by repeat (first | exact HB.out | apply Below.drew | apply pw_below_drewN | refine Below.setCell ?_ GEs.out _))⟩⟩
      · have c0 : decide (x < 200) = false := decide_eq_false (by have := HK1.out; omega)
        obtain rfl : K1 = 200 := by have := HK1.out; omega
        clear c
        go_wp2_with (first | ((with_reducible refine gate_dst (N := 24) rfl ?_); refine conv2_event ?hg (N := 24) ?hd (src := 46) (dst := 9) (e := 5) rfl (g := gb) (n := 200) (c := 200) ?hx Tryd.underlying46 Tryd.underlying5 Tryd.underlying9 (tby s 200) ?hlen ?hcell ?_; (case hg => rfl); (case hd => rfl); (case hx => rfl); (case hlen => exact tby_len s 200); (case hcell => intro i hi; exact (blk_cell (by (with_reducible repeat (first | refine blk_drewN ?_ _ | refine blk_drew ?_)); exact BKb.out) i).trans (u8e_get (by rw [tby_len]; exact hi)))))
        go_ret
        exact ⟨rfl, (by repeat (first | exact HB.out | apply Below.drew | apply pw_below_drewN | refine Below.setCell ?_ GEs.out _))⟩
end Go.Proofs.YtkdmplfldfagnaaDoor.Kp
end
section
/- What is proved here: steps of Keccak as the program and the reference write it: what each function answers. No conditions but those that each theorem names. -/
namespace Go.Proofs.YtkdmplfldfagnaaDoor.Kp
open Go.RowKit Go.Proofs.YtkdmplfldfagnaaDoorW.PrintWords Go.Proofs.YtkdmplfldfagnaaDoorW.PrintLast Go.Proofs.YtkdmplfldfagnaaDoorW.PrintMore
set_option linter.unusedVariables false
set_option linter.unusedSimpArgs false
theorem setCells_one (w : World) (g o : Nat) (v : Value) : w.setCells g o [v] = w.setCell ⟨g, o, none⟩ v := by
  first | rfl | simp [World.setCells]
def BR (w : World) (base : Nat) (v : Value) (xs : List Int) : Prop := ∃ g c cs fr, v = .slice (some ⟨g, 0, none⟩) xs.length c ∧ base ≤ g ∧ w.heap[g]? = some (.cells cs 5 fr) ∧ c ≤ cs.size ∧ xs.length ≤ cs.size ∧ (fr = (0, 0) ∨ fr = (cs.size, cs.size + 1)) ∧ ∀ i, i < xs.length → cs[i]? = some (.int .u8 (ga xs i))
theorem BR.move {w w' : World} {base : Nat} {v : Value} {xs : List Int} (h : BR w base v xs) (hb : Below w.heap.size w w') : BR w' base v xs := by
  obtain ⟨g, c, cs, fr, h1, h2, h3, h4⟩ := h
  exact ⟨g, c, cs, fr, h1, h2, (hb.block g (blk_lt h3)).trans h3, h4⟩
theorem fr_no {w : World} {g i : Nat} {cs : Array Value} {t : TypeId} {fr : Nat × Nat} (h : w.heap[g]? = some (.cells cs t fr)) (hf : fr = (0, 0) ∨ fr = (cs.size, cs.size + 1)) (hi : i < cs.size) : w.frozen? ⟨g, i, none⟩ = false := by
  unfold World.frozen?
  dsimp only
  rw [h]
  rcases hf with rfl | rfl
  · simp
  · dsimp only
    rw [decide_eq_false (by omega)]; rfl
section
variable {P : Program} {ops : Array Oper} {rest : List Oper} {o : Oper} {a : Act} {Q : Exit → Act → World → Prop}
theorem conv_eventB {W : World} (hgd : o.guard = none) {N : Tmp} (_hd : o.dst = some N) {src dst : TypeId} {x : Operand} (ho : o.op = .convert src dst x) {S : ByteArray} (hx : a.eval x = .string S)
    (hs : P.underlying src = some .string) (hd : P.underlying dst = some (.slice 5)) (he : P.underlying 5 = some (.int .u8)) {base : Nat} (hbase : base ≤ W.heap.size)
    (h : ∀ v w1, BR w1 base v (nb S) → Below W.heap.size W w1 → wpList P ops Q rest (a.put o.dst v) w1) : wpList P ops Q (o :: rest) a W := by
  have hcs : (Lib.bytesCells W 5 S).size = S.size + (grownCap W S.size 0 5 - S.size) := by
    unfold Lib.bytesCells
    rw [Array.size_append, Array.size_map, Array.size_replicate]
    rfl
  refine Kd.event_run hgd (v := .slice (some ⟨W.heap.size, 0, none⟩) S.size (grownCap W S.size 0 5)) (w1 := Lib.bytesWorld W 5 S) ?_ (h _ _ ⟨W.heap.size, _, Lib.bytesCells W 5 S, _, by rw [nb_len], hbase, Lib.bytesWorld_at_new W 5 S, by omega, by rw [nb_len]; omega, Or.inr rfl, fun i hi => ?_⟩ (below_bytesWorld W 5 S))
  · have := Lib.run_convert_string_bytes (P := P) W src dst 5 S hs hd he
    unfold execOp
    rw [ho]
    dsimp only
    rw [hx]
    rw [Sem.run_bind, this]
    rfl
  · rw [nb_len] at hi
    rw [← cell_of_row _ _ i _ _ _ (Lib.bytesWorld_at_new W 5 S), Lib.bytesWorld_cell W 5 S i hi, nb_get _ _ hi]
theorem br_append {W w0 : World} (hgd : o.guard = none) (s x : Operand) (t : TypeId) (hop : o.op = Op.call { callee := Callee.builtin Builtin.append, args := #[s, x], argTypes := #[t, t] })
    (i : TypeInfo) (h1 : P.underlying t = some (.slice 5)) (h2 : P.info? 5 = some i) (h3 : i.zero = some (.int .u8 0)) (h4 : i.size = 1) (h5 : i.bytes = 1)
    {v : Value} {xs : List Int} {y : Int} {base : Nat} (hs : a.eval s = v) (HR : BR W base v xs) {gx : Nat} (hx : a.eval x = .slice (some ⟨gx, 0, none⟩) 1 1) (hxb : W.heap[gx]? = some (.cells #[.int .u8 y] 5 (0, 0)))
    (hB : Below base w0 W) (hbase : base ≤ W.heap.size) (hl : xs.length ≤ 140737488352000)
    (h : ∀ v' w', BR w' base v' (xs ++ [y]) → Below base w0 w' → wpList P ops Q rest (a.put o.dst v') w') : wpList P ops Q (o :: rest) a W := by
  obtain ⟨g, c, cs, fr, rfl, hg, hb, hc, hn, hf, hcs⟩ := HR
  refine wpList_append_arg (P := P) W hgd s x t hop 5 i (.int .u8 0) 1 1 h1 h2 h3 h4 h5 rfl (by decide) g 0 xs.length c (xs.map (Value.int .u8)) hs (by simp) ?_ ⟨gx, 0, none⟩ 1 1 [.int .u8 y] hx rfl ?_ ?_ ?_ (by unfold maxLen; omega) (by omega) ?_ ?_
  · intro j u hj
    have hjl : j < xs.length := by
      rcases Nat.lt_or_ge j xs.length with h | h
      · exact h
      · simp [List.getElem?_eq_none (show (xs.map (Value.int .u8)).length ≤ j by simpa using h)] at hj
    rw [Nat.zero_add, cell_of_row W g j cs _ _ hb, hcs j hjl]
    rw [List.getElem?_map, List.getElem?_eq_getElem hjl] at hj
    rw [← hj]
    unfold ga
    rw [List.getD_eq_getElem?_getD, List.getElem?_eq_getElem hjl]
    rfl
  · intro j u hj
    have hj0 : j = 0 := by
      rcases Nat.lt_or_ge j 1 with h | h
      · omega
      · simp [List.getElem?_eq_none (show [(Value.int .u8 y)].length ≤ j by simpa using h)] at hj
    subst hj0
    have hadd : (⟨gx, 0, none⟩ : Addr).add 0 = ⟨gx, 0, none⟩ := rfl
    rw [hadd, blk_cell hxb]
    exact hj
  · intro u hu
    rw [List.mem_singleton] at hu
    subst hu
    rfl
  · intro hr j hj
    have hj0 : j = 0 := by simpa using hj
    subst hj0
    have hlt : 0 + xs.length * 1 + 0 < cs.size := by omega
    exact ⟨by rw [cell_of_row W g _ cs _ _ hb, Array.getElem?_eq_getElem hlt]; rfl, fr_no hb hf hlt⟩
  · intro hr
    rw [setCells_one]
    refine h _ _ ⟨g, c, cs.setIfInBounds (0 + xs.length * 1) (.int .u8 y), fr, by simp, hg, blkf_set hb _ _, by simpa using hc, by simp; omega, by simpa using hf, fun i hi => ?_⟩ (hB.setCell hg _)
    rw [List.length_append, List.length_singleton] at hi
    rw [Array.getElem?_setIfInBounds]
    unfold ga
    by_cases e : xs.length = i
    · subst e
      rw [if_pos (by omega), if_pos (by omega), List.getD_eq_getElem?_getD, List.getElem?_append_right (Nat.le_refl _)]
      simp
    · rw [if_neg (by omega), hcs i (by omega), List.getD_eq_getElem?_getD, List.getElem?_append_left (by omega)]
      unfold ga
      rw [List.getD_eq_getElem?_getD]
  · intro hr v' w' ho hgr
    obtain ⟨hlen, ho⟩ := ho
    rcases ho with ⟨_, h0⟩ | ⟨g', cap, cur, rfl, hbg, hh, hle, _, hsz, htk⟩
    · omega
    · refine h _ _ ⟨g', cap, cur, (0, 0), by simp, Nat.le_trans hbase hbg, hh, by omega, by simp; omega, Or.inl rfl, fun i hi => ?_⟩ (hB.grown hgr hbase (fun _ h => by cases h))
      rw [List.length_append, List.length_singleton] at hi
      have e : cur[i]? = (xs.map (Value.int .u8) ++ [.int .u8 y])[i]? := by
        rw [← htk, List.getElem?_take, if_pos (by omega)]
        simp
      rw [e]
      unfold ga
      rw [List.getD_eq_getElem?_getD]
      by_cases e2 : xs.length = i
      · subst e2
        simp
      · rw [List.getElem?_append_left (by simp; omega), List.getElem?_append_left (by omega), List.getElem?_map, List.getElem?_eq_getElem (by omega)]
        rfl
end
end Go.Proofs.YtkdmplfldfagnaaDoor.Kp
end
section
/- What is proved here: steps of Keccak as the program and the reference write it: what each function answers. No conditions but those that each theorem names. -/
namespace Go.Proofs.YtkdmplfldfagnaaDoor.Kp
open Go.RowKit Go.Proofs.YtkdmplfldfagnaaDoorW.PrintWords Go.Proofs.YtkdmplfldfagnaaDoorW.PrintLast Go.Proofs.YtkdmplfldfagnaaDoorW.PrintMore
set_option linter.unusedVariables false
set_option linter.unusedSimpArgs false
theorem BR.form {w : World} {base : Nat} {v : Value} {xs : List Int} (h : BR w base v xs) : ∃ g c, v = .slice (some ⟨g, 0, none⟩) xs.length c := by
  obtain ⟨g, c, cs, fr, h1, _⟩ := h
  exact ⟨g, c, h1⟩
theorem lit_event {P : Program} {ops : Array Oper} {rest : List Oper} {o : Oper} {a : Act} {Q : Exit → Act → World → Prop} {W : World} (hgd : o.guard = none) {N : Tmp} (_hd : o.dst = some N) {cs : Array Value} {t : TypeId} {n : Nat}
    (hrun : (execOp a.eval o).run P W = .ok (.value (.slice (some ⟨W.heap.size, 0, none⟩) n n)) (W.alloc (.cells cs t (0, 0))))
    (h : ∀ g, g = W.heap.size → ∀ w1, w1.heap[g]? = some (.cells cs t (0, 0)) → Below W.heap.size W w1 → wpList P ops Q rest (a.put o.dst (.slice (some ⟨g, 0, none⟩) n n)) w1) : wpList P ops Q (o :: rest) a W :=
  Kd.event_run hgd hrun (h _ rfl _ (blk_new W _) (below_alloc (Below.refl _ _) _))
def pk (t : ByteArray) (k : Nat) : List Int := nb t ++ [1] ++ List.replicate k 0
theorem pk_len (t : ByteArray) (k : Nat) : (pk t k).length = t.size + 1 + k := by
  unfold pk
  rw [List.length_append, List.length_append, List.length_replicate, nb_len]
  rfl
theorem pk_succ (t : ByteArray) (k : Nat) : pk t k ++ [0] = pk t (k + 1) := by
  unfold pk
  rw [List.replicate_succ', List.append_assoc (nb t ++ [1])]
theorem pk_pad (t : ByteArray) : pk t (135 - t.size % 136) = padRaw (nb t) := by
  unfold pk padRaw
  rw [nb_len]
set_option maxHeartbeats 4000000 in
set_option maxRecDepth 100000 in
theorem spec_KeccakPad.calls (t : ByteArray) (ht : t.size ≤ 140737488351232) (w : World) :
    Calls Tryd.prog 79 #[.string t] w fun e w' => e = .returned (.string (strOfNums (padL (nb t)))) ∧ Below w.heap.size w w' := by
  have HB := Aside0.mk (Below.refl w.heap.size w)
  have HTt := Aside0.mk ht
  clear ht
  obtain ⟨i0, hi, hz0, hz1, hz2⟩ := info_parts info5
  obtain ⟨Z, hZ⟩ : ∃ Z, Z = 135 - t.size % 136 := ⟨_, rfl⟩
  have HZ := Aside0.mk hZ
  clear hZ
  go_enter Tryd.func79, Tryd.ntmps79
  go_wp2_with (first | ((with_reducible refine gate_dst (N := 5) rfl ?_); refine conv_eventB ?hg (N := 5) ?hd (src := 9) (dst := 46) (S := t) rfl ?hx Tryd.underlying9 Tryd.underlying46 Tryd.underlying5 (base := w.heap.size) (Below.size (show Below w.heap.size w _ by repeat (first | exact HB.out | apply Below.drew | apply pw_below_drewN))) ?_; (case hg => rfl); (case hd => rfl); (case hx => rfl); intro v1_ w1_ hbr hb; have n0_ := Aside0.mk (below_then (show Below w.heap.size w _ by repeat (first | exact HB.out | apply Below.drew | apply pw_below_drewN)) (Below.size (show Below w.heap.size w _ by repeat (first | exact HB.out | apply Below.drew | apply pw_below_drewN))) hb); have HBR := Aside0.mk hbr; clear HB; have HB := n0_; clear n0_ hb hbr) | ((with_reducible refine gate_dst (N := 7) rfl ?_); refine lit_event ?hg (N := 7) ?hd (cs := #[.int .u8 1]) (t := 5) (n := 1) ?hr ?_; (case hd => rfl); (case hg => rfl); (case hr => first | (go_simp; done) | (go_simp; rfl)); intro gx hg w2_ hbox hb; have n0_ := Aside0.mk (below_then (show Below w.heap.size w _ by repeat (first | exact HB.out | apply Below.drew | apply pw_below_drewN)) (Below.size (show Below w.heap.size w _ by repeat (first | exact HB.out | apply Below.drew | apply pw_below_drewN))) hb); have n1_ := Aside0.mk (BR.move (by exact HBR.out) hb); have BKx := Aside0.mk hbox; clear HB HBR; have HB := n0_; have HBR := n1_; clear n0_ n1_ hb hbox hg) | ((with_reducible refine gate_builtin (b := .append) (xs := #[.tmp 6, .tmp 7]) rfl ?_); at_builtin; refine br_append (w0 := w) rfl (.tmp 6) (.tmp 7) 46 rfl i0 Tryd.underlying46 hi hz0 hz1 hz2 rfl (by exact HBR.out) rfl (by exact BKx.out) (show Below w.heap.size w _ by repeat (first | exact HB.out | apply Below.drew | apply pw_below_drewN)) (Below.size (show Below w.heap.size w _ by repeat (first | exact HB.out | apply Below.drew | apply pw_below_drewN))) (by rw [nb_len]; have := HTt.out; omega) ?_; intro v3_ w3_ hbr hb; have n0_ := Aside0.mk hb; have n1_ := Aside0.mk (show BR w3_ w.heap.size v3_ (pk t 0) by have h_ := hbr; unfold pk; rw [List.replicate_zero, List.append_nil]; exact h_); clear HB HBR; have HB := n0_; have HBR := n1_; clear n0_ n1_ hb hbr))
  go_loopg [3] (Z + 1) (fun kq v3 w' => ∃ (k : Nat) (u : Value), v3 = u ∧ Aside0 (k + kq = Z + 1 ∧ k ≤ Z) ∧ Aside0 (BR w' w.heap.size u (pk t k)) ∧ Aside0 (Below w.heap.size w w'))
  case atStart => exact ⟨0, _, rfl, ⟨by omega, by omega⟩, ⟨by exact HBR.out⟩, ⟨(show Below w.heap.size w _ by repeat (first | exact HB.out | apply Below.drew | apply pw_below_drewN))⟩⟩
  case round =>
    clear HB HBR BKx
    obtain ⟨K1, u, rfl, HK1, HBR, HB⟩ := hrel
    cases gk with
    | zero => exact absurd HK1.out (by omega)
    | succ k1 =>
      obtain ⟨g, cp, hv⟩ := HBR.out.form
      subst hv
      obtain ⟨n, hn⟩ : ∃ n, n = (pk t K1).length := ⟨_, rfl⟩
      have HN := Aside0.mk (show n = t.size + 1 + K1 by rw [hn, pk_len])
      have HNe := Aside0.mk hn
      rw [← hn] at HBR ⊢
      clear hn
      obtain ⟨m, hm, em⟩ : ∃ y_, Int.tmod (n : Int) 136 = y_ ∧ Aside0 (y_ = ((n % 136 : Nat) : Int)) := ⟨_, rfl, ⟨by rw [Int.tmod_eq_emod_of_nonneg (by omega)]; omega⟩⟩
      by_cases c : K1 < Z
      · have cm : m ≠ 0 := by have := em.out; have := HN.out; have := HZ.out; omega
        have c0 : (m == 0) = false := beq_eq_false_iff_ne.mpr cm
        have c1 : (m != 0) = true := bne_iff_ne.mpr cm
        have HC1 := Aside0.mk c
        clear c cm
        go_wp2_with (first | ((with_reducible refine gate_dst (N := 14) rfl ?_); refine lit_event ?hg (N := 14) ?hd (cs := #[.int .u8 0]) (t := 5) (n := 1) ?hr ?_; (case hd => rfl); (case hg => rfl); (case hr => first | (go_simp; done) | (go_simp; rfl)); intro gx hg w2_ hbox hb; have n0_ := Aside0.mk (below_then (show Below w.heap.size w _ by repeat (first | exact HB.out | apply Below.drew | apply pw_below_drewN)) (Below.size (show Below w.heap.size w _ by repeat (first | exact HB.out | apply Below.drew | apply pw_below_drewN))) hb); have n1_ := Aside0.mk (BR.move (by exact HBR.out) hb); have BKx := Aside0.mk hbox; clear HB HBR; have HB := n0_; have HBR := n1_; clear n0_ n1_ hb hbox hg) | ((with_reducible refine gate_builtin (b := .append) (xs := #[.tmp 13, .tmp 14]) rfl ?_); at_builtin; refine br_append (w0 := w) rfl (.tmp 13) (.tmp 14) 46 rfl i0 Tryd.underlying46 hi hz0 hz1 hz2 rfl (by exact HBR.out) rfl (by exact BKx.out) (show Below w.heap.size w _ by repeat (first | exact HB.out | apply Below.drew | apply pw_below_drewN)) (Below.size (show Below w.heap.size w _ by repeat (first | exact HB.out | apply Below.drew | apply pw_below_drewN))) (by rw [← HNe.out]; have := HTt.out; have := HN.out; have := HC1.out; have := HZ.out; omega) ?_; intro v3_ w3_ hbr hb; have n0_ := Aside0.mk hb; have n1_ := Aside0.mk (show BR w3_ w.heap.size v3_ (pk t (K1 + 1)) by rw [← pk_succ]; exact hbr); clear HB HBR; have HB := n0_; have HBR := n1_; clear n0_ n1_ hb hbr))
        go_roundg k1
        case measure => omega
        case rel => exact ⟨K1 + 1, _, rfl, ⟨by have := HK1.out; omega, by have := HC1.out; omega⟩, ⟨by exact HBR.out⟩, ⟨(show Below w.heap.size w _ by repeat (first | exact HB.out | apply Below.drew | apply pw_below_drewN))⟩⟩
      · obtain rfl : K1 = Z := by have := HK1.out; omega
        have cm : m = 0 := by have := em.out; have := HN.out; have := HZ.out; omega
        have c0 : (m == 0) = true := beq_iff_eq.mpr cm
        have c1 : (m != 0) = false := bne_eq_false_iff_eq.mpr cm
        clear c cm
        have HPK := Aside0.mk (show pk t K1 = padRaw (nb t) by rw [HZ.out]; exact pk_pad t)
        obtain ⟨g', c', cs, fr, hv, hg, hb, hc, hn, hf, hcs⟩ := HBR.out
        obtain ⟨rfl, rfl⟩ : g = g' ∧ cp = c' := by injection hv with h1 _ h3; injection h1 with h1; injection h1 with h1; exact ⟨h1, h3⟩
        have HBK := Aside0.mk hb
        have GEs := Aside0.mk hg
        have HSC := Aside0.mk (show n ≤ cs.size by rw [HNe.out]; exact hn)
        have HFR := Aside0.mk hf
        have HCE := Aside0.mk (show ∀ i, i < n → cs[i]? = some (.int .u8 (ga (padRaw (nb t)) i)) by intro i hi; rw [← HPK.out]; exact hcs i (by rw [← HNe.out]; exact hi))
        clear hv hg hb hc hn hf hcs
        obtain ⟨li, hli, eli⟩ : ∃ y_, wrap64 ((n : Int) - 1) = y_ ∧ Aside0 (y_ = ((n - 1 : Nat) : Int)) := ⟨_, rfl, ⟨by have := HN.out; have := HTt.out; have := HZ.out; unfold wrap64; omega⟩⟩
        have pl : (0 ≤ li) = True := eq_true (by have := eli.out; omega)
        have ql : (li < (n : Int)) = True := eq_true (by have := eli.out; have := HN.out; omega)
        have hcl : wr.cell? ⟨g, li.toNat, none⟩ = some (.int .u8 (ga (padRaw (nb t)) li.toNat)) := (cell_of_row wr g _ cs _ _ HBK.out).trans (HCE.out _ (by have := eli.out; have := HN.out; omega))
        have hfz : wr.frozen? ⟨g, li.toNat, none⟩ = false := fr_no HBK.out HFR.out (by have := eli.out; have := HN.out; have := HSC.out; omega)
        go_wp2_with (first | ((with_reducible refine gate_dst (N := 29) rfl ?_); refine conv2_event ?hg (N := 29) ?hd (src := 46) (dst := 9) (e := 5) rfl (g := g) (n := n) (c := cp) ?hx Tryd.underlying46 Tryd.underlying5 Tryd.underlying9 (padL (nb t)) ?hlen ?hcell ?_; (case hg => rfl); (case hd => rfl); (case hx => rfl); (case hlen => rw [padL_len, ← HPK.out, ← HNe.out]); (case hcell => intro i hi; refine (cell_of_row _ g i _ _ _ (blkf_set HBK.out li.toNat _)).trans ?_; rw [show li.toNat = n - 1 by have := eli.out; omega]; exact pad_cells (by rw [← HPK.out, ← HNe.out]) (by omega) HSC.out HCE.out i hi)))
        go_ret
        exact ⟨rfl, (by repeat (first | exact HB.out | apply Below.drew | apply pw_below_drewN | refine Below.setCell ?_ GEs.out _))⟩
end Go.Proofs.YtkdmplfldfagnaaDoor.Kp
end
section
namespace Go.Proofs.YtkdmplfldfagnaaDoor.Kp
open Go.RowKit Go.Proofs.YtkdmplfldfagnaaDoorW.PrintWords Go.Proofs.YtkdmplfldfagnaaDoorW.PrintLast Go.Proofs.YtkdmplfldfagnaaDoorW.PrintMore
attribute [local go_sem] max2_int min2_int max_two min_two max_three min_three max_four min_four   -- for this text's walks alone
set_option linter.unusedVariables false
set_option linter.unusedSimpArgs false
/-! ### spec_l03Word: function 80 -/
def spec_l03Word.l0 : Nat → ByteArray → Int → Int → Int → Option (Int)
 | 0, _, _, _, _ => none
 | k + 1, x0, x1, x5, x6 => if x6 ≥ 0 then (if 0 ≤ (wrap64 (x1 + x6)) then (if (wrap64 (x1 + x6)) < (x0.size : Int) then (spec_l03Word.l0 k x0 x1 (Go.bits .or .u64 (IntKind.u64.wrap (x5 * 256)) (IntKind.u64.wrap (bt x0 (wrap64 (x1 + x6))))) (wrap64 (x6 - 1))) else (none)) else (none)) else (some x5)
def spec_l03Word.f (k : Nat) (a0 : ByteArray) (a1 : Int) : Option (Int) := spec_l03Word.l0 k a0 a1 0 7
theorem spec_l03Word.mono_l : ∀ k, (∀ y0 y1 y2 y3, LeO (spec_l03Word.l0 k y0 y1 y2 y3) (spec_l03Word.l0 (k + 1) y0 y1 y2 y3))
 | 0 => fun _ _ _ _ r h => by simp [spec_l03Word.l0] at h
 | k + 1 => by
  have ih0 := spec_l03Word.mono_l k
  ·intro y0 y1 y2 y3
   unfold spec_l03Word.l0
   repeat' first
   | (with_reducible exact ih0 _ _ _ _)
   | (with_reducible exact LeO.refl _)
   | (with_reducible exact LeO.none _)
   | (with_reducible refine LeO.ite ?_ ?_)
   | (with_reducible refine LeO.bind ?_ (fun _ => ?_))
   | exact ih0 _ _ _ _
   | exact LeO.none _
   | refine LeO.ite ?_ ?_
   | refine LeO.bind ?_ (fun _ => ?_)
theorem spec_l03Word.mono : ∀ a0 a1 k, LeO (spec_l03Word.f k a0 a1) (spec_l03Word.f (k + 1) a0 a1) := by
 intro a0 a1 k
 have ih0 := spec_l03Word.mono_l k
 unfold spec_l03Word.f
 repeat' first
   | (with_reducible exact ih0 _ _ _ _)
   | (with_reducible exact LeO.refl _)
   | (with_reducible exact LeO.none _)
   | (with_reducible refine LeO.ite ?_ ?_)
   | (with_reducible refine LeO.bind ?_ (fun _ => ?_))
   | exact ih0 _ _ _ _
   | exact LeO.none _
   | refine LeO.ite ?_ ?_
   | refine LeO.bind ?_ (fun _ => ?_)
set_option maxHeartbeats 8000000 in
set_option maxRecDepth 100000 in
theorem spec_l03Word.calls (k : Nat) (a0 : ByteArray) (a1 : Int) (r : Int) (w : World) (h : spec_l03Word.f k a0 a1 = some r) :
  Calls Tryd.prog 80 #[.string a0, .int .i64 a1] w fun e w' => e = .returned (.int .u64 r) ∧ Drawn0 w w' := by
 have H : (spec_l03Word.l0 k a0 a1 0 7) = some r := h
 clear h
 have H' := Aside0.mk H
 clear H
 go_enter Tryd.func80, Tryd.ntmps80
 go_wp2
 go_loopg [5, 6] k (fun kq v5 v6 w' => ∃ (x5_1 : Int) (x6_1 : Int), v5 = .int .u64 x5_1 ∧ v6 = .int .i64 x6_1 ∧ Aside0 (spec_l03Word.l0 kq a0 a1 x5_1 x6_1 = some r) ∧ Aside0 (kq ≤ k) ∧ Drawn0 w w')
 case atStart => exact ⟨(0), (7), rS, rS, H', ⟨Nat.le_refl _⟩, by repeat (first | exact Drawn0.refl _ | apply Drawn0.step)⟩
 case round =>
  clear H'
  try clear p2
  obtain ⟨x5_1, x6_1, rfl, rfl, HA, HK1, ⟨m1, rfl⟩⟩ := hrel
  cases gk with
  | zero => exact absurd HA.out (by simp [spec_l03Word.l0])
  | succ k1 =>
   have H := HA.out
   clear HA
   simp only [spec_l03Word.l0] at H
   by_cases c3 : x6_1 ≥ 0
   ·rw [if_pos c3] at H
    have c3b0 : decide (0 ≤ x6_1) = true := decide_eq_true c3
    clear c3
    obtain ⟨ji4, hji4⟩ : ∃ j_ : Int, (wrap64 (a1 + x6_1)) = j_ := ⟨_, rfl⟩
    replace H : (if 0 ≤ (ji4) then (if (ji4) < (a0.size : Int) then (spec_l03Word.l0 k1 a0 a1 (Go.bits .or .u64 (IntKind.u64.wrap (x5_1 * 256)) (IntKind.u64.wrap (bt a0 (ji4)))) (wrap64 (x6_1 - 1))) else (none)) else (none)) = some r := by first | (rw [hji4] at H; exact H) | (simp only [hji4] at H ⊢; exact H)
    have hji4w : (IntKind.i64.wrap (a1 + x6_1)) = ji4 := (i64_w _).trans hji4
    by_cases c5 : 0 ≤ (ji4)
    ·rw [if_pos c5] at H
     have c5b0 : decide (0 ≤ (ji4)) = true := decide_eq_true c5
     clear c5
     by_cases c6 : (ji4) < (a0.size : Int)
     ·rw [if_pos c6] at H
      have c6b0 : decide ((ji4) < (a0.size : Int)) = true := decide_eq_true c6
      clear c6
      have H' := Aside0.mk H
      clear H
      have p7 : 0 ≤ ((ji4) : Int) := of_decide_eq_true (by first | (with_reducible assumption) | assumption)
      have q7 : (ji4) < (a0.size : Int) := of_decide_eq_true (by first | (with_reducible assumption) | assumption)
      have hx7 := bt_at a0 (ji4)
      replace p7 := eq_true p7
      replace q7 := eq_true q7
      go_wp2
      go_roundg k1
      case measure => have := HK1.out; omega
      case rel => exact ⟨(Go.bits .or .u64 (IntKind.u64.wrap (x5_1 * 256)) (IntKind.u64.wrap (bt a0 (ji4)))), (wrap64 (x6_1 - 1)), (by first | rfl | (simp; done) | (simp only [← hji4] <;> (first | rfl | simp)) | (simp [*]; done)), rS, H', ⟨by have := HK1.out; omega⟩, by repeat (first | exact Drawn0.refl _ | apply Drawn0.step)⟩
     ·rw [if_neg c6] at H
      exact absurd H (by simp)
    ·rw [if_neg c5] at H
     exact absurd H (by simp)
   ·rw [if_neg c3] at H
    have c3b0 : decide (0 ≤ x6_1) = false := decide_eq_false c3
    clear c3
    obtain rfl := Option.some.inj H
    go_wp2
    go_ret
    exact ⟨rS, rD⟩
end Go.Proofs.YtkdmplfldfagnaaDoor.Kp
end
section
/- What is proved here: steps of Keccak as the program and the reference write it: what each function answers. No conditions but those that each theorem names. -/
namespace Go.Proofs.YtkdmplfldfagnaaDoor.Kp
open Go.RowKit Go.Proofs.YtkdmplfldfagnaaDoorW.PrintWords Go.Proofs.YtkdmplfldfagnaaDoorW.PrintLast Go.Proofs.YtkdmplfldfagnaaDoorW.PrintMore
set_option linter.unusedVariables false
set_option linter.unusedSimpArgs false
theorem word_l0 (k : Nat) : ∀ (p : ByteArray) (a x i : Int), spec_l03Word.l0 k p a x i = impl_wordAt.l0 k p a x i := by
  induction k with
  | zero => intro p a x i; rfl
  | succ k ih => intro p a x i; simp only [spec_l03Word.l0, impl_wordAt.l0, ih]
theorem word_f (p : ByteArray) (a : Nat) (h : a + 8 ≤ p.size) (hp : p.size ≤ 281474976710656) : spec_l03Word.f 9 p (a : Int) = some (wv p a) := by
  rw [← wordAt_f p a h hp]
  exact word_l0 9 p _ _ _
def abstS (p : ByteArray) : Nat → List Int
  | 0 => List.replicate 25 0
  | j + 1 => allS (xst (abstS p j) p (136 * j) 17) 24
theorem abstS_len (p : ByteArray) (j : Nat) : (abstS p j).length = 25 := by
  induction j with
  | zero => rfl
  | succ j ih => simp only [abstS, allS_len, xst_len]; exact ih
def digS (t : ByteArray) : ByteArray := (strOfNums (tby (abstS (padT t) (t.size / 136 + 1)) 200)).extract 0 32
def spec_Digest.f (a0 : ByteArray) : Option ByteArray := if a0.size ≤ 140737488351232 then some (digS a0) else none
theorem tby_size (s : List Int) : (strOfNums (tby s 200)).size = 200 := by
  rw [strOf_size, tby_len]
def spec_Digest.T9 : Bool × List (List Nat × List Nat) := (true, [([], []), ([], []), ([1], [1]), ([2], [2]), ([], []), ([], []), ([], []), ([6], [6]), ([5, 7], [5, 7]), ([4, 8], [4, 8]), ([3, 9], [3, 9]), ([0, 0, 1, 2, 3, 4, 5, 6, 7, 8, 9, 10], [0]), ([11, 10, 9, 0, 1, 2, 3, 4, 5, 6, 7, 8, 9, 10], [10, 11])])
def spec_Digest.B9 : List Nat := [0, 0, 2, 6, 0, 0, 0, 64, 224, 496, 1022, 2047, 4095]
theorem spec_Digest.tab9 : rtab .any (opsOf Tryd.f41 9) = spec_Digest.T9 := by kernel_rfl
theorem spec_Digest.bits9 : waitsOk spec_Digest.T9.2 spec_Digest.B9 = true := by kernel_rfl
set_option maxHeartbeats 8000000 in
set_option maxRecDepth 100000 in
theorem spec_Digest.calls (t : ByteArray) (r : ByteArray) (w : World) (h : spec_Digest.f t = some r) :
    Calls Tryd.prog 41 #[.string t] w fun e w' => e = .returned (.string r) ∧ Below w.heap.size w w' := by
  unfold spec_Digest.f at h
  by_cases ht : t.size ≤ 140737488351232
  case neg => rw [if_neg ht] at h; exact absurd h (by simp)
  rw [if_pos ht] at h
  obtain rfl := Option.some.inj h
  clear h
  have HTt := Aside0.mk ht
  have HB := Aside0.mk (Below.refl w.heap.size w)
  clear ht
  obtain ⟨pd, hpd⟩ : ∃ p_, p_ = padT t := ⟨_, rfl⟩
  have HPD := Aside0.mk hpd
  have HPS := Aside0.mk (show pd.size = 136 * (t.size / 136 + 1) by rw [hpd]; exact padT_size t)
  clear hpd
  go_enter Tryd.func41, Tryd.ntmps41
  go_wp2_with (first | (go_at_call 79; (with_reducible refine (spec_KeccakPad.calls t HTt.out _).mono ?_); rintro e w1_ ⟨rfl, hb⟩; have n0_ := Aside0.mk (below_then (by repeat (first | exact HB.out | apply Below.drew | apply pw_below_drewN)) (Below.size (by repeat (first | exact HB.out | apply Below.drew | apply pw_below_drewN))) hb); clear HB; have HB := n0_; clear n0_ hb; rw [show strOfNums (padL (nb t)) = pd from HPD.out.symm]) | ((with_reducible refine gate_dst (N := 9) rfl ?_); refine wpList_buildA rfl 92 _ rfl (cs := ue (List.replicate 25 0)) ?hb ?_; (case hb => exact built0_92)) | ((with_reducible refine gate_dst (N := 4) rfl ?_); refine box_event ?hg (N := 4) ?hd (cs := ue (List.replicate 25 0)) (t := 92) ?hr ?_; (case hd => rfl); (case hg => rfl); (case hr => first | (go_simp; done) | (go_simp; rfl)); intro g hg w2_ hbox hb; have n0_ := Aside0.mk (below_then (by repeat (first | exact HB.out | apply Below.drew | apply pw_below_drewN)) (Below.size (by repeat (first | exact HB.out | apply Below.drew | apply pw_below_drewN))) hb); have GEs := Aside0.mk (show w.heap.size ≤ g by rw [hg]; exact Below.size (by repeat (first | exact HB.out | apply Below.drew | apply pw_below_drewN))); clear HB; have HB := n0_; have BKs := Aside0.mk hbox; clear n0_ hb hbox hg) | ((with_reducible refine gate_store (t := 92) (p := 4) rfl ?_); refine store_row_event rfl 92 _ _ rfl g (ue (List.replicate 25 0)) rfl rfl 92 (ue (List.replicate 25 0)) (by (with_reducible repeat (first | refine blk_drewN ?_ _ | refine blk_drew ?_)); exact BKs.out) (by kernel_rfl) rfl (ue_one _) ?_; intro w9_ h1_ h2_ h3_; have n0_ := Aside0.mk (h3_ w.heap.size w (by repeat (first | exact HB.out | apply Below.drew | apply pw_below_drewN | refine Below.setCell ?_ GEs.out _)) GEs.out); clear HB BKs; have HB := n0_; have BKs := Aside0.mk h1_; clear n0_ h1_ h2_ h3_))
  go_loopg [5] (t.size / 136 + 2) (fun kq v5 w' => ∃ (j : Nat) (x : Int), v5 = .int .i64 x ∧ Aside0 (x = ((136 * j : Nat) : Int) ∧ j + kq = t.size / 136 + 2 ∧ j ≤ t.size / 136 + 1) ∧ Aside0 (w'.heap[g]? = some (.cells (ue (abstS pd j)) 92 (0, 0))) ∧ Aside0 (Below w.heap.size w w'))
  case atStart => exact ⟨0, 0, rfl, ⟨rfl, by omega, by omega⟩, ⟨by (with_reducible repeat (first | refine blk_drewN ?_ _ | refine blk_drew ?_)); exact BKs.out⟩, ⟨(by repeat (first | exact HB.out | apply Below.drew | apply pw_below_drewN | refine Below.setCell ?_ GEs.out _))⟩⟩
  case round =>
    clear BKs HB
    obtain ⟨J, at_, rfl, HK1, BKs, HB⟩ := hrel
    cases gk with
    | zero => exact absurd HK1.out (by omega)
    | succ k1 =>
      by_cases c : J < t.size / 136 + 1
      · have c0 : decide (at_ < (pd.size : Int)) = true := decide_eq_true (by have := HK1.out; have := HPS.out; omega)
        have HC1 := Aside0.mk c
        clear c
        go_wp2
        go_loopg [6] 18 (fun kq v6 w' => ∃ (k : Nat) (x : Int), v6 = .int .i64 x ∧ Aside0 (x = (k : Int) ∧ k + kq = 18 ∧ k ≤ 17) ∧ Aside0 (w'.heap[g]? = some (.cells (ue (xst (abstS pd J) pd (136 * J) k)) 92 (0, 0))) ∧ Aside0 (Below w.heap.size w w'))
        case atStart => exact ⟨0, 0, rfl, ⟨rfl, rfl, by decide⟩, ⟨by (with_reducible repeat (first | refine blk_drewN ?_ _ | refine blk_drew ?_)); exact BKs.out⟩, ⟨(by repeat (first | exact HB.out | apply Below.drew | apply pw_below_drewN | refine Below.setCell ?_ GEs.out _))⟩⟩
        case round =>
          clear BKs HB c0
          obtain ⟨K2, x, rfl, HK2, BKs, HB⟩ := hrel
          cases gk with
          | zero => exact absurd HK2.out (by omega)
          | succ k2 =>
            by_cases c : K2 < 17
            · have c0 : decide (x < 17) = true := decide_eq_true (by have := HK2.out; omega)
              have HC2 := Aside0.mk c
              clear c
              obtain ⟨a1, ha1, ea1⟩ : ∃ y_, wrap64 (8 * x) = y_ ∧ Aside0 (y_ = ((8 * K2 : Nat) : Int)) := ⟨_, rfl, ⟨by have := HK1.out; have := HC1.out; have := HK2.out; have := HC2.out; have := HPS.out; have := HTt.out; first | (unfold wrap64; omega) | (rw [Int.tmod_eq_emod_of_nonneg (by omega)]; omega)⟩⟩
              obtain ⟨a2, ha2, ea2⟩ : ∃ a2 : Nat, wrap64 (at_ + a1) = (a2 : Int) ∧ Aside0 (a2 = 136 * J + 8 * K2) := ⟨136 * J + 8 * K2, by have := HK1.out; have := HC1.out; have := HK2.out; have := HC2.out; have := HPS.out; have := HTt.out; have := ea1.out; unfold wrap64; omega, ⟨rfl⟩⟩
              have px : (0 ≤ x) = True := eq_true (by have := HK1.out; have := HC1.out; have := HK2.out; have := HC2.out; have := HPS.out; have := HTt.out; have := ea1.out; have := ea2.out; omega)
              have qx_25 : (x < 25) = True := eq_true (by have := HK1.out; have := HC1.out; have := HK2.out; have := HC2.out; have := HPS.out; have := HTt.out; have := ea1.out; have := ea2.out; omega)
              have hc0 : wr.cell? ⟨g, x.toNat, none⟩ = some (.int .u64 (ga (xst (abstS pd J) pd (136 * J) K2) x.toNat)) := (blk_cell BKs.out _).trans (ue_get (by rw [xst_len, abstS_len]; have := HK1.out; have := HC1.out; have := HK2.out; have := HC2.out; have := HPS.out; have := HTt.out; have := ea1.out; have := ea2.out; omega))
              have hfz : wr.frozen? ⟨g, x.toNat, none⟩ = false := blk_frozen BKs.out _
              have HW := Aside0.mk (word_f pd a2 (by have := HK1.out; have := HC1.out; have := HK2.out; have := HC2.out; have := HPS.out; have := HTt.out; have := ea1.out; have := ea2.out; omega) (by have := HK1.out; have := HC1.out; have := HK2.out; have := HC2.out; have := HPS.out; have := HTt.out; have := ea1.out; have := ea2.out; omega))
              go_wp2
              refine start_ (n := 13) (S := fun w' => w'.cell? ⟨g, x.toNat, none⟩ = some (.int .u64 (ga (xst (abstS pd J) pd (136 * J) K2) x.toNat))) (ds := [12]) #[false, false, false, false, false, false, false, false, false, false, false, false, false] (by kernel_rfl) rfl rfl (hc0) (fun hHeld => ?_)
              refine with_tabW spec_Digest.tab9 spec_Digest.bits9 (fun HT_ HW_ => ?_)
              refine pI 0 (some 20) HT_.out ?_
              refine pI 1 (some 21) HT_.out ?_
              refine pI 2 (some 22) HT_.out ?_
              refine pI 4 (some 24) HT_.out ?_
              refine pI 5 (some 25) HT_.out ?_
              refine pI 6 (some 26) HT_.out ?_
              refine pI 7 (some 27) HT_.out ?_
              refine pI 8 (some 28) HT_.out ?_
              refine tI1 3 (some 23) HT_.out HW_.out hHeld ?_
              refine oI 9 (some 29) HT_.out (fun K hK => ?_)
              refine goes_ Tryd.func80 (by kernel_rfl) rfl #[.string pd, .int .i64 (wrap64 (at_ + a1))] (by rfl) rfl rfl (by simp only [List.map_toArray, List.map_cons, List.map_nil]; rfl) ?_
              rw [ha2]
              with_reducible refine (spec_l03Word.calls 9 _ _ _ _ HW.out).mono ?_
              rintro e w3_ ⟨rfl, ⟨nd, rfl⟩⟩
              refine ⟨_, rfl, ?_⟩
              refine hK.out _ _ ((by exact hHeld)) (fun hHeld => ?_)
              clear hK K
              refine nO (some 29) ?_
              refine pI 10 (some 30) HT_.out ?_
              refine pI 11 (some 31) HT_.out ?_
              refine last_ (i := 12) (N := none) #[true, true, true, true, true, true, true, true, true, true, true, true, true] rfl rfl (one_of HT_.out (by kernel_rfl)) (by decide) (fun K hK => ?_)
              refine skip_ (w1 := ?_) (by rfl) rfl ?_ ?_
              rotate_left
              · go_simp
                rfl
              refine hK.out _ _ ?_
              clear hK K
              refine done_ (done_of HT_.out (by kernel_rfl)) ?_
              go_wp2
              go_roundg k2
              case measure => omega
              case rel => exact ⟨K2 + 1, _, rfl, ⟨by have := HK1.out; have := HC1.out; have := HK2.out; have := HC2.out; have := HPS.out; have := HTt.out; have := ea1.out; have := ea2.out; first | omega | (unfold wrap64; omega), by have := HK1.out; have := HC1.out; have := HK2.out; have := HC2.out; have := HPS.out; have := HTt.out; have := ea1.out; have := ea2.out; omega, by have := HK1.out; have := HC1.out; have := HK2.out; have := HC2.out; have := HPS.out; have := HTt.out; have := ea1.out; have := ea2.out; omega⟩, ⟨by (with_reducible repeat (first | refine blk_drewN ?_ _ | refine blk_drew ?_)); refine blk_put (cs := ue (xst (abstS pd J) pd (136 * J) K2)) (by (with_reducible repeat (first | refine blk_drewN ?_ _ | refine blk_drew ?_)); exact BKs.out) x.toNat _ ?_; rw [ue_set]; simp only [xst]; rw [show x.toNat = K2 by have := HK1.out; have := HC1.out; have := HK2.out; have := HC2.out; have := HPS.out; have := HTt.out; have := ea1.out; have := ea2.out; omega, show a2 = 136 * J + 8 * K2 by have := HK1.out; have := HC1.out; have := HK2.out; have := HC2.out; have := HPS.out; have := HTt.out; have := ea1.out; have := ea2.out; omega]⟩, ⟨(by repeat (first | exact HB.out | apply Below.drew | apply pw_below_drewN | refine Below.setCell ?_ GEs.out _))⟩⟩
            · have c0 : decide (x < 17) = false := decide_eq_false (by have := HK2.out; omega)
              obtain rfl : K2 = 17 := by have := HK2.out; omega
              clear c HK2
              obtain ⟨ov, hov⟩ : ∃ y_ : List Int, y_ = xst (abstS pd J) pd (136 * J) 17 := ⟨_, rfl⟩
              obtain ⟨nv, hnv⟩ : ∃ y_ : List Int, y_ = allS ov 24 := ⟨_, rfl⟩
              have HOL := Aside0.mk (show ov.length = 25 by rw [hov, xst_len, abstS_len])
              have HNL := Aside0.mk (show nv.length = 25 by rw [hnv, allS_len, HOL.out])
              have HOV := Aside0.mk hov
              have HNV := Aside0.mk hnv
              have n0_ := Aside0.mk (show wr.heap[g]? = some (.cells (ue ov) 92 (0, 0)) by rw [hov]; exact BKs.out)
              clear BKs hov hnv
              have BKs := n0_
              clear n0_
              have HZ1 := Aside0.mk (show (Tryd.prog.info? 92).map (·.size) = some (ue ov).size by rw [ue_size, HOL.out]; kernel_rfl)
              have HZ2 := Aside0.mk (show (Tryd.prog.info? 92).map (·.size) = some (ue nv).size by rw [ue_size, HNL.out]; kernel_rfl)
              have HZ3 := Aside0.mk (show (ue ov).size = (ue nv).size by rw [ue_size, ue_size, HOL.out, HNL.out])
              go_wp2_with (first | ((with_reducible refine gate_dst (N := 32) rfl ?_); refine wpList_load_row rfl 92 _ rfl g rfl 92 (ue ov) (0, 0) _ (by (with_reducible repeat (first | refine blk_drewN ?_ _ | refine blk_drew ?_)); exact BKs.out) Tryd.underlying92 rfl HZ1.out ?_) | (go_at_call 81; (with_reducible refine (spec_l03All.calls ov HOL.out _).mono ?_); rintro e w4_ ⟨rfl, hb⟩; have n0_ := Aside0.mk (below_then (by repeat (first | exact HB.out | apply Below.drew | apply pw_below_drewN | refine Below.setCell ?_ GEs.out _)) (Below.size (by repeat (first | exact HB.out | apply Below.drew | apply pw_below_drewN | refine Below.setCell ?_ GEs.out _))) hb); have n1_ := Aside0.mk (blk_below (by (with_reducible repeat (first | refine blk_drewN ?_ _ | refine blk_drew ?_)); exact BKs.out) hb); clear BKs HB; have HB := n0_; have BKs := n1_; clear n0_ n1_ hb; rw [← HNV.out]) | ((with_reducible refine gate_store (t := 92) (p := 4) rfl ?_); refine store_row_event rfl 92 _ _ rfl g (ue nv) rfl rfl 92 (ue ov) (by (with_reducible repeat (first | refine blk_drewN ?_ _ | refine blk_drew ?_)); exact BKs.out) HZ2.out HZ3.out (ue_one _) ?_; intro w9_ h1_ h2_ h3_; have n0_ := Aside0.mk (h3_ w.heap.size w (by repeat (first | exact HB.out | apply Below.drew | apply pw_below_drewN | refine Below.setCell ?_ GEs.out _)) GEs.out); clear HB BKs; have HB := n0_; have BKs := Aside0.mk h1_; clear n0_ h1_ h2_ h3_))
              go_roundg k1
              case measure => omega
              case rel => exact ⟨J + 1, _, rfl, ⟨by have := HK1.out; have := HC1.out; have := HPS.out; have := HTt.out; unfold wrap64; omega, by have := HK1.out; have := HC1.out; have := HPS.out; have := HTt.out; omega, by have := HK1.out; have := HC1.out; have := HPS.out; have := HTt.out; omega⟩, ⟨by have h_ := BKs.out; rw [HNV.out, HOV.out] at h_; (with_reducible repeat (first | refine blk_drewN ?_ _ | refine blk_drew ?_)); exact h_⟩, ⟨(by repeat (first | exact HB.out | apply Below.drew | apply pw_below_drewN | refine Below.setCell ?_ GEs.out _))⟩⟩
      · have c0 : decide (at_ < (pd.size : Int)) = false := decide_eq_false (by have := HK1.out; have := HPS.out; omega)
        obtain rfl : J = t.size / 136 + 1 := by have := HK1.out; omega
        clear c
        have HX := Aside0.mk (tby_size (abstS pd (t.size / 136 + 1)))
        obtain ⟨tx, htx⟩ : ∃ y_, y_ = strOfNums (tby (abstS pd (t.size / 136 + 1)) 200) := ⟨_, rfl⟩
        rw [← htx] at HX
        have HXe := Aside0.mk htx
        clear htx
        have h32 : ((32 : Int) ≤ (tx.size : Int)) = True := eq_true (by have := HX.out; omega)
        have HZ1 := Aside0.mk (show (Tryd.prog.info? 92).map (·.size) = some (ue (abstS pd (t.size / 136 + 1))).size by rw [ue_size, abstS_len]; kernel_rfl)
        go_wp2_with (first | ((with_reducible refine gate_dst (N := 34) rfl ?_); refine wpList_load_row rfl 92 _ rfl g rfl 92 (ue (abstS pd (t.size / 136 + 1))) (0, 0) _ (by (with_reducible repeat (first | refine blk_drewN ?_ _ | refine blk_drew ?_)); exact BKs.out) Tryd.underlying92 rfl HZ1.out ?_) | (go_at_call 82; (with_reducible refine (spec_l03Text.calls (abstS pd (t.size / 136 + 1)) (abstS_len _ _) _).mono ?_); rintro e w4_ ⟨rfl, hb⟩; have n0_ := Aside0.mk (below_then (by repeat (first | exact HB.out | apply Below.drew | apply pw_below_drewN | refine Below.setCell ?_ GEs.out _)) (Below.size (by repeat (first | exact HB.out | apply Below.drew | apply pw_below_drewN | refine Below.setCell ?_ GEs.out _))) hb); clear BKs HB; have HB := n0_; clear n0_ hb; rw [← HXe.out]))
        go_ret
        exact ⟨by unfold digS; rw [← HPD.out, ← HXe.out]; first | done | rfl, (by repeat (first | exact HB.out | apply Below.drew | apply pw_below_drewN | refine Below.setCell ?_ GEs.out _))⟩
end Go.Proofs.YtkdmplfldfagnaaDoor.Kp
end
section
/- What is proved here: steps of Keccak as the program and the reference write it: what each function answers. No conditions but those that each theorem names. -/
namespace Go.Proofs.YtkdmplfldfagnaaDoor.Kp
open Go.RowKit Go.Proofs.YtkdmplfldfagnaaDoorW.PrintWords Go.Proofs.YtkdmplfldfagnaaDoorW.PrintLast Go.Proofs.YtkdmplfldfagnaaDoorW.PrintMore
set_option linter.unusedVariables false
set_option linter.unusedSimpArgs false
theorem xr_range (a b : Int) : 0 ≤ xr a b ∧ xr a b < 18446744073709551616 := by
  unfold xr Go.bits
  rw [IntKind.wrap_u64]
  omega
theorem xr_comm (a b : Int) : Go.bits .xor .u64 a b = Go.bits .xor .u64 b a := by
  unfold Go.bits
  dsimp only
  rw [BitVec.xor_comm]
theorem and_turns : ∀ i : Fin 25, Go.bits .and .u64 (IntKind.u64.wrap (ga turnsL i.val)) 63 = ga turnsL i.val := by decide +kernel
theorem turns_pos : ∀ i : Fin 25, 0 ≤ ga turnsL i.val := by decide +kernel
theorem and_one : Go.bits .and .u64 (IntKind.u64.wrap 1) 63 = 1 := by decide +kernel
theorem and_zero : Go.bits .and .u64 (IntKind.u64.wrap 0) 63 = 0 := by decide +kernel
theorem rl_one (v : Int) : rl v 1 = tn v 1 := by
  unfold rl tn
  rw [and_one]
theorem rl_turn (v : Int) (i : Fin 25) : rl v (ga turnsL i.val) = tn v (ga turnsL i.val) := by
  unfold rl tn
  rw [and_turns]
theorem or_zero64 (v : Int) (h0 : 0 ≤ v) (h1 : v < 18446744073709551616) : Go.bits .or .u64 v 0 = v := by
  unfold Go.bits
  dsimp only
  rw [IntKind.wrap_u64]
  have e0 : BitVec.ofInt IntKind.u64.bits 0 = 0#(IntKind.u64.bits) := by rfl
  rw [e0, BitVec.or_zero, BitVec.toNat_ofInt]
  show (((v % ((2 ^ 64 : Nat) : Int)).toNat : Int)) % 18446744073709551616 = v
  rw [show (((2 : Nat) ^ 64 : Nat) : Int) = 18446744073709551616 from rfl, Int.emod_eq_of_lt h0 h1]
  omega
theorem rl_zero (v : Int) (h0 : 0 ≤ v) (h1 : v < 18446744073709551616) : rl v 0 = v := by
  unfold rl
  rw [and_zero]
  have e1 : shl .u64 v 0 = v := by
    unfold shl
    rw [IntKind.wrap_u64]
    show (v * 2 ^ (Min.min 0 IntKind.u64.bits)) % 18446744073709551616 = v
    rw [Nat.zero_min, Int.pow_zero, Int.mul_one, Int.emod_eq_of_lt h0 h1]
  have e2 : shr .u64 v (IntKind.u64.wrap (64 - 0)) = 0 := by
    unfold shr
    rw [IntKind.wrap_u64]
    show v / 2 ^ 64 = 0
    rw [show ((2 : Int) ^ 64) = 18446744073709551616 from rfl]
    omega
  rw [e1, e2]
  exact or_zero64 v h0 h1
theorem dd_eq (c : List Int) (x : Nat) : dd c x = ddS c x := by
  unfold dd ddS
  rw [rl_one]
theorem bat_eq (s c : List Int) (y x : Nat) (h : x + 5 * y < 25) : bat s c y x = batS s c y x := by
  unfold bat batS
  rw [dd_eq]
  by_cases hk : ga turnsL (x + 5 * y) > 0
  · rw [if_pos hk]
    exact rl_turn _ ⟨x + 5 * y, h⟩
  · rw [if_neg hk]
    have h0 := turns_pos ⟨x + 5 * y, h⟩
    have e : ga turnsL (x + 5 * y) = 0 := by
      dsimp only at h0
      omega
    rw [e]
    exact rl_zero _ (xr_range _ _).1 (xr_range _ _).2
theorem bst_list (s c : List Int) : bst s c 25 = [bat s c 0 0, bat s c 1 1, bat s c 2 2, bat s c 3 3, bat s c 4 4, bat s c 0 3, bat s c 1 4, bat s c 2 0, bat s c 3 1, bat s c 4 2, bat s c 0 1, bat s c 1 2, bat s c 2 3, bat s c 3 4, bat s c 4 0, bat s c 0 4, bat s c 1 0, bat s c 2 1, bat s c 3 2, bat s c 4 3, bat s c 0 2, bat s c 1 3, bat s c 2 4, bat s c 3 0, bat s c 4 1] := by kernel_rfl
theorem bstS_list (s c : List Int) : bstS s c 25 = [batS s c 0 0, batS s c 1 1, batS s c 2 2, batS s c 3 3, batS s c 4 4, batS s c 0 3, batS s c 1 4, batS s c 2 0, batS s c 3 1, batS s c 4 2, batS s c 0 1, batS s c 1 2, batS s c 2 3, batS s c 3 4, batS s c 4 0, batS s c 0 4, batS s c 1 0, batS s c 2 1, batS s c 3 2, batS s c 4 3, batS s c 0 2, batS s c 1 3, batS s c 2 4, batS s c 3 0, batS s c 4 1] := by kernel_rfl
theorem bst_eq (s c : List Int) : bst s c 25 = bstS s c 25 := by
  rw [bst_list, bstS_list]
  rw [bat_eq s c 0 0 (by decide), bat_eq s c 1 1 (by decide), bat_eq s c 2 2 (by decide), bat_eq s c 3 3 (by decide), bat_eq s c 4 4 (by decide), bat_eq s c 0 3 (by decide), bat_eq s c 1 4 (by decide), bat_eq s c 2 0 (by decide), bat_eq s c 3 1 (by decide), bat_eq s c 4 2 (by decide), bat_eq s c 0 1 (by decide), bat_eq s c 1 2 (by decide), bat_eq s c 2 3 (by decide), bat_eq s c 3 4 (by decide), bat_eq s c 4 0 (by decide), bat_eq s c 0 4 (by decide), bat_eq s c 1 0 (by decide), bat_eq s c 2 1 (by decide), bat_eq s c 3 2 (by decide), bat_eq s c 4 3 (by decide), bat_eq s c 0 2 (by decide), bat_eq s c 1 3 (by decide), bat_eq s c 2 4 (by decide), bat_eq s c 3 0 (by decide), bat_eq s c 4 1 (by decide)]
theorem chi_eq (b : List Int) (y x : Nat) : chi b y x = chiS b y x := by
  unfold chi chiS u64not
  rw [xr_comm IntKind.u64.max]
  rfl
theorem sst_eq (s b : List Int) (k : Nat) : sst s b k = sstS s b k := by
  induction k with
  | zero => rfl
  | succ k ih => simp only [sst, sstS, ih, chi_eq]
theorem round_eq (s : List Int) (n : Nat) : roundI s n = roundS s (ga rcL n) := by
  unfold roundI roundS
  rw [bst_eq, sst_eq]
theorem rit_eq (s : List Int) (k : Nat) : rit s k = allS s k := by
  induction k with
  | zero => rfl
  | succ k ih => simp only [rit, allS, ih, round_eq]
theorem abst_eq (p : ByteArray) (j : Nat) : abst p j = abstS p j := by
  induction j with
  | zero => rfl
  | succ j ih => simp only [abst, abstS, ih, rit_eq]
theorem tby_form (a : List Int) (k : Nat) (h : k ≤ 200) : tby a k = (List.range k).map (byteS a) ++ List.replicate (200 - k) 0 := by
  induction k with
  | zero => rfl
  | succ k ih =>
    simp only [tby]
    rw [ih (by omega), List.range_succ, List.map_append, List.append_assoc, List.set_append_right _ _ (by simp)]
    rw [show 200 - k = (200 - (k + 1)) + 1 by omega, List.replicate_succ]
    simp
theorem b8_at (a : List Int) (k : Nat) : b8 (ga a k) = [byteS a (8 * k), byteS a (8 * k + 1), byteS a (8 * k + 2), byteS a (8 * k + 3), byteS a (8 * k + 4), byteS a (8 * k + 5), byteS a (8 * k + 6), byteS a (8 * k + 7)] := by
  unfold b8 byteS
  have d : ∀ j, j < 8 → (8 * k + j) / 8 = k ∧ (8 * k + j) % 8 = j := fun j hj => by omega
  have d0 := d 0 (by decide)
  rw [Nat.add_zero] at d0
  rw [d0.1, d0.2, (d 1 (by decide)).1, (d 1 (by decide)).2, (d 2 (by decide)).1, (d 2 (by decide)).2, (d 3 (by decide)).1, (d 3 (by decide)).2, (d 4 (by decide)).1, (d 4 (by decide)).2, (d 5 (by decide)).1, (d 5 (by decide)).2, (d 6 (by decide)).1, (d 6 (by decide)).2, (d 7 (by decide)).1, (d 7 (by decide)).2]
  generalize ga a k = v
  have m : ∀ j, j < 8 → min (((8 * j : Nat) : Int)).toNat 64 = 8 * j := fun j hj => by omega
  rw [m 0 (by decide), m 1 (by decide), m 2 (by decide), m 3 (by decide), m 4 (by decide), m 5 (by decide), m 6 (by decide), m 7 (by decide)]
  rw [show (2 : Int) ^ (8 * 0) = 1 from rfl, show (2 : Int) ^ (8 * 1) = 256 from rfl, show (2 : Int) ^ (8 * 2) = 65536 from rfl, show (2 : Int) ^ (8 * 3) = 16777216 from rfl, show (2 : Int) ^ (8 * 4) = 4294967296 from rfl, show (2 : Int) ^ (8 * 5) = 1099511627776 from rfl, show (2 : Int) ^ (8 * 6) = 281474976710656 from rfl, show (2 : Int) ^ (8 * 7) = 72057594037927936 from rfl]
  simp only [List.cons.injEq, and_true, Int.ediv_one]
  have e2 : v / 256 / 256 = v / 65536 := by omega
  have e3 : v / 65536 / 256 = v / 16777216 := by omega
  have e4 : v / 16777216 / 256 = v / 4294967296 := by omega
  have e5 : v / 4294967296 / 256 = v / 1099511627776 := by omega
  have e6 : v / 1099511627776 / 256 = v / 281474976710656 := by omega
  have e7 : v / 281474976710656 / 256 = v / 72057594037927936 := by omega
  repeat' apply And.intro
  all_goals first | trivial | rfl | (rw [e2, e3, e4, e5, e6, e7]; done) | (rw [e2, e3, e4, e5, e6]; done) | (rw [e2, e3, e4, e5]; done) | (rw [e2, e3, e4]; done) | (rw [e2, e3]; done) | (rw [e2]; done)
theorem txl_form (a : List Int) (k : Nat) : txl a k = (List.range (8 * k)).map (byteS a) := by
  induction k with
  | zero => rfl
  | succ k ih =>
    simp only [txl]
    rw [ih, b8_at, show 8 * (k + 1) = 8 * k + 8 by omega]
    simp only [List.range_succ, List.map_append, List.map_cons, List.map_nil, List.append_assoc]
    rfl
theorem text_eq (a : List Int) : txl a 25 = tby a 200 := by
  rw [txl_form, tby_form a 200 (by decide)]
  simp
theorem dig_eq (t : ByteArray) : digI t = digS t := by
  unfold digI digS
  rw [abst_eq, text_eq]
theorem digest_eq (t : ByteArray) : impl_Digest.f t = spec_Digest.f t := by
  unfold impl_Digest.f spec_Digest.f
  rw [dig_eq]
end Go.Proofs.YtkdmplfldfagnaaDoor.Kp
end
section
namespace Go.Proofs.YtkdmplfldfagnaaDoor.Pf
open Go.RowKit Go.Proofs.YtkdmplfldfagnaaDoorW.PrintWords Go.Proofs.YtkdmplfldfagnaaDoorW.PrintLast Go.Proofs.YtkdmplfldfagnaaDoorW.PrintMore
attribute [local go_sem] max2_int min2_int max_two min_two max_three min_three max_four min_four   -- for this text's walks alone
set_option linter.unusedVariables false
set_option linter.unusedSimpArgs false
/-! ### spec_Digest: function 41 -/
def spec_Digest.f (a0 : ByteArray) : Option ByteArray := Kp.spec_Digest.f a0
theorem spec_Digest.calls (a0 : ByteArray) (r : ByteArray) (w : World) (h : spec_Digest.f a0 = some r) :
  Calls Tryd.prog 41 #[.string a0] w fun e w' => e = .returned (.string r) ∧ Below w.heap.size w w' :=
 Kp.spec_Digest.calls a0 r w h
/-! ### spec_LevelsOf: function 127 -/
def spec_LevelsOf.l0 : Nat → Int → Int → Option (Int)
 | 0, _, _ => none
 | k + 1, x0, x3 => if 0 ≤ (IntKind.u64.wrap (x3)) then (if (shl .i64 1 (IntKind.u64.wrap (x3))) < x0 then (spec_LevelsOf.l0 k x0 (wrap64 (x3 + 1))) else (some x3)) else (none)
def spec_LevelsOf.f (k : Nat) (a0 : Int) : Option (Int) := (spec_l01In.f a0 0 32).bind fun t390 => (if t390 = true then (spec_LevelsOf.l0 k a0 0) else (some (-1)))
theorem spec_LevelsOf.mono_l : ∀ k, (∀ y0 y1, LeO (spec_LevelsOf.l0 k y0 y1) (spec_LevelsOf.l0 (k + 1) y0 y1))
 | 0 => fun _ _ r h => by simp [spec_LevelsOf.l0] at h
 | k + 1 => by
  have ih0 := spec_LevelsOf.mono_l k
  ·intro y0 y1
   unfold spec_LevelsOf.l0
   repeat' first
   | (with_reducible exact ih0 _ _)
   | (with_reducible exact LeO.refl _)
   | (with_reducible exact LeO.none _)
   | (with_reducible refine LeO.ite ?_ ?_)
   | (with_reducible refine LeO.bind ?_ (fun _ => ?_))
   | exact ih0 _ _
   | exact LeO.none _
   | refine LeO.ite ?_ ?_
   | refine LeO.bind ?_ (fun _ => ?_)
theorem spec_LevelsOf.mono : ∀ a0 k, LeO (spec_LevelsOf.f k a0) (spec_LevelsOf.f (k + 1) a0) := by
 intro a0 k
 have ih0 := spec_LevelsOf.mono_l k
 unfold spec_LevelsOf.f
 repeat' first
   | (with_reducible exact ih0 _ _)
   | (with_reducible exact LeO.refl _)
   | (with_reducible exact LeO.none _)
   | (with_reducible refine LeO.ite ?_ ?_)
   | (with_reducible refine LeO.bind ?_ (fun _ => ?_))
   | exact ih0 _ _
   | exact LeO.none _
   | refine LeO.ite ?_ ?_
   | refine LeO.bind ?_ (fun _ => ?_)
set_option maxHeartbeats 8000000 in
set_option maxRecDepth 100000 in
theorem spec_LevelsOf.calls (k : Nat) (a0 : Int) (r : Int) (w : World) (h : spec_LevelsOf.f k a0 = some r) :
  Calls Tryd.prog 127 #[.int .i64 a0] w fun e w' => e = .returned (.int .i64 r) ∧ Drawn0 w w' := by
 have H : ((spec_l01In.f a0 0 32).bind fun t390 => (if t390 = true then (spec_LevelsOf.l0 k a0 0) else (some (-1)))) = some r := h
 clear h
 replace H := Option.bind_eq_some_iff.mp H
 obtain ⟨t390, A20, H⟩ := H
 have A2 := Aside0.mk A20
 clear A20
 by_cases c3 : t390 = true
 ·subst c3
  rw [if_pos rfl] at H
  have H' := Aside0.mk H
  clear H
  go_enter Tryd.func127, Tryd.ntmps127
  go_wp2_with (first | ((with_reducible refine gate_callee (f := 55) rfl ?_); refine gL (some 5) Tryd.func55 #[.int .i64 a0, .int .i64 0, .int .i64 32] ?_; (with_reducible refine (spec_l01In.calls a0 0 32 true _ A2.out).mono ?_); rintro e w' ⟨rfl, ⟨nd, rfl⟩⟩; refine ⟨_, rfl, ?_⟩))
  go_loopg [3] k (fun kq v3 w' => ∃ (x3_1 : Int), v3 = .int .i64 x3_1 ∧ Aside0 (spec_LevelsOf.l0 kq a0 x3_1 = some r) ∧ Aside0 (kq ≤ k) ∧ Drawn0 w w')
  case atStart => exact ⟨(0), rS, H', ⟨Nat.le_refl _⟩, by repeat (first | exact Drawn0.refl _ | apply Drawn0.step)⟩
  case round =>
   clear H'
   try clear c1
   try clear p2
   try clear c3
   obtain ⟨x3_1, rfl, HA, HK1, ⟨m1, rfl⟩⟩ := hrel
   cases gk with
   | zero => exact absurd HA.out (by simp [spec_LevelsOf.l0])
   | succ k1 =>
    have H := HA.out
    clear HA
    simp only [spec_LevelsOf.l0] at H
    obtain ⟨ji4, hji4⟩ : ∃ j_ : Int, (IntKind.u64.wrap (x3_1)) = j_ := ⟨_, rfl⟩
    replace H : (if 0 ≤ (ji4) then (if (shl .i64 1 (ji4)) < a0 then (spec_LevelsOf.l0 k1 a0 (wrap64 (x3_1 + 1))) else (some x3_1)) else (none)) = some r := by first | (rw [hji4] at H; exact H) | (simp only [hji4] at H ⊢; exact H)
    by_cases c5 : 0 ≤ (ji4)
    ·rw [if_pos c5] at H
     have c5b0 := eq_true c5
     have c5b1 : decide (0 ≤ (ji4)) = true := decide_eq_true c5
     clear c5
     obtain ⟨ji6, hji6⟩ : ∃ j_ : Int, (shl .i64 1 (ji4)) = j_ := ⟨_, rfl⟩
     replace H : (if (ji6) < a0 then (spec_LevelsOf.l0 k1 a0 (wrap64 (x3_1 + 1))) else (some x3_1)) = some r := by first | (rw [hji6] at H; exact H) | (simp only [hji6] at H ⊢; exact H)
     have hji6_ : (IntKind.i64.wrap (1 * 2 ^ min (ji4).toNat 64)) = ji6 := hji6
     have hji6z : (ji4) ≤ 64 → (IntKind.i64.wrap (1 * 2 ^ (ji4).toNat)) = ji6 := shl_small hji6
     have hji6u : (IntKind.i64.wrap (2 ^ min (ji4).toNat 64)) = ji6 := by have h_ := hji6_; rw [Int.one_mul] at h_; exact h_
     have hji6v : (ji4) ≤ 64 → (IntKind.i64.wrap (2 ^ (ji4).toNat)) = ji6 := fun hle_ => by have h_ := hji6z hle_; rw [Int.one_mul] at h_; exact h_
     have hji6y : (wrap64 (1 * 2 ^ min (ji4).toNat 64)) = ji6 := (i64_w _).symm.trans hji6_
     have hji6x : (ji4) ≤ 64 → (wrap64 (1 * 2 ^ (ji4).toNat)) = ji6 := fun h_ => (i64_w _).symm.trans (hji6z h_)
     by_cases c7 : (ji6) < a0
     ·rw [if_pos c7] at H
      have c7b0 : decide ((ji6) < a0) = true := decide_eq_true c7
      clear c7
      have H' := Aside0.mk H
      clear H
      go_wp2
      go_roundg k1
      case measure => have := HK1.out; omega
      case rel => exact ⟨(wrap64 (x3_1 + 1)), rS, H', ⟨by have := HK1.out; omega⟩, by repeat (first | exact Drawn0.refl _ | apply Drawn0.step)⟩
     ·rw [if_neg c7] at H
      have c7b0 : decide ((ji6) < a0) = false := decide_eq_false c7
      clear c7
      obtain rfl := Option.some.inj H
      go_wp2
      go_ret
      exact ⟨by first | rfl | (simp; done) | (simp only [← hji4, ← hji6] <;> (first | rfl | simp)) | (simp [*]; done), by repeat (first | exact Drawn0.refl _ | apply Drawn0.step)⟩
    ·rw [if_neg c5] at H
     exact absurd H (by simp)
 ·replace c3 := Bool.eq_false_iff.mpr c3
  subst c3
  rw [if_neg (show ¬ (false = true) by decide)] at H
  obtain rfl := Option.some.inj H
  go_enter Tryd.func127, Tryd.ntmps127
  go_wp2_with (first | ((with_reducible refine gate_callee (f := 55) rfl ?_); refine gL (some 5) Tryd.func55 #[.int .i64 a0, .int .i64 0, .int .i64 32] ?_; (with_reducible refine (spec_l01In.calls a0 0 32 false _ A2.out).mono ?_); rintro e w' ⟨rfl, ⟨nd, rfl⟩⟩; refine ⟨_, rfl, ?_⟩))
  go_ret
  exact ⟨rS, rD⟩
end Go.Proofs.YtkdmplfldfagnaaDoor.Pf
end
section
namespace Go.Proofs.YtkdmplfldfagnaaDoor.Pf
open Go.RowKit Go.Proofs.YtkdmplfldfagnaaDoorW.PrintWords Go.Proofs.YtkdmplfldfagnaaDoorW.PrintLast Go.Proofs.YtkdmplfldfagnaaDoorW.PrintMore
attribute [local go_sem] max2_int min2_int max_two min_two max_three min_three max_four min_four   -- for this text's walks alone
set_option linter.unusedVariables false
set_option linter.unusedSimpArgs false

/-! ### spec_l10Hashes: function 99 -/
mutual
def spec_l10Hashes.l0 : Nat → List ByteArray → List ByteArray → Int → Option (List ByteArray)
 | 0, _, _, _ => none
 | k + 1, x0, x3, x4 => if x4 < (x0.length : Int) then (if 0 ≤ x4 then ((spec_Digest.f (rdOf ByteArray.empty x0 x4)).bind fun t395 => (if x3.length < 8796093022208 then (spec_l10Hashes.l0 k x0 (x3 ++ [t395]) (wrap64 (x4 + 1))) else (none))) else (none)) else ((spec_Digest.f (⟨#[]⟩ : ByteArray)).bind fun t399 => (spec_l10Hashes.l1 k x0 x3 t399))
def spec_l10Hashes.l1 : Nat → List ByteArray → List ByteArray → ByteArray → Option (List ByteArray)
 | 0, _, _, _ => none
 | k + 1, x0, x3, x5 => (spec_LevelsOf.f k (x0.length : Int)).bind fun t400 => (if 0 ≤ (IntKind.u64.wrap (t400)) then (if (x3.length : Int) < (shl .i64 1 (IntKind.u64.wrap (t400))) then (if x3.length < 8796093022208 then (spec_l10Hashes.l1 k x0 (x3 ++ [x5]) x5) else (none)) else (some x3)) else (none))
end
def spec_l10Hashes.f (k : Nat) (l0 : List ByteArray) : Option (List ByteArray) := spec_l10Hashes.l0 k l0 (([] : List ByteArray)) 0
theorem spec_l10Hashes.mono_l : ∀ k, (∀ y0 y1 y2, LeO (spec_l10Hashes.l0 k y0 y1 y2) (spec_l10Hashes.l0 (k + 1) y0 y1 y2)) ∧ (∀ y0 y1 y2, LeO (spec_l10Hashes.l1 k y0 y1 y2) (spec_l10Hashes.l1 (k + 1) y0 y1 y2))
 | 0 => ⟨fun _ _ _ r h => by simp [spec_l10Hashes.l0] at h, fun _ _ _ r h => by simp [spec_l10Hashes.l1] at h⟩
 | k + 1 => by
  obtain ⟨ih0, ih1⟩ := spec_l10Hashes.mono_l k
  refine ⟨?_, ?_⟩
  ·intro y0 y1 y2
   unfold spec_l10Hashes.l0
   repeat' first
   | (with_reducible exact ih0 _ _ _)
   | (with_reducible exact ih1 _ _ _)
   | (with_reducible exact spec_LevelsOf.mono _ _)
   | (with_reducible exact LeO.refl _)
   | (with_reducible exact LeO.none _)
   | (with_reducible refine LeO.ite ?_ ?_)
   | (with_reducible refine LeO.bind ?_ (fun _ => ?_))
   | exact ih0 _ _ _
   | exact ih1 _ _ _
   | exact spec_LevelsOf.mono _ _
   | exact LeO.none _
   | refine LeO.ite ?_ ?_
   | refine LeO.bind ?_ (fun _ => ?_)
  ·intro y0 y1 y2
   unfold spec_l10Hashes.l1
   repeat' first
   | (with_reducible exact ih0 _ _ _)
   | (with_reducible exact ih1 _ _ _)
   | (with_reducible exact spec_LevelsOf.mono _ _)
   | (with_reducible exact LeO.refl _)
   | (with_reducible exact LeO.none _)
   | (with_reducible refine LeO.ite ?_ ?_)
   | (with_reducible refine LeO.bind ?_ (fun _ => ?_))
   | exact ih0 _ _ _
   | exact ih1 _ _ _
   | exact spec_LevelsOf.mono _ _
   | exact LeO.none _
   | refine LeO.ite ?_ ?_
   | refine LeO.bind ?_ (fun _ => ?_)
theorem spec_l10Hashes.mono : ∀ a0 k, LeO (spec_l10Hashes.f k a0) (spec_l10Hashes.f (k + 1) a0) := by
 intro a0 k
 obtain ⟨ih0, ih1⟩ := spec_l10Hashes.mono_l k
 unfold spec_l10Hashes.f
 repeat' first
   | (with_reducible exact ih0 _ _ _)
   | (with_reducible exact ih1 _ _ _)
   | (with_reducible exact spec_LevelsOf.mono _ _)
   | (with_reducible exact LeO.refl _)
   | (with_reducible exact LeO.none _)
   | (with_reducible refine LeO.ite ?_ ?_)
   | (with_reducible refine LeO.bind ?_ (fun _ => ?_))
   | exact ih0 _ _ _
   | exact ih1 _ _ _
   | exact spec_LevelsOf.mono _ _
   | exact LeO.none _
   | refine LeO.ite ?_ ?_
   | refine LeO.bind ?_ (fun _ => ?_)
set_option maxHeartbeats 8000000 in
set_option maxRecDepth 100000 in
theorem spec_l10Hashes.calls (k : Nat) (A0 : Option Addr) (c0 : Nat) (l0 : List ByteArray) (r : List ByteArray) (w : World) (hr0 : Kd.C Kd.string w A0 l0.length l0) (hc0 : l0.length ≤ c0) (h : spec_l10Hashes.f k l0 = some r) :
  Calls Tryd.prog 99 #[.slice A0 l0.length c0] w fun e w' => ∃ v0_ : Value, e = .returned (v0_) ∧ Kd.R Kd.string 9 w' w.heap.size (fun _ => True) v0_ r ∧ Below w.heap.size w w' := by
 have HR0 := Aside0.mk hr0
 have HC0 := Aside0.mk hc0
 clear hr0 hc0
 have HB := Aside0.mk (Below.refl w.heap.size w)
 have H : (spec_l10Hashes.l0 k l0 (([] : List ByteArray)) 0) = some r := h
 clear h
 obtain ⟨y391, hy391⟩ : ∃ y_ : List ByteArray, y_ = (([] : List ByteArray)) := ⟨_, rfl⟩
 replace H : (spec_l10Hashes.l0 k l0 y391 0) = some r := by first | (rw [hy391]; with_reducible exact H) | (have H2_ := (Option.bind_some _ _).symm.trans H; rw [hy391]; with_reducible exact H2_) | (have H2_ := (Option.bind_some _ _).symm.trans H; with_reducible exact H2_) | with_reducible exact H | (rw [hy391]; exact H) | exact H
 have Ny391 := Aside0.mk hy391
 clear hy391
 have H' := Aside0.mk H
 clear H
 go_enter Tryd.func99, Tryd.ntmps99
 go_wp2_with (first | ((with_reducible refine gate_dst (N := 6) rfl ?_); refine Kd.R_lit Kd.string _ 9 ?hg (N := 6) ?hd (xs := ([] : List ByteArray)) (inner := []) (ok := fun _ => True) (okp := fun _ => True) ?hr ?hp (fun _ hk => hk) trivial (Below.refl _ _) (Nat.le_refl _) (by simp) ?_; (case hd => rfl); (case hg => rfl); (case hr => first | (go_simp; done) | (go_simp; rfl)); (case hp => exact (Reps.none _ _)); intro v392 w2 ho3 hb hg_ hnew_; clear hg_ hnew_; (first | rw [← Ny391.out] at ho3 | (simp only [Int.reduceToNat] at ho3; rw [← Ny391.out] at ho3)); have HO393 := Aside0.mk (Kd.R_lower ho3 (below_size (bZ HB))); replace HB := bS HB hb; clear hb ho3))
 go_loopg [3, 4] k (fun kq v3 v4 w' => ∃ (x3_1 : List ByteArray) (x4_1 : Int), v4 = .int .i64 x4_1 ∧ Aside0 (spec_l10Hashes.l0 kq l0 x3_1 x4_1 = some r) ∧ Aside0 (kq ≤ k) ∧ Aside0 (Kd.R Kd.string 9 w' w.heap.size (fun _ => True) v3 x3_1) ∧ Aside0 (Below w.heap.size w w'))
 case atStart => exact ⟨(y391), (0), rS, H', ⟨Nat.le_refl _⟩, ⟨rP HO393⟩, ⟨bZ HB⟩⟩
 case round =>
  clear H'
  try clear p2
  obtain ⟨x3_1, x4_1, rfl, HA, HK1, HO_3, HB⟩ := hrel
  cases gk with
  | zero => exact absurd HA.out (by simp [spec_l10Hashes.l0])
  | succ k1 =>
   have H := HA.out
   clear HA
   simp only [spec_l10Hashes.l0] at H
   by_cases c4 : x4_1 < (l0.length : Int)
   ·rw [if_pos c4] at H
    have c4b0 : decide (x4_1 < (l0.length : Int)) = true := decide_eq_true c4
    clear c4
    by_cases c5 : 0 ≤ x4_1
    ·rw [if_pos c5] at H
     have c5b0 : decide (0 ≤ x4_1) = true := decide_eq_true c5
     clear c5
     replace H := Option.bind_eq_some_iff.mp H
     obtain ⟨t395, A60, H⟩ := H
     have A6 := Aside0.mk A60
     clear A60
     by_cases c7 : x3_1.length < 8796093022208
     ·rw [if_pos c7] at H
      have LMc7 := Aside0.mk c7
      clear c7
      obtain ⟨y396, hy396⟩ : ∃ y_ : List ByteArray, y_ = (x3_1 ++ [t395]) := ⟨_, rfl⟩
      replace H : (spec_l10Hashes.l0 k1 l0 y396 (wrap64 (x4_1 + 1))) = some r := by first | (rw [hy396]; with_reducible exact H) | (have H2_ := (Option.bind_some _ _).symm.trans H; rw [hy396]; with_reducible exact H2_) | (have H2_ := (Option.bind_some _ _).symm.trans H; with_reducible exact H2_) | with_reducible exact H | (rw [hy396]; exact H) | exact H
      have Ny396 := Aside0.mk hy396
      clear hy396
      have H' := Aside0.mk H
      clear H
      have p394 : 0 ≤ (x4_1 : Int) := of_decide_eq_true (by first | (with_reducible assumption) | assumption)
      have q394 : x4_1 < (l0.length : Int) := of_decide_eq_true (by first | (with_reducible assumption) | assumption)
      obtain ⟨ad394, e394, hx394_0⟩ := Kd.at_string HR0.out x4_1 p394 q394
      cases e394
      replace hx394_0 := (HB.out.cell (World.block_lt_of_cell? w _ hx394_0)).trans hx394_0
      replace p394 := eq_true p394
      replace q394 := eq_true q394
      go_wp2_with (first | ((with_reducible refine gate_callee (f := 41) rfl ?_); refine gL (some 18) Tryd.func41 #[.string (rdOf ByteArray.empty l0 x4_1)] ?_; (with_reducible refine (spec_Digest.calls (rdOf ByteArray.empty l0 x4_1) t395 _ A6.out).mono ?_); rintro e w8 ⟨rfl, hb⟩; refine ⟨_, rfl, ?_⟩; replace HO_3 := Aside0.mk (Kd.R_below (rP HO_3) hb); replace HB := bS HB hb; (try clear hb)) | ((with_reducible refine gate_builtin (b := .append) (xs := #[.tmp 13, .tmp 19]) rfl ?_); at_builtin; refine Kd.R_append Kd.string (w0 := w) w.heap.size rfl (.tmp 13) (.tmp 19) 74 9 (.string ⟨#[]⟩) 16 rfl Tryd.underlying74 info9 rfl (by decide) (by omega) u3 x3_1 t395 [.string t395] (fun _ => True) (fun _ => False) rfl rfl ?aP (fun _ hk => hk.elim) ?aF ?aO ?aB ?aS ?aL ?_; (case aP => exact rfl); (case aB => exact (bZ HB)); (case aF => exact (fun _ _ => trivial)); (case aO => exact (rP HO_3)); (case aS => exact (below_size (bZ HB))); (case aL => have := LMc7.out; omega); intro v397 w9 ho hb hg hat; rw [← Ny396.out] at ho; replace HB := Aside0.mk (hb); have HO398 := Aside0.mk (ho); clear HO_3; clear ho hb hg hat))
      go_roundg k1
      case measure => have := HK1.out; omega
      case rel => exact ⟨(y396), (wrap64 (x4_1 + 1)), rS, H', ⟨by have := HK1.out; omega⟩, ⟨rP HO398⟩, ⟨bZ HB⟩⟩
     ·rw [if_neg c7] at H
      exact absurd H (by simp)
    ·rw [if_neg c5] at H
     exact absurd H (by simp)
   ·rw [if_neg c4] at H
    have c4b0 : decide (x4_1 < (l0.length : Int)) = false := decide_eq_false c4
    clear c4
    replace H := Option.bind_eq_some_iff.mp H
    obtain ⟨t399, A100, H⟩ := H
    have A10 := Aside0.mk A100
    clear A100
    have H' := Aside0.mk H
    clear H
    go_wp2_with (first | ((with_reducible refine gate_callee (f := 41) rfl ?_); refine gL (some 21) Tryd.func41 #[.string (⟨#[]⟩ : ByteArray)] ?_; (with_reducible refine (spec_Digest.calls (⟨#[]⟩ : ByteArray) t399 _ A10.out).mono ?_); rintro e w11 ⟨rfl, hb⟩; refine ⟨_, rfl, ?_⟩; replace HO_3 := Aside0.mk (Kd.R_below (rP HO_3) hb); replace HB := bS HB hb; (try clear hb)))
    go_loopg [3] k1 (fun kq v3 w' => ∃ (x3_2 : List ByteArray), Aside0 (spec_l10Hashes.l1 kq l0 x3_2 t399 = some r) ∧ Aside0 (kq ≤ k1) ∧ Aside0 (Kd.R Kd.string 9 w' w.heap.size (fun _ => True) v3 x3_2) ∧ Aside0 (Below w.heap.size w w'))
    case atStart => exact ⟨(x3_1), H', ⟨Nat.le_refl _⟩, ⟨rP HO_3⟩, ⟨bZ HB⟩⟩
    case round =>
     clear H'
     try clear p2
     try clear p3
     try clear q3
     try clear hx3
     try clear c4
     try clear c4b0
     try clear c5
     try clear c5b0
     try clear p6
     try clear c7
     try clear c9
     try clear hx394_0
     try clear p2
     try clear p394
     try clear q394
     obtain ⟨x3_2, HA, HK2, HO_3, HB⟩ := hrel
     cases gk with
     | zero => exact absurd HA.out (by simp [spec_l10Hashes.l1])
     | succ k2 =>
      have H := HA.out
      clear HA
      simp only [spec_l10Hashes.l1] at H
      replace H := Option.bind_eq_some_iff.mp H
      obtain ⟨t400, A120, H⟩ := H
      have A12 := Aside0.mk A120
      clear A120
      obtain ⟨ji13, hji13⟩ : ∃ j_ : Int, (IntKind.u64.wrap (t400)) = j_ := ⟨_, rfl⟩
      replace H : (if 0 ≤ (ji13) then (if (x3_2.length : Int) < (shl .i64 1 (ji13)) then (if x3_2.length < 8796093022208 then (spec_l10Hashes.l1 k2 l0 (x3_2 ++ [t399]) t399) else (none)) else (some x3_2)) else (none)) = some r := by first | (rw [hji13] at H; exact H) | (simp only [hji13] at H ⊢; exact H)
      (try rw [hji13] at A12)
      by_cases c14 : 0 ≤ (ji13)
      ·rw [if_pos c14] at H
       have c14b0 := eq_true c14
       have c14b1 : decide (0 ≤ (ji13)) = true := decide_eq_true c14
       clear c14
       obtain ⟨ji15, hji15⟩ : ∃ j_ : Int, (shl .i64 1 (ji13)) = j_ := ⟨_, rfl⟩
       replace H : (if (x3_2.length : Int) < (ji15) then (if x3_2.length < 8796093022208 then (spec_l10Hashes.l1 k2 l0 (x3_2 ++ [t399]) t399) else (none)) else (some x3_2)) = some r := by first | (rw [hji15] at H; exact H) | (simp only [hji15] at H ⊢; exact H)
       (try rw [hji15] at A12)
       have hji15_ : (IntKind.i64.wrap (1 * 2 ^ min (ji13).toNat 64)) = ji15 := hji15
       have hji15z : (ji13) ≤ 64 → (IntKind.i64.wrap (1 * 2 ^ (ji13).toNat)) = ji15 := shl_small hji15
       have hji15u : (IntKind.i64.wrap (2 ^ min (ji13).toNat 64)) = ji15 := by have h_ := hji15_; rw [Int.one_mul] at h_; exact h_
       have hji15v : (ji13) ≤ 64 → (IntKind.i64.wrap (2 ^ (ji13).toNat)) = ji15 := fun hle_ => by have h_ := hji15z hle_; rw [Int.one_mul] at h_; exact h_
       have hji15y : (wrap64 (1 * 2 ^ min (ji13).toNat 64)) = ji15 := (i64_w _).symm.trans hji15_
       have hji15x : (ji13) ≤ 64 → (wrap64 (1 * 2 ^ (ji13).toNat)) = ji15 := fun h_ => (i64_w _).symm.trans (hji15z h_)
       by_cases c16 : (x3_2.length : Int) < (ji15)
       ·rw [if_pos c16] at H
        have c16b0 : decide ((x3_2.length : Int) < (ji15)) = true := decide_eq_true c16
        clear c16
        by_cases c17 : x3_2.length < 8796093022208
        ·rw [if_pos c17] at H
         have LMc17 := Aside0.mk c17
         clear c17
         obtain ⟨y401, hy401⟩ : ∃ y_ : List ByteArray, y_ = (x3_2 ++ [t399]) := ⟨_, rfl⟩
         replace H : (spec_l10Hashes.l1 k2 l0 y401 t399) = some r := by first | (rw [hy401]; with_reducible exact H) | (have H2_ := (Option.bind_some _ _).symm.trans H; rw [hy401]; with_reducible exact H2_) | (have H2_ := (Option.bind_some _ _).symm.trans H; with_reducible exact H2_) | with_reducible exact H | (rw [hy401]; exact H) | exact H
         have Ny401 := Aside0.mk hy401
         clear hy401
         have H' := Aside0.mk H
         clear H
         obtain ⟨Ao18, co18, eo18⟩ := Kd.R_slice HO_3.out
         subst eo18
         go_wp2_with (first | ((with_reducible refine gate_callee (f := 127) rfl ?_); refine gL (some 26) Tryd.func127 #[.int .i64 (l0.length : Int)] ?_; (with_reducible refine (spec_LevelsOf.calls k2 (l0.length : Int) t400 _ A12.out).mono ?_); rintro e w' ⟨rfl, ⟨nd, rfl⟩⟩; refine ⟨_, rfl, ?_⟩) | ((with_reducible refine gate_builtin (b := .append) (xs := #[.tmp 30, .tmp 32]) rfl ?_); at_builtin; refine Kd.R_append Kd.string (w0 := w) w.heap.size rfl (.tmp 30) (.tmp 32) 74 9 (.string ⟨#[]⟩) 16 rfl Tryd.underlying74 info9 rfl (by decide) (by omega) (.slice Ao18 x3_2.length co18) x3_2 t399 [.string t399] (fun _ => True) (fun _ => False) rfl rfl ?aP (fun _ hk => hk.elim) ?aF ?aO ?aB ?aS ?aL ?_; (case aP => exact rfl); (case aB => exact (bZ HB)); (case aF => exact (fun _ _ => trivial)); (case aO => exact (rP HO_3)); (case aS => exact (below_size (bZ HB))); (case aL => have := LMc17.out; omega); intro v402 w19 ho hb hg hat; rw [← Ny401.out] at ho; replace HB := Aside0.mk (hb); have HO403 := Aside0.mk (ho); clear HO_3; clear ho hb hg hat))
         go_roundg k2
         case measure => have := HK1.out; have := HK2.out; omega
         case rel => exact ⟨(y401), H', ⟨by have := HK1.out; have := HK2.out; omega⟩, ⟨rP HO403⟩, ⟨bZ HB⟩⟩
        ·rw [if_neg c17] at H
         exact absurd H (by simp)
       ·rw [if_neg c16] at H
        have c16b0 : decide ((x3_2.length : Int) < (ji15)) = false := decide_eq_false c16
        clear c16
        obtain rfl := Option.some.inj H
        obtain ⟨Ao20, co20, eo20⟩ := Kd.R_slice HO_3.out
        subst eo20
        go_wp2_with (first | ((with_reducible refine gate_callee (f := 127) rfl ?_); refine gL (some 26) Tryd.func127 #[.int .i64 (l0.length : Int)] ?_; (with_reducible refine (spec_LevelsOf.calls k2 (l0.length : Int) t400 _ A12.out).mono ?_); rintro e w' ⟨rfl, ⟨nd, rfl⟩⟩; refine ⟨_, rfl, ?_⟩))
        go_ret
        exact ⟨_, by first | rfl | (simp [errW_none, errW_some] <;> rfl) | (simp only [← hji13, ← hji15]; first | rfl | (simp [errW_none, errW_some] <;> rfl)) | (simp [*, errW_none, errW_some] <;> rfl), by (with_reducible repeat (first | apply Kd.R_alloc | apply Kd.R_drewN | apply Kd.R_drew)); exact HO_3.out, bZ HB⟩
      ·rw [if_neg c14] at H
       exact absurd H (by simp)

end Go.Proofs.YtkdmplfldfagnaaDoor.Pf
end
section
namespace Go.Proofs.YtkdmplfldfagnaaDoor.Pf
open Go.RowKit Go.Proofs.YtkdmplfldfagnaaDoorW.PrintWords Go.Proofs.YtkdmplfldfagnaaDoorW.PrintLast Go.Proofs.YtkdmplfldfagnaaDoorW.PrintMore
attribute [local go_sem] max2_int min2_int max_two min_two max_three min_three max_four min_four   -- for this text's walks alone
set_option linter.unusedVariables false
set_option linter.unusedSimpArgs false
/-! ### spec_DigestPair: function 128 -/
def spec_DigestPair.f (a0 : ByteArray) (a1 : ByteArray) : Option (ByteArray) := if a0.size + a1.size ≤ 9223372036854775807 then ((spec_Digest.f (a0 ++ a1)).bind fun t404 => (some t404)) else (none)
set_option maxHeartbeats 8000000 in
set_option maxRecDepth 100000 in
theorem spec_DigestPair.calls (a0 : ByteArray) (a1 : ByteArray) (r : ByteArray) (w : World) (h : spec_DigestPair.f a0 a1 = some r) :
  Calls Tryd.prog 128 #[.string a0, .string a1] w fun e w' => e = .returned (.string r) ∧ Below w.heap.size w w' := by
 have HB := Aside0.mk (Below.refl w.heap.size w)
 have H : (if a0.size + a1.size ≤ 9223372036854775807 then ((spec_Digest.f (a0 ++ a1)).bind fun t404 => (some t404)) else (none)) = some r := h
 clear h
 by_cases c3 : a0.size + a1.size ≤ 9223372036854775807
 ·rw [if_pos c3] at H
  have c3b0 := eq_true c3
  have c3b1 : decide (a0.size + a1.size ≤ 9223372036854775807) = true := decide_eq_true c3
  try have c3b2 : (9223372036854775807 < a0.size + a1.size) = False := eq_false (Nat.not_lt.2 c3)
  try simp only [ByteArray.size_append] at c3b2
  replace H := Option.bind_eq_some_iff.mp H
  obtain ⟨t404, A40, H⟩ := H
  have A4 := Aside0.mk A40
  clear A40
  obtain rfl := Option.some.inj H
  go_enter Tryd.func128, Tryd.ntmps128
  go_wp2_with (first | ((with_reducible refine gate_callee (f := 41) rfl ?_); refine gL (some 8) Tryd.func41 #[.string (a0 ++ a1)] ?_; (with_reducible refine (spec_Digest.calls (a0 ++ a1) t404 _ A4.out).mono ?_); rintro e w5 ⟨rfl, hb⟩; refine ⟨_, rfl, ?_⟩; replace HB := bS HB hb; (try clear hb)))
  go_ret
  exact ⟨rR, bZ HB⟩
 ·rw [if_neg c3] at H
  exact absurd H (by simp)
/-! ### spec_l10Up: function 100 -/
def spec_l10Up.l0 : Nat → List ByteArray → List ByteArray → Int → Option (List ByteArray)
 | 0, _, _, _ => none
 | k + 1, x0, x3, x4 => if (wrap64 (x4 + 1)) < (x0.length : Int) then (if 0 ≤ x4 then (if x4 < (x0.length : Int) then (if 0 ≤ (wrap64 (x4 + 1)) then ((spec_DigestPair.f (rdOf ByteArray.empty x0 x4) (rdOf ByteArray.empty x0 (wrap64 (x4 + 1)))).bind fun t410 => (if x3.length < 8796093022208 then (spec_l10Up.l0 k x0 (x3 ++ [t410]) (wrap64 (x4 + 2))) else (none))) else (none)) else (none)) else (none)) else (some x3)
def spec_l10Up.f (k : Nat) (l0 : List ByteArray) : Option (List ByteArray) := spec_l10Up.l0 k l0 (([] : List ByteArray)) 0
theorem spec_l10Up.mono_l : ∀ k, (∀ y0 y1 y2, LeO (spec_l10Up.l0 k y0 y1 y2) (spec_l10Up.l0 (k + 1) y0 y1 y2))
 | 0 => fun _ _ _ r h => by simp [spec_l10Up.l0] at h
 | k + 1 => by
  have ih0 := spec_l10Up.mono_l k
  ·intro y0 y1 y2
   unfold spec_l10Up.l0
   repeat' first
   | (with_reducible exact ih0 _ _ _)
   | (with_reducible exact LeO.refl _)
   | (with_reducible exact LeO.none _)
   | (with_reducible refine LeO.ite ?_ ?_)
   | (with_reducible refine LeO.bind ?_ (fun _ => ?_))
   | exact ih0 _ _ _
   | exact LeO.none _
   | refine LeO.ite ?_ ?_
   | refine LeO.bind ?_ (fun _ => ?_)
theorem spec_l10Up.mono : ∀ a0 k, LeO (spec_l10Up.f k a0) (spec_l10Up.f (k + 1) a0) := by
 intro a0 k
 have ih0 := spec_l10Up.mono_l k
 unfold spec_l10Up.f
 repeat' first
   | (with_reducible exact ih0 _ _ _)
   | (with_reducible exact LeO.refl _)
   | (with_reducible exact LeO.none _)
   | (with_reducible refine LeO.ite ?_ ?_)
   | (with_reducible refine LeO.bind ?_ (fun _ => ?_))
   | exact ih0 _ _ _
   | exact LeO.none _
   | refine LeO.ite ?_ ?_
   | refine LeO.bind ?_ (fun _ => ?_)
def spec_l10Up.T5 : Bool × List (List Nat × List Nat) := (true, [([], []), ([], []), ([], []), ([1, 2], [1, 2]), ([3], [3]), ([], []), ([], []), ([6], [6]), ([5, 7], [5, 7]), ([8], [8]), ([4, 9], [4, 9]), ([10], [10]), ([0, 11, 10], [0, 11]), ([12, 12, 0, 1, 2, 3, 4, 5, 6, 7, 8, 9, 10, 11, 12], [0, 12])])
def spec_l10Up.B5 : List Nat := [0, 0, 0, 6, 14, 0, 0, 64, 224, 480, 1022, 2046, 4095, 8191]
theorem spec_l10Up.tab5 : rtab .any (opsOf Tryd.f100 5) = spec_l10Up.T5 := by kernel_rfl
theorem spec_l10Up.bits5 : waitsOk spec_l10Up.T5.2 spec_l10Up.B5 = true := by kernel_rfl
set_option maxHeartbeats 8000000 in
set_option maxRecDepth 100000 in
theorem spec_l10Up.calls (k : Nat) (A0 : Option Addr) (c0 : Nat) (l0 : List ByteArray) (r : List ByteArray) (w : World) (hr0 : Kd.C Kd.string w A0 l0.length l0) (hc0 : l0.length ≤ c0) (h : spec_l10Up.f k l0 = some r) :
  Calls Tryd.prog 100 #[.slice A0 l0.length c0] w fun e w' => ∃ v0_ : Value, e = .returned (v0_) ∧ Kd.R Kd.string 9 w' w.heap.size (fun _ => True) v0_ r ∧ Below w.heap.size w w' := by
 have HR0 := Aside0.mk hr0
 have HC0 := Aside0.mk hc0
 clear hr0 hc0
 have HB := Aside0.mk (Below.refl w.heap.size w)
 have H : (spec_l10Up.l0 k l0 (([] : List ByteArray)) 0) = some r := h
 clear h
 obtain ⟨y405, hy405⟩ : ∃ y_ : List ByteArray, y_ = (([] : List ByteArray)) := ⟨_, rfl⟩
 replace H : (spec_l10Up.l0 k l0 y405 0) = some r := by first | (rw [hy405]; with_reducible exact H) | (have H2_ := (Option.bind_some _ _).symm.trans H; rw [hy405]; with_reducible exact H2_) | (have H2_ := (Option.bind_some _ _).symm.trans H; with_reducible exact H2_) | with_reducible exact H | (rw [hy405]; exact H) | exact H
 have Ny405 := Aside0.mk hy405
 clear hy405
 have H' := Aside0.mk H
 clear H
 go_enter Tryd.func100, Tryd.ntmps100
 go_wp2_with (first | ((with_reducible refine gate_dst (N := 5) rfl ?_); refine Kd.R_lit Kd.string _ 9 ?hg (N := 5) ?hd (xs := ([] : List ByteArray)) (inner := []) (ok := fun _ => True) (okp := fun _ => True) ?hr ?hp (fun _ hk => hk) trivial (Below.refl _ _) (Nat.le_refl _) (by simp) ?_; (case hd => rfl); (case hg => rfl); (case hr => first | (go_simp; done) | (go_simp; rfl)); (case hp => exact (Reps.none _ _)); intro v406 w2 ho3 hb hg_ hnew_; clear hg_ hnew_; (first | rw [← Ny405.out] at ho3 | (simp only [Int.reduceToNat] at ho3; rw [← Ny405.out] at ho3)); have HO407 := Aside0.mk (Kd.R_lower ho3 (below_size (bZ HB))); replace HB := bS HB hb; clear hb ho3))
 go_loopg [3, 4] k (fun kq v3 v4 w' => ∃ (x3_1 : List ByteArray) (x4_1 : Int), v4 = .int .i64 x4_1 ∧ Aside0 (spec_l10Up.l0 kq l0 x3_1 x4_1 = some r) ∧ Aside0 (kq ≤ k) ∧ Aside0 (Kd.R Kd.string 9 w' w.heap.size (fun _ => True) v3 x3_1) ∧ Aside0 (Below w.heap.size w w'))
 case atStart => exact ⟨(y405), (0), rS, H', ⟨Nat.le_refl _⟩, ⟨rP HO407⟩, ⟨bZ HB⟩⟩
 case round =>
  clear H'
  try clear c1
  try clear p2
  obtain ⟨x3_1, x4_1, rfl, HA, HK1, HO_3, HB⟩ := hrel
  cases gk with
  | zero => exact absurd HA.out (by simp [spec_l10Up.l0])
  | succ k1 =>
   have H := HA.out
   clear HA
   simp only [spec_l10Up.l0] at H
   by_cases c4 : (wrap64 (x4_1 + 1)) < (l0.length : Int)
   ·rw [if_pos c4] at H
    have c4b0 : decide ((wrap64 (x4_1 + 1)) < (l0.length : Int)) = true := decide_eq_true c4
    clear c4
    by_cases c5 : 0 ≤ x4_1
    ·rw [if_pos c5] at H
     have c5b0 : decide (0 ≤ x4_1) = true := decide_eq_true c5
     clear c5
     by_cases c6 : x4_1 < (l0.length : Int)
     ·rw [if_pos c6] at H
      have c6b0 : decide (x4_1 < (l0.length : Int)) = true := decide_eq_true c6
      clear c6
      obtain ⟨ji7, hji7⟩ : ∃ j_ : Int, (wrap64 (x4_1 + 1)) = j_ := ⟨_, rfl⟩
      replace H : (if 0 ≤ (ji7) then ((spec_DigestPair.f (rdOf ByteArray.empty l0 x4_1) (rdOf ByteArray.empty l0 (ji7))).bind fun t410 => (if x3_1.length < 8796093022208 then (spec_l10Up.l0 k1 l0 (x3_1 ++ [t410]) (wrap64 (x4_1 + 2))) else (none))) else (none)) = some r := by first | (rw [hji7] at H; exact H) | (simp only [hji7] at H ⊢; exact H)
      (try rw [hji7] at c4b0)
      have hji7w : (IntKind.i64.wrap (x4_1 + 1)) = ji7 := (i64_w _).trans hji7
      by_cases c8 : 0 ≤ (ji7)
      ·rw [if_pos c8] at H
       have c8b0 : decide (0 ≤ (ji7)) = true := decide_eq_true c8
       clear c8
       replace H := Option.bind_eq_some_iff.mp H
       obtain ⟨t410, A90, H⟩ := H
       have A9 := Aside0.mk A90
       clear A90
       by_cases c10 : x3_1.length < 8796093022208
       ·rw [if_pos c10] at H
        have LMc10 := Aside0.mk c10
        clear c10
        obtain ⟨y411, hy411⟩ : ∃ y_ : List ByteArray, y_ = (x3_1 ++ [t410]) := ⟨_, rfl⟩
        replace H : (spec_l10Up.l0 k1 l0 y411 (wrap64 (x4_1 + 2))) = some r := by first | (rw [hy411]; with_reducible exact H) | (have H2_ := (Option.bind_some _ _).symm.trans H; rw [hy411]; with_reducible exact H2_) | (have H2_ := (Option.bind_some _ _).symm.trans H; with_reducible exact H2_) | with_reducible exact H | (rw [hy411]; exact H) | exact H
        have Ny411 := Aside0.mk hy411
        clear hy411
        have H' := Aside0.mk H
        clear H
        try go_wp2
        replace HO_3 := Aside0.mk (Kd.R_drew HO_3.out)
        replace HB := Aside0.mk (below_drew1 HB.out)
        have p408 : 0 ≤ (x4_1 : Int) := of_decide_eq_true (by first | (with_reducible assumption) | assumption)
        have q408 : x4_1 < (l0.length : Int) := of_decide_eq_true (by first | (with_reducible assumption) | assumption)
        obtain ⟨ad408, e408, hx408_0⟩ := Kd.at_string HR0.out x4_1 p408 q408
        have hw408_0 := hx408_0
        cases e408
        replace hx408_0 := (HB.out.cell (World.block_lt_of_cell? w _ hx408_0)).trans hx408_0
        replace p408 := eq_true p408
        replace q408 := eq_true q408
        have p409 : 0 ≤ ((ji7) : Int) := of_decide_eq_true (by first | (with_reducible assumption) | assumption)
        have q409 : (ji7) < (l0.length : Int) := of_decide_eq_true (by first | (with_reducible assumption) | assumption)
        obtain ⟨ad409, e409, hx409_0⟩ := Kd.at_string HR0.out (ji7) p409 q409
        have hw409_0 := hx409_0
        obtain rfl : ad408 = ad409 := (by injection e409)
        replace hx409_0 := (HB.out.cell (World.block_lt_of_cell? w _ hx409_0)).trans hx409_0
        replace p409 := eq_true p409
        replace q409 := eq_true q409
        refine start_ (n := 14) (S := fun w' => w'.cell? (ad408.add (x4_1).toNat) = some (.string (rdOf ByteArray.empty l0 x4_1)) ∧ w'.cell? (ad408.add ((ji7)).toNat) = some (.string (rdOf ByteArray.empty l0 (ji7)))) (ds := []) #[false, false, false, false, false, false, false, false, false, false, false, false, false, false] (by kernel_rfl) rfl rfl ⟨((HB.out.cell (World.block_lt_of_cell? w _ hw408_0)).trans hw408_0), ((HB.out.cell (World.block_lt_of_cell? w _ hw409_0)).trans hw409_0)⟩ (fun hHeld => ?_); refine with_tabW spec_l10Up.tab5 spec_l10Up.bits5 (fun HT_ HW_ => ?_)
        generalize wr.drew = w11 at HO_3 HB hx408_0 hx409_0 hHeld ⊢
        refine pI 0 (some 13) HT_.out ?_
        refine pI 1 (some 14) HT_.out ?_
        refine pI 2 (some 15) HT_.out ?_
        refine pI 3 (some 16) HT_.out ?_
        refine pI 5 (some 18) HT_.out ?_
        refine pI 6 (some 19) HT_.out ?_
        refine pI 7 (some 20) HT_.out ?_
        refine pI 8 (some 21) HT_.out ?_
        refine tI2 4 (some 17) HT_.out HW_.out hHeld ?_
        refine tI2 9 (some 22) HT_.out HW_.out hHeld ?_
        refine oI 10 (some 23) HT_.out (fun K hK => ?_)
        refine goes_ Tryd.func128 (by kernel_rfl) rfl #[.string (rdOf ByteArray.empty l0 x4_1), .string (rdOf ByteArray.empty l0 (ji7))] (by rfl) rfl rfl (by (try simp only [List.map_toArray, List.map_cons, List.map_nil]); first | done | (simp only [hji7]; rfl) | rfl | (simp only [List.length_drop, List.length_take]; rfl)) ?_
        with_reducible refine (spec_DigestPair.calls (rdOf ByteArray.empty l0 x4_1) (rdOf ByteArray.empty l0 (ji7)) t410 _ A9.out).mono ?_
        rintro e w12 ⟨rfl, hb⟩
        refine ⟨_, rfl, ?_⟩
        replace HO_3 := Aside0.mk (Kd.R_below (rP HO_3) hb)
        replace HB := bS HB hb
        (try clear hb)
        refine hK.out _ _ ⟨((HB.out.cell (World.block_lt_of_cell? w _ hw408_0)).trans hw408_0), ((HB.out.cell (World.block_lt_of_cell? w _ hw409_0)).trans hw409_0)⟩ (fun hHeld => ?_)
        clear hK K
        refine nO (some 23) ?_
        refine oI 11 (some 24) HT_.out (fun K hK => ?_)
        refine value_ (w1 := ?_) (v := ?_) (by rfl) rfl ?_ ?_
        rotate_left 2
        ·go_simp
         constructor
         ·rfl
         ·rfl
        refine hK.out _ _ ⟨(World.cell?_alloc_lt _ _ _ (World.block_lt_of_cell? _ _ (((HB.out.cell (World.block_lt_of_cell? w _ hw408_0)).trans hw408_0)))).trans (((HB.out.cell (World.block_lt_of_cell? w _ hw408_0)).trans hw408_0)), (World.cell?_alloc_lt _ _ _ (World.block_lt_of_cell? _ _ (((HB.out.cell (World.block_lt_of_cell? w _ hw409_0)).trans hw409_0)))).trans (((HB.out.cell (World.block_lt_of_cell? w _ hw409_0)).trans hw409_0))⟩ (fun hHeld => ?_)
        clear hK K
        refine nO (some 24) ?_
        refine oI 12 (some 25) HT_.out (fun K hK => ?_)
        refine Kd.R_append_step Kd.string (w0 := w) w.heap.size (by rfl) (.tmp 13) (.tmp 24) 74 9 (.string ⟨#[]⟩) 16 rfl Tryd.underlying74 info9 rfl (by decide) (by omega) u3 x3_1 t410 [.string t410] (fun _ => True) (fun _ => False) rfl rfl ?aP (fun _ hk => hk.elim) ?aF ?aO ?aB ?aS ?aL ?_
        (case aP => exact rfl)
        (case aB => exact (bZ HB))
        (case aF => exact (fun _ _ => trivial))
        (case aO => exact (rP HO_3))
        (case aS => exact (below_size (bZ HB)))
        (case aL => have := LMc10.out; omega)
        intro v412 w13 ho hb hg hat
        rw [← Ny411.out] at ho
        replace HB := Aside0.mk (hb)
        have HO413 := Aside0.mk (ho)
        clear HO_3
        clear ho hb hg hat
        refine hK.out _ _ ⟨((HB.out.cell (World.block_lt_of_cell? w _ hw408_0)).trans hw408_0), ((HB.out.cell (World.block_lt_of_cell? w _ hw409_0)).trans hw409_0)⟩ (fun hHeld => ?_)
        clear hK K
        refine nO (some 25) ?_
        refine pI 13 (some 3) HT_.out ?_
        refine done_ (done_of HT_.out (by kernel_rfl)) ?_
        try go_wp2
        go_roundg k1
        case measure => have := HK1.out; omega
        case rel => exact ⟨(y411), (wrap64 (x4_1 + 2)), rS, H', ⟨by have := HK1.out; omega⟩, ⟨rP HO413⟩, ⟨bZ HB⟩⟩
       ·rw [if_neg c10] at H
        exact absurd H (by simp)
      ·rw [if_neg c8] at H
       exact absurd H (by simp)
     ·rw [if_neg c6] at H
      exact absurd H (by simp)
    ·rw [if_neg c5] at H
     exact absurd H (by simp)
   ·rw [if_neg c4] at H
    have c4b0 : decide ((wrap64 (x4_1 + 1)) < (l0.length : Int)) = false := decide_eq_false c4
    clear c4
    obtain rfl := Option.some.inj H
    go_wp2
    go_ret
    exact ⟨_, by first | rfl | (simp [errW_none, errW_some] <;> rfl) | (simp [*, errW_none, errW_some] <;> rfl), by (with_reducible repeat (first | apply Kd.R_alloc | apply Kd.R_drewN | apply Kd.R_drew)); exact HO_3.out, bZ HB⟩
/-! ### spec_RootOf: function 62 -/
def spec_RootOf.l0 : Nat → List ByteArray → Option (ByteArray)
 | 0, _ => none
 | k + 1, x3 => if (x3.length : Int) > 1 then ((spec_l10Up.f k x3).bind fun t417 => (spec_RootOf.l0 k t417)) else (if 0 < (x3.length : Int) then (some (rdOf ByteArray.empty x3 0)) else (none))
def spec_RootOf.f (k : Nat) (l0 : List ByteArray) : Option (ByteArray) := if (l0.length : Int) > 32 then (some (⟨#[]⟩ : ByteArray)) else ((spec_l10Hashes.f k l0).bind fun t414 => (spec_RootOf.l0 k t414))
theorem spec_RootOf.mono_l : ∀ k, (∀ y0, LeO (spec_RootOf.l0 k y0) (spec_RootOf.l0 (k + 1) y0))
 | 0 => fun _ r h => by simp [spec_RootOf.l0] at h
 | k + 1 => by
  have ih0 := spec_RootOf.mono_l k
  ·intro y0
   unfold spec_RootOf.l0
   repeat' first
   | (with_reducible exact ih0 _)
   | (with_reducible exact spec_l10Hashes.mono _ _)
   | (with_reducible exact spec_l10Up.mono _ _)
   | (with_reducible exact LeO.refl _)
   | (with_reducible exact LeO.none _)
   | (with_reducible refine LeO.ite ?_ ?_)
   | (with_reducible refine LeO.bind ?_ (fun _ => ?_))
   | exact ih0 _
   | exact spec_l10Hashes.mono _ _
   | exact spec_l10Up.mono _ _
   | exact LeO.none _
   | refine LeO.ite ?_ ?_
   | refine LeO.bind ?_ (fun _ => ?_)
theorem spec_RootOf.mono : ∀ a0 k, LeO (spec_RootOf.f k a0) (spec_RootOf.f (k + 1) a0) := by
 intro a0 k
 have ih0 := spec_RootOf.mono_l k
 unfold spec_RootOf.f
 repeat' first
   | (with_reducible exact ih0 _)
   | (with_reducible exact spec_l10Hashes.mono _ _)
   | (with_reducible exact spec_l10Up.mono _ _)
   | (with_reducible exact LeO.refl _)
   | (with_reducible exact LeO.none _)
   | (with_reducible refine LeO.ite ?_ ?_)
   | (with_reducible refine LeO.bind ?_ (fun _ => ?_))
   | exact ih0 _
   | exact spec_l10Hashes.mono _ _
   | exact spec_l10Up.mono _ _
   | exact LeO.none _
   | refine LeO.ite ?_ ?_
   | refine LeO.bind ?_ (fun _ => ?_)
set_option maxHeartbeats 8000000 in
set_option maxRecDepth 100000 in
theorem spec_RootOf.calls (k : Nat) (A0 : Option Addr) (c0 : Nat) (l0 : List ByteArray) (r : ByteArray) (w : World) (hr0 : Kd.C Kd.string w A0 l0.length l0) (hc0 : l0.length ≤ c0) (h : spec_RootOf.f k l0 = some r) :
  Calls Tryd.prog 62 #[.slice A0 l0.length c0] w fun e w' => e = .returned (.string r) ∧ Below w.heap.size w w' := by
 have HR0 := Aside0.mk hr0
 have HC0 := Aside0.mk hc0
 clear hr0 hc0
 have HB := Aside0.mk (Below.refl w.heap.size w)
 have H : (if (l0.length : Int) > 32 then (some (⟨#[]⟩ : ByteArray)) else ((spec_l10Hashes.f k l0).bind fun t414 => (spec_RootOf.l0 k t414))) = some r := h
 clear h
 by_cases c2 : (l0.length : Int) > 32
 ·rw [if_pos c2] at H
  have c2b0 : decide (32 < (l0.length : Int)) = true := decide_eq_true c2
  have c2b1 : decide (32 < l0.length) = true := decide_eq_true (by omega)
  clear c2
  obtain rfl := Option.some.inj H
  go_enter Tryd.func62, Tryd.ntmps62
  go_wp2
  go_ret
  exact ⟨rR, bZ HB⟩
 ·rw [if_neg c2] at H
  have c2b0 : decide (32 < (l0.length : Int)) = false := decide_eq_false c2
  have c2b1 : decide (32 < l0.length) = false := decide_eq_false (by omega)
  clear c2
  replace H := Option.bind_eq_some_iff.mp H
  obtain ⟨t414, A30, H⟩ := H
  have A3 := Aside0.mk A30
  clear A30
  have H' := Aside0.mk H
  clear H
  go_enter Tryd.func62, Tryd.ntmps62
  go_wp2_with (first | ((with_reducible refine gate_callee (f := 99) rfl ?_); refine gL (some 8) Tryd.func99 #[.slice A0 l0.length c0] ?_; (with_reducible refine (spec_l10Hashes.calls k _ _ l0 t414 _ ?side1 ?side2 A3.out).mono ?_); (case side1 => exact cP HR0.out); (case side2 => exact HC0.out); rintro e w4 ⟨v415, rfl, ho0, hb⟩; refine ⟨_, rfl, ?_⟩; have HO416 := Aside0.mk (Kd.R_lower ho0 (below_size (bZ HB))); replace HB := bS HB hb; (try clear hb); (try clear ho0)))
  go_loopg [3] k (fun kq v3 w' => ∃ (x3_1 : List ByteArray), Aside0 (spec_RootOf.l0 kq x3_1 = some r) ∧ Aside0 (kq ≤ k) ∧ Aside0 (Kd.R Kd.string 9 w' w.heap.size (fun _ => True) v3 x3_1) ∧ Aside0 (Below w.heap.size w w'))
  case atStart => exact ⟨(t414), H', ⟨Nat.le_refl _⟩, ⟨rP HO416⟩, ⟨bZ HB⟩⟩
  case round =>
   clear H'
   try clear c2
   try clear c2b0
   try clear c2b1
   try clear p2
   obtain ⟨x3_1, HA, HK1, HO_3, HB⟩ := hrel
   cases gk with
   | zero => exact absurd HA.out (by simp [spec_RootOf.l0])
   | succ k1 =>
    have H := HA.out
    clear HA
    simp only [spec_RootOf.l0] at H
    by_cases c5 : (x3_1.length : Int) > 1
    ·rw [if_pos c5] at H
     have c5b0 : decide (1 < (x3_1.length : Int)) = true := decide_eq_true c5
     have c5b1 : decide (1 < x3_1.length) = true := decide_eq_true (by omega)
     clear c5
     replace H := Option.bind_eq_some_iff.mp H
     obtain ⟨t417, A60, H⟩ := H
     have A6 := Aside0.mk A60
     clear A60
     have H' := Aside0.mk H
     clear H
     obtain ⟨Ao7, co7, eo7⟩ := Kd.R_slice HO_3.out
     subst eo7
     go_wp2_with (first | ((with_reducible refine gate_callee (f := 100) rfl ?_); refine gL (some 13) Tryd.func100 #[.slice Ao7 x3_1.length co7] ?_; (with_reducible refine (spec_l10Up.calls k1 _ _ x3_1 t417 _ ?side1 ?side2 A6.out).mono ?_); (case side1 => exact cP ((Kd.R_reads' HO_3.out).2.2)); (case side2 => exact (Kd.R_reads' HO_3.out).2.1); rintro e w8 ⟨v418, rfl, ho0, hb⟩; refine ⟨_, rfl, ?_⟩; have HO419 := Aside0.mk (Kd.R_lower (Kd.R_new' ho0 (Kd.R_lt (rP HO_3))) (below_size (bZ HB))); replace HO_3 := Aside0.mk (Kd.R_elder' (rP HO_3) (Kd.R_base ho0) hb); replace HB := bS HB hb; (try clear hb); (try clear ho0)))
     go_roundg k1
     case measure => have := HK1.out; omega
     case rel => exact ⟨(t417), H', ⟨by have := HK1.out; omega⟩, ⟨by (with_reducible repeat (first | apply Kd.R_alloc | apply Kd.R_drewN | apply Kd.R_drew)); exact Kd.R_mono HO419.out (fun _ hk => trivial)⟩, ⟨bZ HB⟩⟩
    ·rw [if_neg c5] at H
     have c5b0 : decide (1 < (x3_1.length : Int)) = false := decide_eq_false c5
     have c5b1 : decide (1 < x3_1.length) = false := decide_eq_false (by omega)
     clear c5
     by_cases c9 : 0 < (x3_1.length : Int)
     ·rw [if_pos c9] at H
      have c9b0 : decide (0 < (x3_1.length : Int)) = true := decide_eq_true c9
      have c9b1 : decide (0 < x3_1.length) = true := decide_eq_true (by omega)
      clear c9
      obtain rfl := Option.some.inj H
      obtain ⟨Ao10, co10, eo10⟩ := Kd.R_slice HO_3.out
      subst eo10
      have p420 : 0 ≤ (0 : Int) := (by omega)
      have q420 : 0 < (x3_1.length : Int) := of_decide_eq_true (by first | (with_reducible assumption) | assumption)
      obtain ⟨ad420, e420, hx420_0⟩ := Kd.at_string (Kd.R_reads' HO_3.out).2.2 0 p420 q420
      cases e420
      have qi420 : (0 < x3_1.length) = True := eq_true (by omega)
      (try rw [show ((0 : Int)).toNat = 0 from rfl] at hx420_0)
      (try rw [Addr.add_zero'] at hx420_0)
      replace p420 := eq_true p420
      replace q420 := eq_true q420
      go_wp2
      go_ret
      exact ⟨rR, bZ HB⟩
     ·rw [if_neg c9] at H
      exact absurd H (by simp)
/-! ### spec_CommitteeRoot: function 18 -/
def spec_CommitteeRoot.l0 : Nat → List ByteArray → Int → List (S23) → Option (ByteArray)
 | 0, _, _, _ => none
 | k + 1, x3, x4, x422000 => if x4 < (x422000.length : Int) then (if 0 ≤ x4 then ((spec_PointText.f ((rd_T23 x422000 x4).f0) ((rd_T23 x422000 x4).f1) ((rd_T23 x422000 x4).f2)).bind fun t427 => (if x3.length < 8796093022208 then (spec_CommitteeRoot.l0 k (x3 ++ [t427]) (wrap64 (x4 + 1)) x422000) else (none))) else (none)) else ((spec_RootOf.f k x3).bind fun t431 => (some t431))
def spec_CommitteeRoot.f (k : Nat) (l0_0 : List (S23)) : Option (ByteArray) := (spec_CommitteeOk.f k l0_0).bind fun t422 => (if t422 = true then (spec_CommitteeRoot.l0 k (([] : List ByteArray)) 0 l0_0) else (some (⟨#[]⟩ : ByteArray)))
theorem spec_CommitteeRoot.mono_l : ∀ k, (∀ y0 y1 y2, LeO (spec_CommitteeRoot.l0 k y0 y1 y2) (spec_CommitteeRoot.l0 (k + 1) y0 y1 y2))
 | 0 => fun _ _ _ r h => by simp [spec_CommitteeRoot.l0] at h
 | k + 1 => by
  have ih0 := spec_CommitteeRoot.mono_l k
  ·intro y0 y1 y2
   unfold spec_CommitteeRoot.l0
   repeat' first
   | (with_reducible exact ih0 _ _ _)
   | (with_reducible exact spec_CommitteeOk.mono _ _)
   | (with_reducible exact spec_RootOf.mono _ _)
   | (with_reducible exact LeO.refl _)
   | (with_reducible exact LeO.none _)
   | (with_reducible refine LeO.ite ?_ ?_)
   | (with_reducible refine LeO.bind ?_ (fun _ => ?_))
   | exact ih0 _ _ _
   | exact spec_CommitteeOk.mono _ _
   | exact spec_RootOf.mono _ _
   | exact LeO.none _
   | refine LeO.ite ?_ ?_
   | refine LeO.bind ?_ (fun _ => ?_)
theorem spec_CommitteeRoot.mono : ∀ a0 k, LeO (spec_CommitteeRoot.f k a0) (spec_CommitteeRoot.f (k + 1) a0) := by
 intro a0 k
 have ih0 := spec_CommitteeRoot.mono_l k
 unfold spec_CommitteeRoot.f
 repeat' first
   | (with_reducible exact ih0 _ _ _)
   | (with_reducible exact spec_CommitteeOk.mono _ _)
   | (with_reducible exact spec_RootOf.mono _ _)
   | (with_reducible exact LeO.refl _)
   | (with_reducible exact LeO.none _)
   | (with_reducible refine LeO.ite ?_ ?_)
   | (with_reducible refine LeO.bind ?_ (fun _ => ?_))
   | exact ih0 _ _ _
   | exact spec_CommitteeOk.mono _ _
   | exact spec_RootOf.mono _ _
   | exact LeO.none _
   | refine LeO.ite ?_ ?_
   | refine LeO.bind ?_ (fun _ => ?_)
set_option maxHeartbeats 8000000 in
set_option maxRecDepth 100000 in
theorem spec_CommitteeRoot.calls (k : Nat) (A0_0 : Option Addr) (c0_0 : Nat) (l0_0 : List (S23)) (r : ByteArray) (w : World) (hr0_0 : Kd.C k23 w A0_0 l0_0.length l0_0) (hc0_0 : l0_0.length ≤ c0_0) (h : spec_CommitteeRoot.f k l0_0 = some r) :
  Calls Tryd.prog 18 #[.agg #[.slice A0_0 l0_0.length c0_0]] w fun e w' => e = .returned (.string r) ∧ Below w.heap.size w w' := by
 have hu38 := Tryd.underlying38
 have hu23 := Tryd.underlying23
 have HR0_0 := Aside0.mk hr0_0
 have HC0_0 := Aside0.mk hc0_0
 clear hr0_0 hc0_0
 have HB := Aside0.mk (Below.refl w.heap.size w)
 have H : ((spec_CommitteeOk.f k l0_0).bind fun t422 => (if t422 = true then (spec_CommitteeRoot.l0 k (([] : List ByteArray)) 0 l0_0) else (some (⟨#[]⟩ : ByteArray)))) = some r := h
 clear h
 replace H := Option.bind_eq_some_iff.mp H
 obtain ⟨t422, A20, H⟩ := H
 have A2 := Aside0.mk A20
 clear A20
 by_cases c3 : t422 = true
 ·subst c3
  rw [if_pos rfl] at H
  obtain ⟨y423, hy423⟩ : ∃ y_ : List ByteArray, y_ = (([] : List ByteArray)) := ⟨_, rfl⟩
  replace H : (spec_CommitteeRoot.l0 k y423 0 l0_0) = some r := by first | (rw [hy423]; with_reducible exact H) | (have H2_ := (Option.bind_some _ _).symm.trans H; rw [hy423]; with_reducible exact H2_) | (have H2_ := (Option.bind_some _ _).symm.trans H; with_reducible exact H2_) | with_reducible exact H | (rw [hy423]; exact H) | exact H
  have Ny423 := Aside0.mk hy423
  clear hy423
  have H' := Aside0.mk H
  clear H
  go_enter Tryd.func18, Tryd.ntmps18
  go_wp2_with (first | ((with_reducible refine gate_dst (N := 1) rfl ?_); refine bE 1 #[.slice A0_0 l0_0.length c0_0] 38 ?_; intro gb421 hg w4 hbox hb; have BK421 := Aside0.mk (hbox); have GW421 := bG HB hg; have GE421 := bG HB hg; replace HB := bS HB hb; clear hb hbox hg; obtain ⟨hcz5_0, hfz5_0⟩ := bK1 (w := w4) BK421) | ((with_reducible refine gate_callee (f := 60) rfl ?_); refine gL (some 6) Tryd.func60 #[.agg #[.slice A0_0 l0_0.length c0_0]] ?_; (with_reducible refine (spec_CommitteeOk.calls k _ _ l0_0 true _ ?side1 ?side2 A2.out).mono ?_); (case side1 => exact cP (Kd.C_below HR0_0.out HB.out)); (case side2 => exact HC0_0.out); rintro e w6 ⟨rfl, hb⟩; refine ⟨_, rfl, ?_⟩; replace BK421 := bB BK421 hb; replace HB := bS HB hb; (try clear hb)) | ((with_reducible refine gate_dst (N := 8) rfl ?_); refine Kd.R_lit Kd.string _ 9 ?hg (N := 8) ?hd (xs := ([] : List ByteArray)) (inner := []) (ok := fun _ => True) (okp := fun _ => True) ?hr ?hp (fun _ hk => hk) trivial (Below.refl _ _) (Nat.le_refl _) (by simp) ?_; (case hd => rfl); (case hg => rfl); (case hr => first | (go_simp; done) | (go_simp; rfl)); (case hp => exact (Reps.none _ _)); intro v424 w7 ho8 hb hg_ hnew_; clear hg_ hnew_; (first | rw [← Ny423.out] at ho8 | (simp only [Int.reduceToNat] at ho8; rw [← Ny423.out] at ho8)); have HO425 := Aside0.mk (Kd.R_lower ho8 (below_size (bZ HB))); replace BK421 := bB BK421 hb; replace HB := bS HB hb; clear hb ho8))
  go_loopg [3, 4] k (fun kq v3 v4 w' => ∃ (x3_1 : List ByteArray) (x4_1 : Int), v4 = .int .i64 x4_1 ∧ Aside0 (spec_CommitteeRoot.l0 kq x3_1 x4_1 l0_0 = some r) ∧ Aside0 (kq ≤ k) ∧ Aside0 (Kd.R Kd.string 9 w' w.heap.size (fun _ => True) v3 x3_1) ∧ Aside0 (w'.heap[gb421]? = some (.cells #[(.slice A0_0 l0_0.length c0_0)] 38 (0, 0))) ∧ Aside0 (Below w.heap.size w w'))
  case atStart => exact ⟨(y423), (0), rS, H', ⟨Nat.le_refl _⟩, ⟨rP HO425⟩, ⟨bP BK421⟩, ⟨bZ HB⟩⟩
  case round =>
   clear H'
   try clear c1
   try clear p2
   try clear c3
   try clear c6
   try clear hcz5_0
   try clear hfz5_0
   obtain ⟨x3_1, x4_1, rfl, HA, HK1, HO_3, BK421, HB⟩ := hrel
   cases gk with
   | zero => exact absurd HA.out (by simp [spec_CommitteeRoot.l0])
   | succ k1 =>
    have H := HA.out
    clear HA
    simp only [spec_CommitteeRoot.l0] at H
    by_cases c9 : x4_1 < (l0_0.length : Int)
    ·rw [if_pos c9] at H
     have c9b0 : decide (x4_1 < (l0_0.length : Int)) = true := decide_eq_true c9
     clear c9
     by_cases c10 : 0 ≤ x4_1
     ·rw [if_pos c10] at H
      have c10b0 : decide (0 ≤ x4_1) = true := decide_eq_true c10
      clear c10
      replace H := Option.bind_eq_some_iff.mp H
      obtain ⟨t427, A110, H⟩ := H
      have A11 := Aside0.mk A110
      clear A110
      by_cases c12 : x3_1.length < 8796093022208
      ·rw [if_pos c12] at H
       have LMc12 := Aside0.mk c12
       clear c12
       obtain ⟨y428, hy428⟩ : ∃ y_ : List ByteArray, y_ = (x3_1 ++ [t427]) := ⟨_, rfl⟩
       replace H : (spec_CommitteeRoot.l0 k1 y428 (wrap64 (x4_1 + 1)) l0_0) = some r := by first | (rw [hy428]; with_reducible exact H) | (have H2_ := (Option.bind_some _ _).symm.trans H; rw [hy428]; with_reducible exact H2_) | (have H2_ := (Option.bind_some _ _).symm.trans H; with_reducible exact H2_) | with_reducible exact H | (rw [hy428]; exact H) | exact H
       have Ny428 := Aside0.mk hy428
       clear hy428
       have H' := Aside0.mk H
       clear H
       obtain ⟨hcz13_0, hfz13_0⟩ := bK1 (w := wr) BK421
       have p426 : 0 ≤ (x4_1 : Int) := of_decide_eq_true (by first | (with_reducible assumption) | assumption)
       have q426 : x4_1 < (l0_0.length : Int) := of_decide_eq_true (by first | (with_reducible assumption) | assumption)
       obtain ⟨ad426, e426, hx426_0, hx426_1, hx426_2⟩ := at_T23 HR0_0.out x4_1 p426 q426
       cases e426
       replace hx426_0 := (HB.out.cell (World.block_lt_of_cell? w _ hx426_0)).trans hx426_0
       replace hx426_1 := (HB.out.cell (World.block_lt_of_cell? w _ hx426_1)).trans hx426_1
       replace hx426_2 := (HB.out.cell (World.block_lt_of_cell? w _ hx426_2)).trans hx426_2
       replace p426 := eq_true p426
       replace q426 := eq_true q426
       go_wp2_with (first | ((with_reducible refine gate_callee (f := 61) rfl ?_); refine gL (some 22) Tryd.func61 #[.agg #[.int .i64 ((rd_T23 l0_0 x4_1).f0), .int .i64 ((rd_T23 l0_0 x4_1).f1), .bool ((rd_T23 l0_0 x4_1).f2)]] ?_; (with_reducible refine (spec_PointText.calls ((rd_T23 l0_0 x4_1).f0) ((rd_T23 l0_0 x4_1).f1) ((rd_T23 l0_0 x4_1).f2) t427 _ A11.out).mono ?_); rintro e w14 ⟨rfl, hb⟩; refine ⟨_, rfl, ?_⟩; replace HO_3 := Aside0.mk (Kd.R_below (rP HO_3) hb); replace BK421 := bB BK421 hb; replace HB := bS HB hb; (try clear hb)) | ((with_reducible refine gate_builtin (b := .append) (xs := #[.tmp 16, .tmp 23]) rfl ?_); at_builtin; refine Kd.R_append Kd.string (w0 := w) w.heap.size rfl (.tmp 16) (.tmp 23) 74 9 (.string ⟨#[]⟩) 16 rfl Tryd.underlying74 info9 rfl (by decide) (by omega) u3 x3_1 t427 [.string t427] (fun _ => True) (fun _ => False) rfl rfl ?aP (fun _ hk => hk.elim) ?aF ?aO ?aB ?aS ?aL ?_; (case aP => exact rfl); (case aB => exact (bZ HB)); (case aF => exact (fun _ _ => trivial)); (case aO => exact (rP HO_3)); (case aS => exact (below_size (bZ HB))); (case aL => have := LMc12.out; omega); intro v429 w15 ho hb hg hat; rw [← Ny428.out] at ho; replace BK421 := Aside0.mk (blk_grown (bP BK421) hg (Kd.R_ne HO_3.out BK421.out (by decide))); replace HB := Aside0.mk (hb); have HO430 := Aside0.mk (ho); clear HO_3; clear ho hb hg hat))
       go_roundg k1
       case measure => have := HK1.out; omega
       case rel => exact ⟨(y428), (wrap64 (x4_1 + 1)), rS, H', ⟨by have := HK1.out; omega⟩, ⟨rP HO430⟩, ⟨bP BK421⟩, ⟨bZ HB⟩⟩
      ·rw [if_neg c12] at H
       exact absurd H (by simp)
     ·rw [if_neg c10] at H
      exact absurd H (by simp)
    ·rw [if_neg c9] at H
     have c9b0 : decide (x4_1 < (l0_0.length : Int)) = false := decide_eq_false c9
     clear c9
     replace H := Option.bind_eq_some_iff.mp H
     obtain ⟨t431, A160, H⟩ := H
     have A16 := Aside0.mk A160
     clear A160
     obtain rfl := Option.some.inj H
     obtain ⟨hcz17_0, hfz17_0⟩ := bK1 (w := wr) BK421
     obtain ⟨Ao18, co18, eo18⟩ := Kd.R_slice HO_3.out
     subst eo18
     go_wp2_with (first | ((with_reducible refine gate_callee (f := 62) rfl ?_); refine gL (some 26) Tryd.func62 #[.slice Ao18 x3_1.length co18] ?_; (with_reducible refine (spec_RootOf.calls k1 _ _ x3_1 t431 _ ?side1 ?side2 A16.out).mono ?_); (case side1 => exact cP ((Kd.R_reads' HO_3.out).2.2)); (case side2 => exact (Kd.R_reads' HO_3.out).2.1); rintro e w19 ⟨rfl, hb⟩; refine ⟨_, rfl, ?_⟩; replace HO_3 := Aside0.mk (Kd.R_below (rP HO_3) hb); replace BK421 := bB BK421 hb; replace HB := bS HB hb; (try clear hb)))
     go_ret
     exact ⟨rR, bZ HB⟩
 ·replace c3 := Bool.eq_false_iff.mpr c3
  subst c3
  rw [if_neg (show ¬ (false = true) by decide)] at H
  obtain rfl := Option.some.inj H
  go_enter Tryd.func18, Tryd.ntmps18
  go_wp2_with (first | ((with_reducible refine gate_dst (N := 1) rfl ?_); refine bE 1 #[.slice A0_0 l0_0.length c0_0] 38 ?_; intro gb421 hg w20 hbox hb; have BK421 := Aside0.mk (hbox); have GW421 := bG HB hg; have GE421 := bG HB hg; replace HB := bS HB hb; clear hb hbox hg; obtain ⟨hcz21_0, hfz21_0⟩ := bK1 (w := w20) BK421) | ((with_reducible refine gate_callee (f := 60) rfl ?_); refine gL (some 6) Tryd.func60 #[.agg #[.slice A0_0 l0_0.length c0_0]] ?_; (with_reducible refine (spec_CommitteeOk.calls k _ _ l0_0 false _ ?side1 ?side2 A2.out).mono ?_); (case side1 => exact cP (Kd.C_below HR0_0.out HB.out)); (case side2 => exact HC0_0.out); rintro e w22 ⟨rfl, hb⟩; refine ⟨_, rfl, ?_⟩; replace BK421 := bB BK421 hb; replace HB := bS HB hb; (try clear hb)))
  go_ret
  exact ⟨rR, bZ HB⟩
/-! ### laws_toPoint: function 23 -/
def laws_toPoint.f (a0_0 : Int) (a0_1 : Int) (a0_2 : Bool) : Option (Int × Int × Bool) := some (a0_0, a0_1, a0_2)
set_option maxHeartbeats 8000000 in
set_option maxRecDepth 100000 in
theorem laws_toPoint.calls (a0_0 : Int) (a0_1 : Int) (a0_2 : Bool) (r1 : Int) (r2 : Int) (r3 : Bool) (w : World) (h : laws_toPoint.f a0_0 a0_1 a0_2 = some (r1, r2, r3)) :
  Calls Tryd.prog 23 #[.agg #[.int .i64 a0_0, .int .i64 a0_1, .bool a0_2]] w fun e w' => e = .returned (.agg #[.int .i64 r1, .int .i64 r2, .bool r3]) ∧ Below w.heap.size w w' := by
 have hu42 := Tryd.underlying42
 have hu23 := Tryd.underlying23
 have HB := Aside0.mk (Below.refl w.heap.size w)
 have H : (some (a0_0, a0_1, a0_2)) = some (r1, r2, r3) := h
 clear h
 simp only [Option.some.injEq, Prod.mk.injEq] at H
 obtain ⟨rfl, rfl, rfl⟩ := H
 go_enter Tryd.func23, Tryd.ntmps23
 go_wp2_with (first | ((with_reducible refine gate_dst (N := 1) rfl ?_); refine bE 1 #[.int .i64 a0_0, .int .i64 a0_1, .bool a0_2] 42 ?_; intro gb432 hg w2 hbox hb; have BK432 := Aside0.mk (hbox); have GW432 := bG HB hg; have GE432 := bG HB hg; replace HB := bS HB hb; clear hb hbox hg) | ((with_reducible refine gate_dst (N := 2) rfl ?_); refine bE 2 #[.int .i64 0, .int .i64 0, .bool false] 23 ?_; intro gb433 hg w3 hbox hb; have BK433 := Aside0.mk (hbox); have GW433 := bG HB hg; have GE433 := bG HB hg; replace HB := bS HB hb; have NB432_433 := bL BK432 hg; have NB433_432 := bR BK432 hg; replace BK432 := bB BK432 hb; clear hb hbox hg) | ((with_reducible refine gate_dst (N := 3) rfl ?_); refine bE 3 #[.int .i64 0, .int .i64 0, .bool false] 23 ?_; intro gb434 hg w4 hbox hb; have BK434 := Aside0.mk (hbox); have GW434 := bG HB hg; have GE434 := bG HB hg; replace HB := bS HB hb; have NB432_434 := bL BK432 hg; have NB434_432 := bR BK432 hg; replace BK432 := bB BK432 hb; have NB433_434 := bL BK433 hg; have NB434_433 := bR BK433 hg; replace BK433 := bB BK433 hb; clear hb hbox hg; have hnb5 := NB432_433.out; have hnc5 := NB433_432.out; have hnb6 := NB432_434.out; have hnc6 := NB434_432.out; obtain ⟨hcz7_0, hcz7_1, hcz7_2, hfz7_0, hfz7_1, hfz7_2⟩ := bK3 (w := w4) BK432; have hnb8 := NB434_433.out; have hnc8 := NB433_434.out; obtain ⟨hcz9_0, hcz9_1, hcz9_2, hfz9_0, hfz9_1, hfz9_2⟩ := bK3 (w := w4) BK434; obtain ⟨hcz10_0, hcz10_1, hcz10_2, hfz10_0, hfz10_1, hfz10_2⟩ := bK3 (w := w4) BK433))
 refine rC gb433 23 #[.int .i64 a0_0, .int .i64 a0_1, .bool a0_2] (bU BK433) Tryd.underlying23 ?_
 exact ⟨rR, bZ HB⟩
/-! ### laws_toPointS: function 39 -/
def laws_toPointS.l0 : Nat → List (S42) → List (S23) → Int → Option ((List (S23)))
 | 0, _, _, _ => none
 | k + 1, x0, x3, x4 => if x4 < (x0.length : Int) then (if 0 ≤ x4 then ((laws_toPoint.f ((rd_T42 x0 x4).f0) ((rd_T42 x0 x4).f1) ((rd_T42 x0 x4).f2)).bind fun bt439 => (if x4 < (x3.length : Int) then (laws_toPointS.l0 k x0 (x3.set (x4 : Int).toNat (⟨bt439.1, bt439.2.1, bt439.2.2⟩ : S23)) (wrap64 (x4 + 1))) else (none))) else (none)) else (some x3)
def laws_toPointS.f (k : Nat) (l0 : List (S42)) : Option ((List (S23))) := if 0 ≤ (l0.length : Int) then (if ((l0.length : Int) : Int).toNat ≤ 11728124029610 then (laws_toPointS.l0 k l0 (List.replicate ((l0.length : Int) : Int).toNat z23) 0) else (none)) else (none)
theorem laws_toPointS.mono_l : ∀ k, (∀ y0 y1 y2, LeO (laws_toPointS.l0 k y0 y1 y2) (laws_toPointS.l0 (k + 1) y0 y1 y2))
 | 0 => fun _ _ _ r h => by simp [laws_toPointS.l0] at h
 | k + 1 => by
  have ih0 := laws_toPointS.mono_l k
  ·intro y0 y1 y2
   unfold laws_toPointS.l0
   repeat' first
   | (with_reducible exact ih0 _ _ _)
   | (with_reducible exact LeO.refl _)
   | (with_reducible exact LeO.none _)
   | (with_reducible refine LeO.ite ?_ ?_)
   | (with_reducible refine LeO.bind ?_ (fun _ => ?_))
   | exact ih0 _ _ _
   | exact LeO.none _
   | refine LeO.ite ?_ ?_
   | refine LeO.bind ?_ (fun _ => ?_)
theorem laws_toPointS.mono : ∀ a0 k, LeO (laws_toPointS.f k a0) (laws_toPointS.f (k + 1) a0) := by
 intro a0 k
 have ih0 := laws_toPointS.mono_l k
 unfold laws_toPointS.f
 repeat' first
   | (with_reducible exact ih0 _ _ _)
   | (with_reducible exact LeO.refl _)
   | (with_reducible exact LeO.none _)
   | (with_reducible refine LeO.ite ?_ ?_)
   | (with_reducible refine LeO.bind ?_ (fun _ => ?_))
   | exact ih0 _ _ _
   | exact LeO.none _
   | refine LeO.ite ?_ ?_
   | refine LeO.bind ?_ (fun _ => ?_)
set_option maxHeartbeats 8000000 in
set_option maxRecDepth 100000 in
theorem laws_toPointS.calls (k : Nat) (A0 : Option Addr) (c0 : Nat) (l0 : List (S42)) (r : List (S23)) (w : World) (hr0 : Kd.C k42 w A0 l0.length l0) (hc0 : l0.length ≤ c0) (h : laws_toPointS.f k l0 = some r) :
  Calls Tryd.prog 39 #[.slice A0 l0.length c0] w fun e w' => ∃ v0_ : Value, e = .returned (v0_) ∧ Kd.R k23 23 w' w.heap.size (fun _ => True) v0_ r ∧ Below w.heap.size w w' := by
 have hu42 := Tryd.underlying42
 have hu23 := Tryd.underlying23
 have HR0 := Aside0.mk hr0
 have HC0 := Aside0.mk hc0
 clear hr0 hc0
 have HB := Aside0.mk (Below.refl w.heap.size w)
 have H : (if 0 ≤ (l0.length : Int) then (if ((l0.length : Int) : Int).toNat ≤ 11728124029610 then (laws_toPointS.l0 k l0 (List.replicate ((l0.length : Int) : Int).toNat z23) 0) else (none)) else (none)) = some r := h
 clear h
 by_cases c2 : 0 ≤ (l0.length : Int)
 ·rw [if_pos c2] at H
  have c2b0 := eq_true c2
  have c2b1 : decide (0 ≤ (l0.length : Int)) = true := decide_eq_true c2
  clear c2
  by_cases c3 : ((l0.length : Int) : Int).toNat ≤ 11728124029610
  ·rw [if_pos c3] at H
   have c3b0 := eq_true c3
   have c3b1 : decide (((l0.length : Int) : Int).toNat ≤ 11728124029610) = true := decide_eq_true c3
   clear c3
   obtain ⟨y435, hy435⟩ : ∃ y_ : List (S23), y_ = (List.replicate ((l0.length : Int) : Int).toNat z23) := ⟨_, rfl⟩
   replace H : (laws_toPointS.l0 k l0 y435 0) = some r := by first | (rw [hy435]; with_reducible exact H) | (have H2_ := (Option.bind_some _ _).symm.trans H; rw [hy435]; with_reducible exact H2_) | (have H2_ := (Option.bind_some _ _).symm.trans H; with_reducible exact H2_) | with_reducible exact H | (rw [hy435]; exact H) | exact H
   have Ny435 := Aside0.mk hy435
   clear hy435
   have H' := Aside0.mk H
   clear H
   go_enter Tryd.func39, Tryd.ntmps39
   go_wp2_with (first | ((with_reducible refine gate_dst (N := 7) rfl ?_); refine Kd.R_make k23 _ 23 rfl (N := 7) rfl 36 _ _ rfl (l0.length : Int) rfl rfl Tryd.underlying36 (.agg #[(.int .i64 0), (.int .i64 0), (.bool false)]) 24 info23 rfl (by decide) (by omega) z23 (ok := fun _ => True) (okp := fun _ => True) (k23_mkM _ _ _ z23 ) (fun _ hk => hk) trivial (of_decide_eq_true (by first | (with_reducible assumption) | assumption)) (Nat.le_trans (Nat.mul_le_mul_right _ (of_decide_eq_true (by first | (with_reducible assumption) | assumption) : (l0.length : Int).toNat ≤ 11728124029610)) (by omega)) (Below.refl _ _) (Nat.le_refl _) ?_; intro v436 w4 ho5 hb hg_ hnew_; clear hg_ hnew_; (first | rw [← Ny435.out] at ho5 | (simp only [Int.reduceToNat] at ho5; rw [← Ny435.out] at ho5)); have HO437 := Aside0.mk (Kd.R_lower ho5 (below_size (bZ HB))); replace HB := bS HB hb; clear hb ho5))
   go_loopg [4] k (fun kq v4 w' => ∃ (x3_1 : List (S23)) (x4_1 : Int), v4 = .int .i64 x4_1 ∧ Aside0 (laws_toPointS.l0 kq l0 x3_1 x4_1 = some r) ∧ Aside0 (kq ≤ k) ∧ Aside0 (Kd.R k23 23 w' w.heap.size (fun _ => True) v436 x3_1) ∧ Aside0 (Below w.heap.size w w'))
   case atStart => exact ⟨(y435), (0), rS, H', ⟨Nat.le_refl _⟩, ⟨rP HO437⟩, ⟨bZ HB⟩⟩
   case round =>
    clear H'
    try clear c2
    try clear c2b0
    try clear c2b1
    try clear p2
    try clear c3
    try clear c3b0
    try clear c3b1
    obtain ⟨x3_1, x4_1, rfl, HA, HK1, HO_3, HB⟩ := hrel
    cases gk with
    | zero => exact absurd HA.out (by simp [laws_toPointS.l0])
    | succ k1 =>
     have H := HA.out
     clear HA
     simp only [laws_toPointS.l0] at H
     by_cases c6 : x4_1 < (l0.length : Int)
     ·rw [if_pos c6] at H
      have c6b0 : decide (x4_1 < (l0.length : Int)) = true := decide_eq_true c6
      clear c6
      by_cases c7 : 0 ≤ x4_1
      ·rw [if_pos c7] at H
       have c7b0 : decide (0 ≤ x4_1) = true := decide_eq_true c7
       clear c7
       replace H := Option.bind_eq_some_iff.mp H
       obtain ⟨⟨t439, t440, t441⟩, A80, H⟩ := H
       have A8 := Aside0.mk A80
       clear A80
       by_cases c9 : x4_1 < (x3_1.length : Int)
       ·rw [if_pos c9] at H
        have c9b0 : decide (x4_1 < (x3_1.length : Int)) = true := decide_eq_true c9
        clear c9
        obtain ⟨y442, hy442⟩ : ∃ y_ : List (S23), y_ = (x3_1.set (x4_1 : Int).toNat (⟨t439, t440, t441⟩ : S23)) := ⟨_, rfl⟩
        replace H : (laws_toPointS.l0 k1 l0 y442 (wrap64 (x4_1 + 1))) = some r := by first | (rw [hy442]; with_reducible exact H) | (have H2_ := (Option.bind_some _ _).symm.trans H; rw [hy442]; with_reducible exact H2_) | (have H2_ := (Option.bind_some _ _).symm.trans H; with_reducible exact H2_) | with_reducible exact H | (rw [hy442]; exact H) | exact H
        have Ny442 := Aside0.mk hy442
        clear hy442
        have H' := Aside0.mk H
        clear H
        have p438 : 0 ≤ (x4_1 : Int) := of_decide_eq_true (by first | (with_reducible assumption) | assumption)
        have q438 : x4_1 < (l0.length : Int) := of_decide_eq_true (by first | (with_reducible assumption) | assumption)
        obtain ⟨ad438, e438, hx438_0, hx438_1, hx438_2⟩ := at_T42 HR0.out x4_1 p438 q438
        cases e438
        replace hx438_0 := (HB.out.cell (World.block_lt_of_cell? w _ hx438_0)).trans hx438_0
        replace hx438_1 := (HB.out.cell (World.block_lt_of_cell? w _ hx438_1)).trans hx438_1
        replace hx438_2 := (HB.out.cell (World.block_lt_of_cell? w _ hx438_2)).trans hx438_2
        replace p438 := eq_true p438
        replace q438 := eq_true q438
        go_wp2_with (first | ((with_reducible refine gate_callee (f := 23) rfl ?_); refine gL (some 20) Tryd.func23 #[.agg #[.int .i64 ((rd_T42 l0 x4_1).f0), .int .i64 ((rd_T42 l0 x4_1).f1), .bool ((rd_T42 l0 x4_1).f2)]] ?_; (with_reducible refine (laws_toPoint.calls ((rd_T42 l0 x4_1).f0) ((rd_T42 l0 x4_1).f1) ((rd_T42 l0 x4_1).f2) t439 t440 t441 _ A8.out).mono ?_); rintro e w11 ⟨rfl, hb⟩; refine ⟨_, rfl, ?_⟩; replace HO_3 := Aside0.mk (Kd.R_below (rP HO_3) hb); replace HB := bS HB hb; (try clear hb); have p10 : 0 ≤ (x4_1 : Int) := of_decide_eq_true (by first | (with_reducible assumption) | assumption); have q10 : (x4_1 : Int) < ((x3_1.length : Int) : Int) := of_decide_eq_true (by first | (with_reducible assumption) | assumption); obtain ⟨go10, co10, eo10, gb10, gl10, cl10, HG10⟩ := Kd.R_form HO_3.out (by omega); (first | cases eo10 | (injection eo10 with ea_ en_ ec_; (first | subst ea_ | (injection ea_ with ea_; subst ea_)); subst ec_; clear en_)); have GB10 := Aside0.mk gb10; have GG10 := Aside0.mk HG10; clear gb10 gl10 HG10; obtain ⟨ce10, hcl10, hM10, hcc10, hfr10⟩ := Kd.R_elem HO_3.out z23 (x4_1 : Int) p10 q10; obtain rfl := k23_openM hM10; have hx10_0 : w11.cell? ⟨go10, (x4_1 : Int).toNat * 3, none⟩ = some (.int .i64 ((rd_T23 x3_1 x4_1).f0)) := hcc10 0 _ rfl; have hx10_1 : w11.cell? ⟨go10, (x4_1 : Int).toNat * 3 + 1, none⟩ = some (.int .i64 ((rd_T23 x3_1 x4_1).f1)) := hcc10 1 _ rfl; have hx10_2 : w11.cell? ⟨go10, (x4_1 : Int).toNat * 3 + 2, none⟩ = some (.bool ((rd_T23 x3_1 x4_1).f2)) := hcc10 2 _ rfl; have hf10_0 : w11.frozen? ⟨go10, (x4_1 : Int).toNat * 3, none⟩ = false := hfr10 0; have hf10_1 : w11.frozen? ⟨go10, (x4_1 : Int).toNat * 3 + 1, none⟩ = false := hfr10 1; have hf10_2 : w11.frozen? ⟨go10, (x4_1 : Int).toNat * 3 + 2, none⟩ = false := hfr10 2; clear hcl10 hcc10 hfr10; (try clear hM10); replace p10 := eq_true p10; replace q10 := eq_true q10; have HX12 := Aside0.mk (show Kd.R k23 23 w11 w.heap.size (fun _ => True) (.slice (some ⟨go10, 0, none⟩) x3_1.length co10) x3_1 from (rP HO_3)); obtain ⟨ce12, hcl12, hM12, hcc12, hfr12⟩ := Kd.R_elem HX12.out z23 (x4_1 : Int) (of_decide_eq_true (by first | (with_reducible assumption) | assumption)) (by have h_ : (x4_1 : Int) < ((x3_1.length : Int) : Int) := of_decide_eq_true (by first | (with_reducible assumption) | assumption); first | exact h_ | (have e_ := (Kd.R_reads' HO_3.out).1; omega) | simpa using h_); obtain rfl := k23_openM hM12; have HP12 := Kd.R_seg HX12.out (x4_1 : Int) (of_decide_eq_true (by first | (with_reducible assumption) | assumption)) (by have h_ : (x4_1 : Int) < ((x3_1.length : Int) : Int) := of_decide_eq_true (by first | (with_reducible assumption) | assumption); first | exact h_ | (have e_ := (Kd.R_reads' HO_3.out).1; omega) | simpa using h_) (seg := [.int .i64 t439, .int .i64 t440, .bool t441]) (j := 0) hcl12 hcc12 (show 3 ≤ 3 from by decide) (x' := (⟨t439, t440, t441⟩ : S23)) (k23_mkM _ _ _ (⟨t439, t440, t441⟩ : S23) ) (fun _ hk => hk); have hx12_0 := hcc12 0 _ rfl; (try simp only [show (k23).sz = 3 from rfl, Nat.mul_one, Nat.add_zero] at hx12_0); have hf12_0 := hfr12 0; (try simp only [show (k23).sz = 3 from rfl, Nat.mul_one, Nat.add_zero] at hf12_0); have hx12_1 := hcc12 1 _ rfl; (try simp only [show (k23).sz = 3 from rfl, Nat.mul_one, Nat.add_zero] at hx12_1); have hf12_1 := hfr12 1; (try simp only [show (k23).sz = 3 from rfl, Nat.mul_one, Nat.add_zero] at hf12_1); have hx12_2 := hcc12 2 _ rfl; (try simp only [show (k23).sz = 3 from rfl, Nat.mul_one, Nat.add_zero] at hx12_2); have hf12_2 := hfr12 2; (try simp only [show (k23).sz = 3 from rfl, Nat.mul_one, Nat.add_zero] at hf12_2); clear hcl12 hcc12 hfr12; (try clear hM12)) | ((with_reducible refine gate_store (t := 23) (p := 21) rfl ?_); refine store_event (t := 23) (p := 21) (v := ?vo_w13) (w1 := (((w11.setCell ⟨go10, (x4_1 : Int).toNat * 3, none⟩ (.int .i64 t439)).setCell ⟨go10, (x4_1 : Int).toNat * 3 + 1, none⟩ (.int .i64 t440)).setCell ⟨go10, (x4_1 : Int).toNat * 3 + 2, none⟩ (.bool t441))) ?hg ?ho ?hn ?hr ?_; (case ho => rfl); (case hg => rfl); (case hn => rfl); (case hr => first | (go_simp; done) | (go_simp; rfl)); intro w13 hw; have hg : w11.grownBy w13 (some go10) := (by rw [hw]; exact HP12.2); have hp_ : Kd.R k23 23 w13 w.heap.size (fun _ => True) (.slice (some ⟨go10, 0, none⟩) x3_1.length co10) y442 := (by rw [hw, Ny442.out]; exact HP12.1); clear HP12; replace HO_3 := Aside0.mk (hp_); replace HB := Aside0.mk ((by rw [hw]; exact below_set (below_set (below_set (HB.out) GB10.out) GB10.out) GB10.out : Below w.heap.size w w13)); clear hg hw hp_))
        go_roundg k1
        case measure => have := HK1.out; omega
        case rel => exact ⟨(y442), (wrap64 (x4_1 + 1)), rS, H', ⟨by have := HK1.out; omega⟩, ⟨rP HO_3⟩, ⟨bZ HB⟩⟩
       ·rw [if_neg c9] at H
        exact absurd H (by simp)
      ·rw [if_neg c7] at H
       exact absurd H (by simp)
     ·rw [if_neg c6] at H
      have c6b0 : decide (x4_1 < (l0.length : Int)) = false := decide_eq_false c6
      clear c6
      obtain rfl := Option.some.inj H
      go_wp2
      go_ret
      exact ⟨_, by first | rfl | (simp [errW_none, errW_some] <;> rfl) | (simp [*, errW_none, errW_some] <;> rfl), by (with_reducible repeat (first | apply Kd.R_alloc | apply Kd.R_drewN | apply Kd.R_drew)); exact HO_3.out, bZ HB⟩
  ·rw [if_neg c3] at H
   exact absurd H (by simp)
 ·rw [if_neg c2] at H
  exact absurd H (by simp)
/-! ### laws_toCommittee: function 19 -/
def laws_toCommittee.f (k : Nat) (l0_0 : List (S42)) : Option ((List (S23))) := (laws_toPointS.f k l0_0).bind fun t446 => (some t446)
theorem laws_toCommittee.mono : ∀ a0 k, LeO (laws_toCommittee.f k a0) (laws_toCommittee.f (k + 1) a0) := by
 intro a0 k
 unfold laws_toCommittee.f
 repeat' first
   | (with_reducible exact laws_toPointS.mono _ _)
   | (with_reducible exact LeO.refl _)
   | (with_reducible exact LeO.none _)
   | (with_reducible refine LeO.ite ?_ ?_)
   | (with_reducible refine LeO.bind ?_ (fun _ => ?_))
   | exact laws_toPointS.mono _ _
   | exact LeO.none _
   | refine LeO.ite ?_ ?_
   | refine LeO.bind ?_ (fun _ => ?_)
set_option maxHeartbeats 8000000 in
set_option maxRecDepth 100000 in
theorem laws_toCommittee.calls (k : Nat) (A0_0 : Option Addr) (c0_0 : Nat) (l0_0 : List (S42)) (r : List (S23)) (w : World) (hr0_0 : Kd.C k42 w A0_0 l0_0.length l0_0) (hc0_0 : l0_0.length ≤ c0_0) (h : laws_toCommittee.f k l0_0 = some r) :
  Calls Tryd.prog 19 #[.agg #[.slice A0_0 l0_0.length c0_0]] w fun e w' => ∃ v0_ : Value, e = .returned (.agg #[v0_]) ∧ Kd.R k23 23 w' w.heap.size (fun _ => True) v0_ r ∧ Below w.heap.size w w' := by
 have hu33 := Tryd.underlying33
 have hu38 := Tryd.underlying38
 have HR0_0 := Aside0.mk hr0_0
 have HC0_0 := Aside0.mk hc0_0
 clear hr0_0 hc0_0
 have HB := Aside0.mk (Below.refl w.heap.size w)
 have H : ((laws_toPointS.f k l0_0).bind fun t446 => (some t446)) = some r := h
 clear h
 replace H := Option.bind_eq_some_iff.mp H
 obtain ⟨t446, A20, H⟩ := H
 have A2 := Aside0.mk A20
 clear A20
 obtain rfl := Option.some.inj H
 go_enter Tryd.func19, Tryd.ntmps19
 go_wp2_with (first | ((with_reducible refine gate_dst (N := 1) rfl ?_); refine bE 1 #[.slice A0_0 l0_0.length c0_0] 33 ?_; intro gb443 hg w3 hbox hb; have BK443 := Aside0.mk (hbox); have GW443 := bG HB hg; have GE443 := bG HB hg; replace HB := bS HB hb; clear hb hbox hg) | ((with_reducible refine gate_dst (N := 2) rfl ?_); refine bE 2 #[.slice none 0 0] 38 ?_; intro gb444 hg w4 hbox hb; have BK444 := Aside0.mk (hbox); have GW444 := bG HB hg; have GE444 := bG HB hg; replace HB := bS HB hb; have NB443_444 := bL BK443 hg; have NB444_443 := bR BK443 hg; replace BK443 := bB BK443 hb; clear hb hbox hg) | ((with_reducible refine gate_dst (N := 3) rfl ?_); refine bE 3 #[.slice none 0 0] 38 ?_; intro gb445 hg w5 hbox hb; have BK445 := Aside0.mk (hbox); have GW445 := bG HB hg; have GE445 := bG HB hg; replace HB := bS HB hb; have NB443_445 := bL BK443 hg; have NB445_443 := bR BK443 hg; replace BK443 := bB BK443 hb; have NB444_445 := bL BK444 hg; have NB445_444 := bR BK444 hg; replace BK444 := bB BK444 hb; clear hb hbox hg; have hnb6 := NB443_444.out; have hnc6 := NB444_443.out; have hnb7 := NB443_445.out; have hnc7 := NB445_443.out; obtain ⟨hcz8_0, hfz8_0⟩ := bK1 (w := w5) BK443) | ((with_reducible refine gate_callee (f := 39) rfl ?_); refine gL (some 6) Tryd.func39 #[.slice A0_0 l0_0.length c0_0] ?_; (with_reducible refine (laws_toPointS.calls k _ _ l0_0 t446 _ ?side1 ?side2 A2.out).mono ?_); (case side1 => exact cP (Kd.C_below HR0_0.out HB.out)); (case side2 => exact HC0_0.out); rintro e w9 ⟨v447, rfl, ho0, hb⟩; refine ⟨_, rfl, ?_⟩; have HO448 := Aside0.mk (Kd.R_lower ho0 (below_size (bZ HB))); replace BK443 := bB BK443 hb; replace BK444 := bB BK444 hb; replace BK445 := bB BK445 hb; replace HB := bS HB hb; (try clear hb); (try clear ho0); obtain ⟨Ao10, co10, eo10⟩ := Kd.R_slice HO448.out; subst eo10; have hnb11 := NB445_444.out; have hnc11 := NB444_445.out; obtain ⟨hcz12_0, hfz12_0⟩ := bK1 (w := w9) BK445; obtain ⟨hcz13_0, hfz13_0⟩ := bK1 (w := w9) BK444))
 refine rC gb444 38 #[.slice Ao10 t446.length co10] (bU BK444) Tryd.underlying38 ?_
 exact ⟨_, by first | rfl | (simp [errW_none, errW_some] <;> rfl) | (simp [*, errW_none, errW_some] <;> rfl), by (with_reducible repeat (first | apply Kd.R_alloc | apply Kd.R_drewN | apply Kd.R_drew)); exact Kd.R_mono (Kd.R_far (p := ⟨gb444, 0, none⟩) (Kd.R_far (p := ⟨gb445, 0, none⟩) (Kd.R_types (Kd.R_types HO448.out BK445.out (by decide)) BK444.out (by decide)) (fun _ hk => hk.1.2) (.slice Ao10 t446.length co10)) (fun _ hk => hk.2) (.slice Ao10 t446.length co10)) (fun _ hk => trivial), bZ HB⟩
/-! ### impl_remainder: function 76 -/
def impl_remainder.f (a0 : Int) (a1 : Int) : Option (Int) := if a1 = 0 then (none) else (if (Int.tmod a0 a1) < 0 then (some (wrap64 ((Int.tmod a0 a1) + a1))) else (some (Int.tmod a0 a1)))
set_option maxHeartbeats 8000000 in
set_option maxRecDepth 100000 in
theorem impl_remainder.calls (a0 : Int) (a1 : Int) (r : Int) (w : World) (h : impl_remainder.f a0 a1 = some r) :
  Calls Tryd.prog 76 #[.int .i64 a0, .int .i64 a1] w fun e w' => e = .returned (.int .i64 r) ∧ Drawn0 w w' := by
 have H : (if a1 = 0 then (none) else (if (Int.tmod a0 a1) < 0 then (some (wrap64 ((Int.tmod a0 a1) + a1))) else (some (Int.tmod a0 a1)))) = some r := h
 clear h
 by_cases c3 : a1 = 0
 ·rw [if_pos c3] at H
  exact absurd H (by simp)
 ·rw [if_neg c3] at H
  have c3b0 : (a1 == 0) = false := beq_eq_false_iff_ne.mpr c3
  have c3b1 : (a1 != 0) = true := bne_iff_ne.mpr c3
  by_cases c4 : (Int.tmod a0 a1) < 0
  ·rw [if_pos c4] at H
   have c4b0 : decide ((Int.tmod a0 a1) < 0) = true := decide_eq_true c4
   clear c4
   obtain rfl := Option.some.inj H
   go_enter Tryd.func76, Tryd.ntmps76
   go_wp2
   go_ret
   exact ⟨rS, rD⟩
  ·rw [if_neg c4] at H
   have c4b0 : decide ((Int.tmod a0 a1) < 0) = false := decide_eq_false c4
   clear c4
   obtain rfl := Option.some.inj H
   go_enter Tryd.func76, Tryd.ntmps76
   go_wp2
   go_ret
   exact ⟨rS, rD⟩
/-! ### impl_FpOf: function 48 -/
def impl_FpOf.f (a0 : Int) : Option (Int) := (impl_remainder.f a0 12107).bind fun t203 => (some t203)
set_option maxHeartbeats 8000000 in
set_option maxRecDepth 100000 in
theorem impl_FpOf.calls (a0 : Int) (r : Int) (w : World) (h : impl_FpOf.f a0 = some r) :
  Calls Tryd.prog 48 #[.int .i64 a0] w fun e w' => e = .returned (.int .i64 r) ∧ Drawn0 w w' := by
 have H : ((impl_remainder.f a0 12107).bind fun t203 => (some t203)) = some r := h
 clear h
 replace H := Option.bind_eq_some_iff.mp H
 obtain ⟨t203, A20, H⟩ := H
 have A2 := Aside0.mk A20
 clear A20
 obtain rfl := Option.some.inj H
 go_enter Tryd.func48, Tryd.ntmps48
 go_wp2_with (first | ((with_reducible refine gate_callee (f := 76) rfl ?_); refine gL (some 4) Tryd.func76 #[.int .i64 a0, .int .i64 12107] ?_; (with_reducible refine (impl_remainder.calls a0 12107 t203 _ A2.out).mono ?_); rintro e w' ⟨rfl, ⟨nd, rfl⟩⟩; refine ⟨_, rfl, ?_⟩))
 go_ret
 exact ⟨rS, rD⟩
/-! ### impl_FpMul: function 95 -/
def impl_FpMul.f (a0 : Int) (a1 : Int) : Option (Int) := (impl_FpOf.f a0).bind fun t205 => ((impl_FpOf.f a1).bind fun t206 => ((impl_FpOf.f (wrap64 (t205 * t206))).bind fun t207 => (some t207)))
set_option maxHeartbeats 8000000 in
set_option maxRecDepth 100000 in
theorem impl_FpMul.calls (a0 : Int) (a1 : Int) (r : Int) (w : World) (h : impl_FpMul.f a0 a1 = some r) :
  Calls Tryd.prog 95 #[.int .i64 a0, .int .i64 a1] w fun e w' => e = .returned (.int .i64 r) ∧ Drawn0 w w' := by
 have H : ((impl_FpOf.f a0).bind fun t205 => ((impl_FpOf.f a1).bind fun t206 => ((impl_FpOf.f (wrap64 (t205 * t206))).bind fun t207 => (some t207)))) = some r := h
 clear h
 replace H := Option.bind_eq_some_iff.mp H
 obtain ⟨t205, A30, H⟩ := H
 have A3 := Aside0.mk A30
 clear A30
 replace H := Option.bind_eq_some_iff.mp H
 obtain ⟨t206, A40, H⟩ := H
 have A4 := Aside0.mk A40
 clear A40
 replace H := Option.bind_eq_some_iff.mp H
 obtain ⟨t207, A50, H⟩ := H
 have A5 := Aside0.mk A50
 clear A50
 obtain rfl := Option.some.inj H
 go_enter Tryd.func95, Tryd.ntmps95
 go_wp2_with (first | ((with_reducible refine gate_callee (f := 48) rfl ?_); refine gL (some 6) Tryd.func48 #[.int .i64 a0] ?_; (with_reducible refine (impl_FpOf.calls a0 t205 _ A3.out).mono ?_); rintro e w' ⟨rfl, ⟨nd, rfl⟩⟩; refine ⟨_, rfl, ?_⟩) | ((with_reducible refine gate_callee (f := 48) rfl ?_); refine gL (some 8) Tryd.func48 #[.int .i64 a1] ?_; (with_reducible refine (impl_FpOf.calls a1 t206 _ A4.out).mono ?_); rintro e w' ⟨rfl, ⟨nd, rfl⟩⟩; refine ⟨_, rfl, ?_⟩) | ((with_reducible refine gate_callee (f := 48) rfl ?_); refine gL (some 10) Tryd.func48 #[.int .i64 (wrap64 (t205 * t206))] ?_; (with_reducible refine (impl_FpOf.calls (wrap64 (t205 * t206)) t207 _ A5.out).mono ?_); rintro e w' ⟨rfl, ⟨nd, rfl⟩⟩; refine ⟨_, rfl, ?_⟩))
 go_ret
 exact ⟨rS, rD⟩
/-! ### impl_FpAdd: function 96 -/
def impl_FpAdd.f (a0 : Int) (a1 : Int) : Option (Int) := (impl_FpOf.f a0).bind fun t212 => ((impl_FpOf.f a1).bind fun t213 => ((impl_FpOf.f (wrap64 (t212 + t213))).bind fun t214 => (some t214)))
set_option maxHeartbeats 8000000 in
set_option maxRecDepth 100000 in
theorem impl_FpAdd.calls (a0 : Int) (a1 : Int) (r : Int) (w : World) (h : impl_FpAdd.f a0 a1 = some r) :
  Calls Tryd.prog 96 #[.int .i64 a0, .int .i64 a1] w fun e w' => e = .returned (.int .i64 r) ∧ Drawn0 w w' := by
 have H : ((impl_FpOf.f a0).bind fun t212 => ((impl_FpOf.f a1).bind fun t213 => ((impl_FpOf.f (wrap64 (t212 + t213))).bind fun t214 => (some t214)))) = some r := h
 clear h
 replace H := Option.bind_eq_some_iff.mp H
 obtain ⟨t212, A30, H⟩ := H
 have A3 := Aside0.mk A30
 clear A30
 replace H := Option.bind_eq_some_iff.mp H
 obtain ⟨t213, A40, H⟩ := H
 have A4 := Aside0.mk A40
 clear A40
 replace H := Option.bind_eq_some_iff.mp H
 obtain ⟨t214, A50, H⟩ := H
 have A5 := Aside0.mk A50
 clear A50
 obtain rfl := Option.some.inj H
 go_enter Tryd.func96, Tryd.ntmps96
 go_wp2_with (first | ((with_reducible refine gate_callee (f := 48) rfl ?_); refine gL (some 6) Tryd.func48 #[.int .i64 a0] ?_; (with_reducible refine (impl_FpOf.calls a0 t212 _ A3.out).mono ?_); rintro e w' ⟨rfl, ⟨nd, rfl⟩⟩; refine ⟨_, rfl, ?_⟩) | ((with_reducible refine gate_callee (f := 48) rfl ?_); refine gL (some 8) Tryd.func48 #[.int .i64 a1] ?_; (with_reducible refine (impl_FpOf.calls a1 t213 _ A4.out).mono ?_); rintro e w' ⟨rfl, ⟨nd, rfl⟩⟩; refine ⟨_, rfl, ?_⟩) | ((with_reducible refine gate_callee (f := 48) rfl ?_); refine gL (some 10) Tryd.func48 #[.int .i64 (wrap64 (t212 + t213))] ?_; (with_reducible refine (impl_FpOf.calls (wrap64 (t212 + t213)) t214 _ A5.out).mono ?_); rintro e w' ⟨rfl, ⟨nd, rfl⟩⟩; refine ⟨_, rfl, ?_⟩))
 go_ret
 exact ⟨rS, rD⟩
/-! ### impl_curveAt: function 50 -/
def impl_curveAt.f (a0 : Int) : Option (Int) := (impl_FpMul.f a0 a0).bind fun t215 => ((impl_FpMul.f t215 a0).bind fun t216 => ((impl_FpAdd.f t216 a0).bind fun t217 => (some t217)))
set_option maxHeartbeats 8000000 in
set_option maxRecDepth 100000 in
theorem impl_curveAt.calls (a0 : Int) (r : Int) (w : World) (h : impl_curveAt.f a0 = some r) :
  Calls Tryd.prog 50 #[.int .i64 a0] w fun e w' => e = .returned (.int .i64 r) ∧ Drawn0 w w' := by
 have H : ((impl_FpMul.f a0 a0).bind fun t215 => ((impl_FpMul.f t215 a0).bind fun t216 => ((impl_FpAdd.f t216 a0).bind fun t217 => (some t217)))) = some r := h
 clear h
 replace H := Option.bind_eq_some_iff.mp H
 obtain ⟨t215, A20, H⟩ := H
 have A2 := Aside0.mk A20
 clear A20
 replace H := Option.bind_eq_some_iff.mp H
 obtain ⟨t216, A30, H⟩ := H
 have A3 := Aside0.mk A30
 clear A30
 replace H := Option.bind_eq_some_iff.mp H
 obtain ⟨t217, A40, H⟩ := H
 have A4 := Aside0.mk A40
 clear A40
 obtain rfl := Option.some.inj H
 go_enter Tryd.func50, Tryd.ntmps50
 go_wp2_with (first | ((with_reducible refine gate_callee (f := 95) rfl ?_); refine gL (some 5) Tryd.func95 #[.int .i64 a0, .int .i64 a0] ?_; (with_reducible refine (impl_FpMul.calls a0 a0 t215 _ A2.out).mono ?_); rintro e w' ⟨rfl, ⟨nd, rfl⟩⟩; refine ⟨_, rfl, ?_⟩) | ((with_reducible refine gate_callee (f := 95) rfl ?_); refine gL (some 7) Tryd.func95 #[.int .i64 t215, .int .i64 a0] ?_; (with_reducible refine (impl_FpMul.calls t215 a0 t216 _ A3.out).mono ?_); rintro e w' ⟨rfl, ⟨nd, rfl⟩⟩; refine ⟨_, rfl, ?_⟩) | ((with_reducible refine gate_callee (f := 96) rfl ?_); refine gL (some 9) Tryd.func96 #[.int .i64 t216, .int .i64 a0] ?_; (with_reducible refine (impl_FpAdd.calls t216 a0 t217 _ A4.out).mono ?_); rintro e w' ⟨rfl, ⟨nd, rfl⟩⟩; refine ⟨_, rfl, ?_⟩))
 go_ret
 exact ⟨rS, rD⟩
/-! ### impl_FpOk: function 124 -/
def impl_FpOk.f (a0 : Int) : Option (Bool) := if a0 ≥ 0 then (some (decide (a0 < 12107))) else (some false)
set_option maxHeartbeats 8000000 in
set_option maxRecDepth 100000 in
theorem impl_FpOk.calls (a0 : Int) (r : Bool) (w : World) (h : impl_FpOk.f a0 = some r) :
  Calls Tryd.prog 124 #[.int .i64 a0] w fun e w' => e = .returned (.bool r) ∧ Drawn0 w w' := by
 have H : (if a0 ≥ 0 then (some (decide (a0 < 12107))) else (some false)) = some r := h
 clear h
 by_cases c2 : a0 ≥ 0
 ·rw [if_pos c2] at H
  have c2b0 : decide (0 ≤ a0) = true := decide_eq_true c2
  clear c2
  obtain rfl := Option.some.inj H
  go_enter Tryd.func124, Tryd.ntmps124
  go_wp2
  go_ret
  exact ⟨rS, rD⟩
 ·rw [if_neg c2] at H
  have c2b0 : decide (0 ≤ a0) = false := decide_eq_false c2
  clear c2
  obtain rfl := Option.some.inj H
  go_enter Tryd.func124, Tryd.ntmps124
  go_wp2
  go_ret
  exact ⟨rS, rD⟩
/-! ### impl_PointOk: function 97 -/
def impl_PointOk.f (a0_0 : Int) (a0_1 : Int) (a0_2 : Bool) : Option (Bool) := if a0_2 = true then (if a0_0 = 0 then (some (a0_1 == 0)) else (some false)) else ((impl_FpOk.f a0_0).bind fun t219 => (if t219 = true then ((impl_FpOk.f a0_1).bind fun t220 => (if t220 = true then ((impl_FpMul.f a0_1 a0_1).bind fun t221 => ((impl_curveAt.f a0_0).bind fun t222 => (some (t221 == t222)))) else (some false))) else (some false)))
set_option maxHeartbeats 8000000 in
set_option maxRecDepth 100000 in
theorem impl_PointOk.calls (a0_0 : Int) (a0_1 : Int) (a0_2 : Bool) (r : Bool) (w : World) (h : impl_PointOk.f a0_0 a0_1 a0_2 = some r) :
  Calls Tryd.prog 97 #[.agg #[.int .i64 a0_0, .int .i64 a0_1, .bool a0_2]] w fun e w' => e = .returned (.bool r) ∧ Below w.heap.size w w' := by
 have hu23 := Tryd.underlying23
 have HB := Aside0.mk (Below.refl w.heap.size w)
 have H : (if a0_2 = true then (if a0_0 = 0 then (some (a0_1 == 0)) else (some false)) else ((impl_FpOk.f a0_0).bind fun t219 => (if t219 = true then ((impl_FpOk.f a0_1).bind fun t220 => (if t220 = true then ((impl_FpMul.f a0_1 a0_1).bind fun t221 => ((impl_curveAt.f a0_0).bind fun t222 => (some (t221 == t222)))) else (some false))) else (some false)))) = some r := h
 clear h
 by_cases c2 : a0_2 = true
 ·subst c2
  rw [if_pos rfl] at H
  by_cases c3 : a0_0 = 0
  ·rw [if_pos c3] at H
   have c3b0 : (a0_0 == 0) = true := beq_iff_eq.mpr c3
   have c3b1 : (a0_0 != 0) = false := bne_eq_false_iff_eq.mpr c3
   clear c3
   obtain rfl := Option.some.inj H
   go_enter Tryd.func97, Tryd.ntmps97
   go_wp2_with (first | ((with_reducible refine gate_dst (N := 1) rfl ?_); refine bE 1 #[.int .i64 a0_0, .int .i64 a0_1, .bool true] 23 ?_; intro gb218 hg w4 hbox hb; have BK218 := Aside0.mk (hbox); have GW218 := bG HB hg; have GE218 := bG HB hg; replace HB := bS HB hb; clear hb hbox hg; obtain ⟨hcz5_0, hcz5_1, hcz5_2, hfz5_0, hfz5_1, hfz5_2⟩ := bK3 (w := w4) BK218))
   repeat (go_quiet (first | ((with_reducible refine gate_dst (N := 1) rfl ?_); refine bE 1 #[.int .i64 a0_0, .int .i64 a0_1, .bool true] 23 ?_; intro gb218 hg w4 hbox hb; have BK218 := Aside0.mk (hbox); have GW218 := bG HB hg; have GE218 := bG HB hg; replace HB := bS HB hb; clear hb hbox hg; obtain ⟨hcz5_0, hcz5_1, hcz5_2, hfz5_0, hfz5_1, hfz5_2⟩ := bK3 (w := w4) BK218)); try go_wp2_with (first | ((with_reducible refine gate_dst (N := 1) rfl ?_); refine bE 1 #[.int .i64 a0_0, .int .i64 a0_1, .bool true] 23 ?_; intro gb218 hg w4 hbox hb; have BK218 := Aside0.mk (hbox); have GW218 := bG HB hg; have GE218 := bG HB hg; replace HB := bS HB hb; clear hb hbox hg; obtain ⟨hcz5_0, hcz5_1, hcz5_2, hfz5_0, hfz5_1, hfz5_2⟩ := bK3 (w := w4) BK218)))
   go_ret
   exact ⟨rR, bZ HB⟩
  ·rw [if_neg c3] at H
   have c3b0 : (a0_0 == 0) = false := beq_eq_false_iff_ne.mpr c3
   have c3b1 : (a0_0 != 0) = true := bne_iff_ne.mpr c3
   obtain rfl := Option.some.inj H
   go_enter Tryd.func97, Tryd.ntmps97
   go_wp2_with (first | ((with_reducible refine gate_dst (N := 1) rfl ?_); refine bE 1 #[.int .i64 a0_0, .int .i64 a0_1, .bool true] 23 ?_; intro gb218 hg w6 hbox hb; have BK218 := Aside0.mk (hbox); have GW218 := bG HB hg; have GE218 := bG HB hg; replace HB := bS HB hb; clear hb hbox hg; obtain ⟨hcz7_0, hcz7_1, hcz7_2, hfz7_0, hfz7_1, hfz7_2⟩ := bK3 (w := w6) BK218))
   repeat (go_quiet (first | ((with_reducible refine gate_dst (N := 1) rfl ?_); refine bE 1 #[.int .i64 a0_0, .int .i64 a0_1, .bool true] 23 ?_; intro gb218 hg w6 hbox hb; have BK218 := Aside0.mk (hbox); have GW218 := bG HB hg; have GE218 := bG HB hg; replace HB := bS HB hb; clear hb hbox hg; obtain ⟨hcz7_0, hcz7_1, hcz7_2, hfz7_0, hfz7_1, hfz7_2⟩ := bK3 (w := w6) BK218)); try go_wp2_with (first | ((with_reducible refine gate_dst (N := 1) rfl ?_); refine bE 1 #[.int .i64 a0_0, .int .i64 a0_1, .bool true] 23 ?_; intro gb218 hg w6 hbox hb; have BK218 := Aside0.mk (hbox); have GW218 := bG HB hg; have GE218 := bG HB hg; replace HB := bS HB hb; clear hb hbox hg; obtain ⟨hcz7_0, hcz7_1, hcz7_2, hfz7_0, hfz7_1, hfz7_2⟩ := bK3 (w := w6) BK218)))
   go_ret
   exact ⟨rR, bZ HB⟩
 ·replace c2 := Bool.eq_false_iff.mpr c2
  subst c2
  rw [if_neg (show ¬ (false = true) by decide)] at H
  replace H := Option.bind_eq_some_iff.mp H
  obtain ⟨t219, A80, H⟩ := H
  have A8 := Aside0.mk A80
  clear A80
  by_cases c9 : t219 = true
  ·subst c9
   rw [if_pos rfl] at H
   replace H := Option.bind_eq_some_iff.mp H
   obtain ⟨t220, A100, H⟩ := H
   have A10 := Aside0.mk A100
   clear A100
   by_cases c11 : t220 = true
   ·subst c11
    rw [if_pos rfl] at H
    replace H := Option.bind_eq_some_iff.mp H
    obtain ⟨t221, A120, H⟩ := H
    have A12 := Aside0.mk A120
    clear A120
    replace H := Option.bind_eq_some_iff.mp H
    obtain ⟨t222, A130, H⟩ := H
    have A13 := Aside0.mk A130
    clear A130
    obtain rfl := Option.some.inj H
    go_enter Tryd.func97, Tryd.ntmps97
    go_wp2_with (first | ((with_reducible refine gate_dst (N := 1) rfl ?_); refine bE 1 #[.int .i64 a0_0, .int .i64 a0_1, .bool false] 23 ?_; intro gb218 hg w14 hbox hb; have BK218 := Aside0.mk (hbox); have GW218 := bG HB hg; have GE218 := bG HB hg; replace HB := bS HB hb; clear hb hbox hg; obtain ⟨hcz15_0, hcz15_1, hcz15_2, hfz15_0, hfz15_1, hfz15_2⟩ := bK3 (w := w14) BK218) | (go_at_call 124; (with_reducible refine (impl_FpOk.calls a0_0 true _ A8.out).mono ?_); rintro e w' ⟨rfl, ⟨nd, rfl⟩⟩; (try exact tD)) | (go_at_call 124; (with_reducible refine (impl_FpOk.calls a0_1 true _ A10.out).mono ?_); rintro e w' ⟨rfl, ⟨nd, rfl⟩⟩; (try exact tD)) | (go_at_call 95; (with_reducible refine (impl_FpMul.calls a0_1 a0_1 t221 _ A12.out).mono ?_); rintro e w' ⟨rfl, ⟨nd, rfl⟩⟩; (try exact tD)) | (go_at_call 50; (with_reducible refine (impl_curveAt.calls a0_0 t222 _ A13.out).mono ?_); rintro e w' ⟨rfl, ⟨nd, rfl⟩⟩; (try exact tD)))
    repeat (go_quiet (first | ((with_reducible refine gate_dst (N := 1) rfl ?_); refine bE 1 #[.int .i64 a0_0, .int .i64 a0_1, .bool false] 23 ?_; intro gb218 hg w14 hbox hb; have BK218 := Aside0.mk (hbox); have GW218 := bG HB hg; have GE218 := bG HB hg; replace HB := bS HB hb; clear hb hbox hg; obtain ⟨hcz15_0, hcz15_1, hcz15_2, hfz15_0, hfz15_1, hfz15_2⟩ := bK3 (w := w14) BK218) | (go_at_call 124; (with_reducible refine (impl_FpOk.calls a0_0 true _ A8.out).mono ?_); rintro e w' ⟨rfl, ⟨nd, rfl⟩⟩; (try exact tD)) | (go_at_call 124; (with_reducible refine (impl_FpOk.calls a0_1 true _ A10.out).mono ?_); rintro e w' ⟨rfl, ⟨nd, rfl⟩⟩; (try exact tD)) | (go_at_call 95; (with_reducible refine (impl_FpMul.calls a0_1 a0_1 t221 _ A12.out).mono ?_); rintro e w' ⟨rfl, ⟨nd, rfl⟩⟩; (try exact tD)) | (go_at_call 50; (with_reducible refine (impl_curveAt.calls a0_0 t222 _ A13.out).mono ?_); rintro e w' ⟨rfl, ⟨nd, rfl⟩⟩; (try exact tD))); try go_wp2_with (first | ((with_reducible refine gate_dst (N := 1) rfl ?_); refine bE 1 #[.int .i64 a0_0, .int .i64 a0_1, .bool false] 23 ?_; intro gb218 hg w14 hbox hb; have BK218 := Aside0.mk (hbox); have GW218 := bG HB hg; have GE218 := bG HB hg; replace HB := bS HB hb; clear hb hbox hg; obtain ⟨hcz15_0, hcz15_1, hcz15_2, hfz15_0, hfz15_1, hfz15_2⟩ := bK3 (w := w14) BK218) | (go_at_call 124; (with_reducible refine (impl_FpOk.calls a0_0 true _ A8.out).mono ?_); rintro e w' ⟨rfl, ⟨nd, rfl⟩⟩; (try exact tD)) | (go_at_call 124; (with_reducible refine (impl_FpOk.calls a0_1 true _ A10.out).mono ?_); rintro e w' ⟨rfl, ⟨nd, rfl⟩⟩; (try exact tD)) | (go_at_call 95; (with_reducible refine (impl_FpMul.calls a0_1 a0_1 t221 _ A12.out).mono ?_); rintro e w' ⟨rfl, ⟨nd, rfl⟩⟩; (try exact tD)) | (go_at_call 50; (with_reducible refine (impl_curveAt.calls a0_0 t222 _ A13.out).mono ?_); rintro e w' ⟨rfl, ⟨nd, rfl⟩⟩; (try exact tD))))
    go_ret
    exact ⟨rR, bZ HB⟩
   ·replace c11 := Bool.eq_false_iff.mpr c11
    subst c11
    rw [if_neg (show ¬ (false = true) by decide)] at H
    obtain rfl := Option.some.inj H
    go_enter Tryd.func97, Tryd.ntmps97
    go_wp2_with (first | ((with_reducible refine gate_dst (N := 1) rfl ?_); refine bE 1 #[.int .i64 a0_0, .int .i64 a0_1, .bool false] 23 ?_; intro gb218 hg w16 hbox hb; have BK218 := Aside0.mk (hbox); have GW218 := bG HB hg; have GE218 := bG HB hg; replace HB := bS HB hb; clear hb hbox hg; obtain ⟨hcz17_0, hcz17_1, hcz17_2, hfz17_0, hfz17_1, hfz17_2⟩ := bK3 (w := w16) BK218) | (go_at_call 124; (with_reducible refine (impl_FpOk.calls a0_0 true _ A8.out).mono ?_); rintro e w' ⟨rfl, ⟨nd, rfl⟩⟩; (try exact tD)) | (go_at_call 124; (with_reducible refine (impl_FpOk.calls a0_1 false _ A10.out).mono ?_); rintro e w' ⟨rfl, ⟨nd, rfl⟩⟩; (try exact tD)))
    repeat (go_quiet (first | ((with_reducible refine gate_dst (N := 1) rfl ?_); refine bE 1 #[.int .i64 a0_0, .int .i64 a0_1, .bool false] 23 ?_; intro gb218 hg w16 hbox hb; have BK218 := Aside0.mk (hbox); have GW218 := bG HB hg; have GE218 := bG HB hg; replace HB := bS HB hb; clear hb hbox hg; obtain ⟨hcz17_0, hcz17_1, hcz17_2, hfz17_0, hfz17_1, hfz17_2⟩ := bK3 (w := w16) BK218) | (go_at_call 124; (with_reducible refine (impl_FpOk.calls a0_0 true _ A8.out).mono ?_); rintro e w' ⟨rfl, ⟨nd, rfl⟩⟩; (try exact tD)) | (go_at_call 124; (with_reducible refine (impl_FpOk.calls a0_1 false _ A10.out).mono ?_); rintro e w' ⟨rfl, ⟨nd, rfl⟩⟩; (try exact tD))); try go_wp2_with (first | ((with_reducible refine gate_dst (N := 1) rfl ?_); refine bE 1 #[.int .i64 a0_0, .int .i64 a0_1, .bool false] 23 ?_; intro gb218 hg w16 hbox hb; have BK218 := Aside0.mk (hbox); have GW218 := bG HB hg; have GE218 := bG HB hg; replace HB := bS HB hb; clear hb hbox hg; obtain ⟨hcz17_0, hcz17_1, hcz17_2, hfz17_0, hfz17_1, hfz17_2⟩ := bK3 (w := w16) BK218) | (go_at_call 124; (with_reducible refine (impl_FpOk.calls a0_0 true _ A8.out).mono ?_); rintro e w' ⟨rfl, ⟨nd, rfl⟩⟩; (try exact tD)) | (go_at_call 124; (with_reducible refine (impl_FpOk.calls a0_1 false _ A10.out).mono ?_); rintro e w' ⟨rfl, ⟨nd, rfl⟩⟩; (try exact tD))))
    go_ret
    exact ⟨rR, bZ HB⟩
  ·replace c9 := Bool.eq_false_iff.mpr c9
   subst c9
   rw [if_neg (show ¬ (false = true) by decide)] at H
   obtain rfl := Option.some.inj H
   go_enter Tryd.func97, Tryd.ntmps97
   go_wp2_with (first | ((with_reducible refine gate_dst (N := 1) rfl ?_); refine bE 1 #[.int .i64 a0_0, .int .i64 a0_1, .bool false] 23 ?_; intro gb218 hg w18 hbox hb; have BK218 := Aside0.mk (hbox); have GW218 := bG HB hg; have GE218 := bG HB hg; replace HB := bS HB hb; clear hb hbox hg; obtain ⟨hcz19_0, hcz19_1, hcz19_2, hfz19_0, hfz19_1, hfz19_2⟩ := bK3 (w := w18) BK218) | (go_at_call 124; (with_reducible refine (impl_FpOk.calls a0_0 false _ A8.out).mono ?_); rintro e w' ⟨rfl, ⟨nd, rfl⟩⟩; (try exact tD)))
   repeat (go_quiet (first | ((with_reducible refine gate_dst (N := 1) rfl ?_); refine bE 1 #[.int .i64 a0_0, .int .i64 a0_1, .bool false] 23 ?_; intro gb218 hg w18 hbox hb; have BK218 := Aside0.mk (hbox); have GW218 := bG HB hg; have GE218 := bG HB hg; replace HB := bS HB hb; clear hb hbox hg; obtain ⟨hcz19_0, hcz19_1, hcz19_2, hfz19_0, hfz19_1, hfz19_2⟩ := bK3 (w := w18) BK218) | (go_at_call 124; (with_reducible refine (impl_FpOk.calls a0_0 false _ A8.out).mono ?_); rintro e w' ⟨rfl, ⟨nd, rfl⟩⟩; (try exact tD))); try go_wp2_with (first | ((with_reducible refine gate_dst (N := 1) rfl ?_); refine bE 1 #[.int .i64 a0_0, .int .i64 a0_1, .bool false] 23 ?_; intro gb218 hg w18 hbox hb; have BK218 := Aside0.mk (hbox); have GW218 := bG HB hg; have GE218 := bG HB hg; replace HB := bS HB hb; clear hb hbox hg; obtain ⟨hcz19_0, hcz19_1, hcz19_2, hfz19_0, hfz19_1, hfz19_2⟩ := bK3 (w := w18) BK218) | (go_at_call 124; (with_reducible refine (impl_FpOk.calls a0_0 false _ A8.out).mono ?_); rintro e w' ⟨rfl, ⟨nd, rfl⟩⟩; (try exact tD))))
   go_ret
   exact ⟨rR, bZ HB⟩
/-! ### impl_FpSub: function 126 -/
def impl_FpSub.f (a0 : Int) (a1 : Int) : Option (Int) := (impl_FpOf.f a0).bind fun t223 => ((impl_FpOf.f a1).bind fun t224 => ((impl_FpOf.f (wrap64 (t223 - t224))).bind fun t225 => (some t225)))
set_option maxHeartbeats 8000000 in
set_option maxRecDepth 100000 in
theorem impl_FpSub.calls (a0 : Int) (a1 : Int) (r : Int) (w : World) (h : impl_FpSub.f a0 a1 = some r) :
  Calls Tryd.prog 126 #[.int .i64 a0, .int .i64 a1] w fun e w' => e = .returned (.int .i64 r) ∧ Drawn0 w w' := by
 have H : ((impl_FpOf.f a0).bind fun t223 => ((impl_FpOf.f a1).bind fun t224 => ((impl_FpOf.f (wrap64 (t223 - t224))).bind fun t225 => (some t225)))) = some r := h
 clear h
 replace H := Option.bind_eq_some_iff.mp H
 obtain ⟨t223, A30, H⟩ := H
 have A3 := Aside0.mk A30
 clear A30
 replace H := Option.bind_eq_some_iff.mp H
 obtain ⟨t224, A40, H⟩ := H
 have A4 := Aside0.mk A40
 clear A40
 replace H := Option.bind_eq_some_iff.mp H
 obtain ⟨t225, A50, H⟩ := H
 have A5 := Aside0.mk A50
 clear A50
 obtain rfl := Option.some.inj H
 go_enter Tryd.func126, Tryd.ntmps126
 go_wp2_with (first | ((with_reducible refine gate_callee (f := 48) rfl ?_); refine gL (some 6) Tryd.func48 #[.int .i64 a0] ?_; (with_reducible refine (impl_FpOf.calls a0 t223 _ A3.out).mono ?_); rintro e w' ⟨rfl, ⟨nd, rfl⟩⟩; refine ⟨_, rfl, ?_⟩) | ((with_reducible refine gate_callee (f := 48) rfl ?_); refine gL (some 8) Tryd.func48 #[.int .i64 a1] ?_; (with_reducible refine (impl_FpOf.calls a1 t224 _ A4.out).mono ?_); rintro e w' ⟨rfl, ⟨nd, rfl⟩⟩; refine ⟨_, rfl, ?_⟩) | ((with_reducible refine gate_callee (f := 48) rfl ?_); refine gL (some 10) Tryd.func48 #[.int .i64 (wrap64 (t223 - t224))] ?_; (with_reducible refine (impl_FpOf.calls (wrap64 (t223 - t224)) t225 _ A5.out).mono ?_); rintro e w' ⟨rfl, ⟨nd, rfl⟩⟩; refine ⟨_, rfl, ?_⟩))
 go_ret
 exact ⟨rS, rD⟩
/-! ### impl_powerMod: function 94 -/
def impl_powerMod.l0 : Nat → Int → Int → Int → Int → Option (Int)
 | 0, _, _, _, _ => none
 | k + 1, x0, x1, x2, x7 => if x1 > 0 then (if (Int.tmod x1 2) = 1 then (if x2 = 0 then (none) else (impl_powerMod.l0 k (Int.tmod (wrap64 (x0 * x0)) x2) (wrap64 (Int.tdiv x1 2)) x2 (Int.tmod (wrap64 (x7 * x0)) x2))) else (if x2 = 0 then (none) else (impl_powerMod.l0 k (Int.tmod (wrap64 (x0 * x0)) x2) (wrap64 (Int.tdiv x1 2)) x2 x7))) else (some x7)
def impl_powerMod.f (k : Nat) (a0 : Int) (a1 : Int) (a2 : Int) : Option (Int) := (impl_remainder.f a0 a2).bind fun t204 => (impl_powerMod.l0 k t204 a1 a2 1)
theorem impl_powerMod.mono_l : ∀ k, (∀ y0 y1 y2 y3, LeO (impl_powerMod.l0 k y0 y1 y2 y3) (impl_powerMod.l0 (k + 1) y0 y1 y2 y3))
 | 0 => fun _ _ _ _ r h => by simp [impl_powerMod.l0] at h
 | k + 1 => by
  have ih0 := impl_powerMod.mono_l k
  ·intro y0 y1 y2 y3
   unfold impl_powerMod.l0
   repeat' first
   | (with_reducible exact ih0 _ _ _ _)
   | (with_reducible exact LeO.refl _)
   | (with_reducible exact LeO.none _)
   | (with_reducible refine LeO.ite ?_ ?_)
   | (with_reducible refine LeO.bind ?_ (fun _ => ?_))
   | exact ih0 _ _ _ _
   | exact LeO.none _
   | refine LeO.ite ?_ ?_
   | refine LeO.bind ?_ (fun _ => ?_)
theorem impl_powerMod.mono : ∀ a0 a1 a2 k, LeO (impl_powerMod.f k a0 a1 a2) (impl_powerMod.f (k + 1) a0 a1 a2) := by
 intro a0 a1 a2 k
 have ih0 := impl_powerMod.mono_l k
 unfold impl_powerMod.f
 repeat' first
   | (with_reducible exact ih0 _ _ _ _)
   | (with_reducible exact LeO.refl _)
   | (with_reducible exact LeO.none _)
   | (with_reducible refine LeO.ite ?_ ?_)
   | (with_reducible refine LeO.bind ?_ (fun _ => ?_))
   | exact ih0 _ _ _ _
   | exact LeO.none _
   | refine LeO.ite ?_ ?_
   | refine LeO.bind ?_ (fun _ => ?_)
set_option maxHeartbeats 8000000 in
set_option maxRecDepth 100000 in
theorem impl_powerMod.calls (k : Nat) (a0 : Int) (a1 : Int) (a2 : Int) (r : Int) (w : World) (h : impl_powerMod.f k a0 a1 a2 = some r) :
  Calls Tryd.prog 94 #[.int .i64 a0, .int .i64 a1, .int .i64 a2] w fun e w' => e = .returned (.int .i64 r) ∧ Drawn0 w w' := by
 have H : ((impl_remainder.f a0 a2).bind fun t204 => (impl_powerMod.l0 k t204 a1 a2 1)) = some r := h
 clear h
 replace H := Option.bind_eq_some_iff.mp H
 obtain ⟨t204, A40, H⟩ := H
 have A4 := Aside0.mk A40
 clear A40
 have H' := Aside0.mk H
 clear H
 go_enter Tryd.func94, Tryd.ntmps94
 go_wp2_with (first | ((with_reducible refine gate_callee (f := 76) rfl ?_); refine gL (some 10) Tryd.func76 #[.int .i64 a0, .int .i64 a2] ?_; (with_reducible refine (impl_remainder.calls a0 a2 t204 _ A4.out).mono ?_); rintro e w' ⟨rfl, ⟨nd, rfl⟩⟩; refine ⟨_, rfl, ?_⟩))
 go_loopg [0, 1, 7] k (fun kq v0 v1 v7 w' => ∃ (x0_1 : Int) (x1_1 : Int) (x7_1 : Int), v0 = .int .i64 x0_1 ∧ v1 = .int .i64 x1_1 ∧ v7 = .int .i64 x7_1 ∧ Aside0 (impl_powerMod.l0 kq x0_1 x1_1 a2 x7_1 = some r) ∧ Aside0 (kq ≤ k) ∧ Drawn0 w w')
 case atStart => exact ⟨(t204), (a1), (1), rS, rS, rS, H', ⟨Nat.le_refl _⟩, by repeat (first | exact Drawn0.refl _ | apply Drawn0.step)⟩
 case round =>
  clear H'
  try clear p2
  obtain ⟨x0_1, x1_1, x7_1, rfl, rfl, rfl, HA, HK1, ⟨m1, rfl⟩⟩ := hrel
  cases gk with
  | zero => exact absurd HA.out (by simp [impl_powerMod.l0])
  | succ k1 =>
   have H := HA.out
   clear HA
   simp only [impl_powerMod.l0] at H
   by_cases c5 : x1_1 > 0
   ·rw [if_pos c5] at H
    have c5b0 : decide (0 < x1_1) = true := decide_eq_true c5
    clear c5
    by_cases c6 : (Int.tmod x1_1 2) = 1
    ·rw [if_pos c6] at H
     have c6b0 : ((Int.tmod x1_1 2) == 1) = true := beq_iff_eq.mpr c6
     have c6b1 : ((Int.tmod x1_1 2) != 1) = false := bne_eq_false_iff_eq.mpr c6
     clear c6
     by_cases c7 : a2 = 0
     ·rw [if_pos c7] at H
      exact absurd H (by simp)
     ·rw [if_neg c7] at H
      have c7b0 : (a2 == 0) = false := beq_eq_false_iff_ne.mpr c7
      have c7b1 : (a2 != 0) = true := bne_iff_ne.mpr c7
      have H' := Aside0.mk H
      clear H
      go_wp2
      go_roundg k1
      case measure => have := HK1.out; omega
      case rel => exact ⟨(Int.tmod (wrap64 (x0_1 * x0_1)) a2), (wrap64 (Int.tdiv x1_1 2)), (Int.tmod (wrap64 (x7_1 * x0_1)) a2), rS, rS, rS, H', ⟨by have := HK1.out; omega⟩, by repeat (first | exact Drawn0.refl _ | apply Drawn0.step)⟩
    ·rw [if_neg c6] at H
     have c6b0 : ((Int.tmod x1_1 2) == 1) = false := beq_eq_false_iff_ne.mpr c6
     have c6b1 : ((Int.tmod x1_1 2) != 1) = true := bne_iff_ne.mpr c6
     by_cases c8 : a2 = 0
     ·rw [if_pos c8] at H
      exact absurd H (by simp)
     ·rw [if_neg c8] at H
      have c8b0 : (a2 == 0) = false := beq_eq_false_iff_ne.mpr c8
      have c8b1 : (a2 != 0) = true := bne_iff_ne.mpr c8
      have H' := Aside0.mk H
      clear H
      go_wp2
      go_roundg k1
      case measure => have := HK1.out; omega
      case rel => exact ⟨(Int.tmod (wrap64 (x0_1 * x0_1)) a2), (wrap64 (Int.tdiv x1_1 2)), (x7_1), rS, rS, rS, H', ⟨by have := HK1.out; omega⟩, by repeat (first | exact Drawn0.refl _ | apply Drawn0.step)⟩
   ·rw [if_neg c5] at H
    have c5b0 : decide (0 < x1_1) = false := decide_eq_false c5
    clear c5
    obtain rfl := Option.some.inj H
    go_wp2
    go_ret
    exact ⟨rS, rD⟩
/-! ### impl_FpInv: function 134 -/
def impl_FpInv.f (k : Nat) (a0 : Int) : Option (Int) := (impl_powerMod.f k a0 12105 12107).bind fun t226 => (some t226)
theorem impl_FpInv.mono : ∀ a0 k, LeO (impl_FpInv.f k a0) (impl_FpInv.f (k + 1) a0) := by
 intro a0 k
 unfold impl_FpInv.f
 repeat' first
   | (with_reducible exact impl_powerMod.mono _ _ _ _)
   | (with_reducible exact LeO.refl _)
   | (with_reducible exact LeO.none _)
   | (with_reducible refine LeO.ite ?_ ?_)
   | (with_reducible refine LeO.bind ?_ (fun _ => ?_))
   | exact impl_powerMod.mono _ _ _ _
   | exact LeO.none _
   | refine LeO.ite ?_ ?_
   | refine LeO.bind ?_ (fun _ => ?_)
set_option maxHeartbeats 8000000 in
set_option maxRecDepth 100000 in
theorem impl_FpInv.calls (k : Nat) (a0 : Int) (r : Int) (w : World) (h : impl_FpInv.f k a0 = some r) :
  Calls Tryd.prog 134 #[.int .i64 a0] w fun e w' => e = .returned (.int .i64 r) ∧ Drawn0 w w' := by
 have H : ((impl_powerMod.f k a0 12105 12107).bind fun t226 => (some t226)) = some r := h
 clear h
 replace H := Option.bind_eq_some_iff.mp H
 obtain ⟨t226, A20, H⟩ := H
 have A2 := Aside0.mk A20
 clear A20
 obtain rfl := Option.some.inj H
 go_enter Tryd.func134, Tryd.ntmps134
 go_wp2_with (first | ((with_reducible refine gate_callee (f := 94) rfl ?_); refine gL (some 4) Tryd.func94 #[.int .i64 a0, .int .i64 12105, .int .i64 12107] ?_; (with_reducible refine (impl_powerMod.calls k a0 12105 12107 t226 _ A2.out).mono ?_); rintro e w' ⟨rfl, ⟨nd, rfl⟩⟩; refine ⟨_, rfl, ?_⟩))
 go_ret
 exact ⟨rS, rD⟩
end Go.Proofs.YtkdmplfldfagnaaDoor.Pf
end
