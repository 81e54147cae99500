/- What is proved here: part 4 of 5 of the proof of the given statement FnCommitteesTold: the contracts of the Go functions that it reaches, the plain facts on lists and numbers, and (in the last part) the statement itself. No conditions beyond the given ones. -/
import Derived.Test.YtkdmplfldfagnaaGreatDoorMFnCommitteesToldc
import Derived.Test.YtkdmplfldfagnaaGreatDoorMFnCommitteesToldwSlim
import Derived.ArgAppend
import Derived.Test.YtkdmplfldfagnaaGreatDoorMFnCommitteesTolda
import Derived.Test.YtkdmplfldfagnaaGreatDoorMFnCommitteesToldb

section
namespace Go.Proofs.YtkdmplfldfagnaaGreatDoor.Kp
open Go.RowKit Go.Proofs.YtkdmplfldfagnaaGreatDoorW.PrintWords Go.Proofs.YtkdmplfldfagnaaGreatDoorW.PrintLast Go.Proofs.YtkdmplfldfagnaaGreatDoorW.PrintMore
set_option linter.unusedVariables false
set_option linter.unusedSimpArgs false
set_option maxHeartbeats 8000000
set_option maxRecDepth 100000
section
variable {P : Program} {ops : Array Oper} {rest : List Oper} {o : Oper} {a : Act} {w : World} {Q : Exit → Act → World → Prop}
theorem store_row_event (hgd : o.guard = none) (ty : TypeId) (x y : Operand) (ho : o.op = .store ty x y)
    (g : Nat) (cells : Array Value) (hx : a.eval x = .pointer (some ⟨g, 0, none⟩)) (hy : a.eval y = .agg cells)
    (t : TypeId) (old : Array Value) (hg : w.heap[g]? = some (.cells old t (0, 0))) (hi : (P.info? ty).map (·.size) = some cells.size)
    (hold : old.size = cells.size) (h1 : cells.all (·.oneCell') = true)
    (h : ∀ w1, w1.heap[g]? = some (.cells cells t (0, 0)) → (∀ k, k ≠ g → w1.heap[k]? = w.heap[k]?) → (∀ B w0, Below B w0 w → B ≤ g → Below B w0 w1) → wpList P ops Q rest (a.put o.dst undef) w1) : wpList P ops Q (o :: rest) a w :=
  wpList_store_row hgd ty x y ho g cells hx hy t old hg hi hold h1 (h _ (setRow_heap w g old cells t (0, 0) hg) (fun k hk => setRow_other w g k cells hk) (fun _ _ hb hB => below_setRow hb hB cells))
end
theorem built0_134 : Tryz.prog.built 134 [] = some (ue (List.replicate 5 0)) := by kernel_rfl
theorem built0_94 : Tryz.prog.built 94 [] = some (ue (List.replicate 25 0)) := by kernel_rfl
def tn (v k : Int) : Int := Go.bits .or .u64 (shl .u64 v k) (shr .u64 v (IntKind.u64.wrap (64 - k)))
def tok (k : Int) : Bool := decide (0 ≤ k) && decide (0 ≤ (IntKind.u64.wrap (64 - k)))
theorem turn_f {v k : Int} (h : tok k = true) : spec_l03Turn.f v k = some (tn v k) := by
  unfold tok at h
  simp only [Bool.and_eq_true, decide_eq_true_eq] at h
  unfold spec_l03Turn.f tn
  rw [if_pos h.1, if_pos h.2]
theorem tok_one : tok 1 = true := by decide +kernel
theorem tok_turns : ∀ i : Fin 25, tok (ga turnsL i.val) = true := by decide +kernel
def ddS (c : List Int) (x : Nat) : Int := xr (ga c ((x + 4) % 5)) (tn (ga c ((x + 1) % 5)) 1)
def batS (s c : List Int) (y x : Nat) : Int := if ga turnsL (x + 5 * y) > 0 then tn (xr (ga s (x + 5 * y)) (ddS c x)) (ga turnsL (x + 5 * y)) else xr (ga s (x + 5 * y)) (ddS c x)
def bstS (s c : List Int) : Nat → List Int
  | 0 => List.replicate 25 0
  | m + 1 => (bstS s c m).set (m % 5 + 5 * ((2 * (m / 5) + 3 * (m % 5)) % 5)) (batS s c (m % 5) (m / 5))
theorem bstS_len (s c : List Int) (k : Nat) : (bstS s c k).length = 25 := by
  induction k with
  | zero => rfl
  | succ k ih => simp [bstS, ih]
theorem bstS_succ (s c : List Int) {y x : Nat} (h : y < 5) : bstS s c (5 * x + (y + 1)) = (bstS s c (5 * x + y)).set (y + 5 * ((2 * x + 3 * y) % 5)) (batS s c y x) := by
  rw [show 5 * x + (y + 1) = (5 * x + y) + 1 by omega]
  simp only [bstS]
  rw [show (5 * x + y) / 5 = x by omega, show (5 * x + y) % 5 = y by omega]
def chiS (b : List Int) (y x : Nat) : Int := xr (ga b (x + 5 * y)) (Go.bits .and .u64 (xr (ga b ((x + 1) % 5 + 5 * y)) 18446744073709551615) (ga b ((x + 2) % 5 + 5 * y)))
def sstS (s b : List Int) : Nat → List Int
  | 0 => s
  | m + 1 => (sstS s b m).set m (chiS b (m / 5) (m % 5))
theorem sstS_len (s b : List Int) (k : Nat) : (sstS s b k).length = s.length := by
  induction k with
  | zero => rfl
  | succ k ih => simp [sstS, ih]
theorem sstS_succ (s b : List Int) {y x : Nat} (h : x < 5) : sstS s b (5 * y + (x + 1)) = (sstS s b (5 * y + x)).set (x + 5 * y) (chiS b y x) := by
  rw [show 5 * y + (x + 1) = (5 * y + x) + 1 by omega]
  simp only [sstS]
  rw [show (5 * y + x) / 5 = y by omega, show (5 * y + x) % 5 = x by omega, show 5 * y + x = x + 5 * y by omega]
def roundS (s : List Int) (rc : Int) : List Int :=
  let t := sstS s (bstS s (cst s 5) 25) 25
  t.set 0 (xr (ga t 0) rc)
theorem roundS_len (s : List Int) (rc : Int) : (roundS s rc).length = s.length := by simp [roundS, sstS_len]
theorem ue_size (xs : List Int) : (ue xs).size = xs.length := by unfold ue; rw [List.size_toArray, List.length_map]
def spec_l03Round.T5 : Bool × List (List Nat × List Nat) := (true, [([], []), ([], []), ([1], [1]), ([2], [2]), ([], []), ([4], [4]), ([5], [5]), ([6], [6]), ([3, 7], [3, 7]), ([], []), ([9], [9]), ([10], [10]), ([11], [11]), ([8, 12], [8, 12]), ([], []), ([14], [14]), ([15], [15]), ([16], [16]), ([13, 17], [13, 17]), ([], []), ([19], [19]), ([20], [20]), ([21], [21]), ([18, 22], [18, 22]), ([0, 0, 1, 2, 3, 4, 5, 6, 7, 8, 9, 10, 11, 12, 13, 14, 15, 16, 17, 18, 19, 20, 21, 22, 23], [0]), ([24, 23, 0, 1, 2, 3, 4, 5, 6, 7, 8, 9, 10, 11, 12, 13, 14, 15, 16, 17, 18, 19, 20, 21, 22, 23], [23, 24])])
def spec_l03Round.B5 : List Nat := [0, 0, 2, 6, 0, 16, 48, 112, 254, 0, 512, 1536, 3584, 8190, 0, 16384, 49152, 114688, 262142, 0, 524288, 1572864, 3670016, 8388606, 16777215, 33554431]
theorem spec_l03Round.tab5 : rtab .any (opsOf Tryz.f139 5) = spec_l03Round.T5 := by kernel_rfl
theorem spec_l03Round.bits5 : waitsOk spec_l03Round.T5.2 spec_l03Round.B5 = true := by kernel_rfl
def spec_l03Round.T10 : Bool × List (List Nat × List Nat) := (true, [([], []), ([0], [0]), ([1], [1]), ([2], [2]), ([3], [3]), ([], []), ([5], [5]), ([6], [6]), ([7], [7]), ([8], [8]), ([9], [9]), ([4, 10], [4, 10]), ([11, 10, 0, 1, 2, 3, 4, 5, 6, 7, 8, 9, 10, 11], [11])])
def spec_l03Round.B10 : List Nat := [0, 1, 3, 7, 15, 0, 32, 96, 224, 480, 992, 2047, 4095]
theorem spec_l03Round.tab10 : rtab .any (opsOf Tryz.f139 10) = spec_l03Round.T10 := by kernel_rfl
theorem spec_l03Round.bits10 : waitsOk spec_l03Round.T10.2 spec_l03Round.B10 = true := by kernel_rfl
def spec_l03Round.T25 : Bool × List (List Nat × List Nat) := (true, [([], []), ([], []), ([1], [1]), ([0, 2], [0, 2]), ([], []), ([], []), ([5], [5]), ([4, 6], [4, 6]), ([7], [7]), ([8], [8]), ([], []), ([10], [10]), ([11], [11]), ([], []), ([13], [13]), ([12, 14], [12, 14]), ([15], [15]), ([16], [16]), ([17], [17]), ([], []), ([19], [19]), ([20], [20]), ([], []), ([22], [22]), ([21, 23], [21, 23]), ([24], [24]), ([25], [25]), ([18, 26], [18, 26]), ([9, 27], [9, 27]), ([3, 0, 1, 2, 3, 4, 5, 6, 7, 8, 9, 10, 11, 12, 13, 14, 15, 16, 17, 18, 19, 20, 21, 22, 23, 24, 25, 26, 27, 28], [3]), ([29, 28, 0, 1, 2, 3, 4, 5, 6, 7, 8, 9, 10, 11, 12, 13, 14, 15, 16, 17, 18, 19, 20, 21, 22, 23, 24, 25, 26, 27, 28], [28, 29])])
def spec_l03Round.B25 : List Nat := [0, 0, 2, 7, 0, 0, 32, 112, 240, 496, 0, 1024, 3072, 0, 8192, 31744, 64512, 130048, 261120, 0, 524288, 1572864, 0, 4194304, 16252928, 33030144, 66584576, 134216704, 268435440, 536870911, 1073741823]
theorem spec_l03Round.tab25 : rtab .any (opsOf Tryz.f139 25) = spec_l03Round.T25 := by kernel_rfl
theorem spec_l03Round.bits25 : waitsOk spec_l03Round.T25.2 spec_l03Round.B25 = true := by kernel_rfl
theorem spec_l03Round.calls (s : List Int) (hs : s.length = 25) (rc : Int) (w : World) :
    Calls Tryz.prog 139 #[.agg (ue s), .agg (ue turnsL), .int .u64 rc] w fun e w' => e = .returned (.agg (ue (roundS s rc))) ∧ Below w.heap.size w w' := by
  have HB := Aside0.mk (Below.refl w.heap.size w)
  have HS := Aside0.mk hs
  clear hs
  go_enter Tryz.func139, Tryz.ntmps139
  go_wp2_with (first | ((with_reducible refine gate_dst (N := 3) rfl ?_); refine box_event ?hg (N := 3) ?hd (cs := ue s) (t := 94) ?hr ?_; (case hd => rfl); (case hg => rfl); (case hr => first | (go_simp; done) | (go_simp; rfl)); intro gs hg w1_ hbox hb; have n0_ := Aside0.mk (below_then (show Below w.heap.size w _ by repeat (first | exact HB.out | apply Below.drew | apply pw_below_drewN)) (Below.size (show Below w.heap.size w _ by repeat (first | exact HB.out | apply Below.drew | apply pw_below_drewN))) hb); have n1_ := Aside0.mk (show w.heap.size ≤ gs by rw [hg]; exact (Below.size (show Below w.heap.size w _ by repeat (first | exact HB.out | apply Below.drew | apply pw_below_drewN)))); have BKs := Aside0.mk hbox; clear  HB; have HB := n0_; have GEs := n1_; clear n0_ n1_ hb hbox hg) | ((with_reducible refine gate_dst (N := 4) rfl ?_); refine box_event ?hg (N := 4) ?hd (cs := ue turnsL) (t := 117) ?hr ?_; (case hd => rfl); (case hg => rfl); (case hr => first | (go_simp; done) | (go_simp; rfl)); intro go hg w1_ hbox hb; have n0_ := Aside0.mk (blk_below (by (with_reducible repeat (first | refine blk_drewN ?_ _ | refine blk_drew ?_)); exact BKs.out) hb); have n1_ := Aside0.mk (below_then (show Below w.heap.size w _ by repeat (first | exact HB.out | apply Below.drew | apply pw_below_drewN | refine Below.setCell ?_ GEs.out _)) (Below.size (show Below w.heap.size w _ by repeat (first | exact HB.out | apply Below.drew | apply pw_below_drewN | refine Below.setCell ?_ GEs.out _))) hb); have n2_ := Aside0.mk (show w.heap.size ≤ go by rw [hg]; exact (Below.size (show Below w.heap.size w _ by repeat (first | exact HB.out | apply Below.drew | apply pw_below_drewN | refine Below.setCell ?_ GEs.out _)))); have n3_ := Aside0.mk (show gs ≠ go by rw [hg]; exact Nat.ne_of_lt (blk_lt (o := .cells _ _ _) (by (with_reducible repeat (first | refine blk_drewN ?_ _ | refine blk_drew ?_)); exact BKs.out))); have BKo := Aside0.mk hbox; clear BKs HB; have BKs := n0_; have HB := n1_; have GEo := n2_; have NEso := n3_; clear n0_ n1_ n2_ n3_ hb hbox hg) | ((with_reducible refine gate_dst (N := 6) rfl ?_); refine box_event ?hg (N := 6) ?hd (cs := ue (List.replicate 25 0)) (t := 94) ?hr ?_; (case hd => rfl); (case hg => rfl); (case hr => first | (go_simp; done) | (go_simp; rfl)); intro gr hg w1_ hbox hb; have n0_ := Aside0.mk (blk_below (by (with_reducible repeat (first | refine blk_drewN ?_ _ | refine blk_drew ?_)); exact BKs.out) hb); have n1_ := Aside0.mk (blk_below (by (with_reducible repeat (first | refine blk_drewN ?_ _ | refine blk_drew ?_)); exact BKo.out) hb); have n2_ := Aside0.mk (below_then (show Below w.heap.size w _ by repeat (first | exact HB.out | apply Below.drew | apply pw_below_drewN | refine Below.setCell ?_ GEs.out _ | refine Below.setCell ?_ GEo.out _)) (Below.size (show Below w.heap.size w _ by repeat (first | exact HB.out | apply Below.drew | apply pw_below_drewN | refine Below.setCell ?_ GEs.out _ | refine Below.setCell ?_ GEo.out _))) hb); have n3_ := Aside0.mk (show w.heap.size ≤ gr by rw [hg]; exact (Below.size (show Below w.heap.size w _ by repeat (first | exact HB.out | apply Below.drew | apply pw_below_drewN | refine Below.setCell ?_ GEs.out _ | refine Below.setCell ?_ GEo.out _)))); have n4_ := Aside0.mk (show gs ≠ gr by rw [hg]; exact Nat.ne_of_lt (blk_lt (o := .cells _ _ _) (by (with_reducible repeat (first | refine blk_drewN ?_ _ | refine blk_drew ?_)); exact BKs.out))); have n5_ := Aside0.mk (show go ≠ gr by rw [hg]; exact Nat.ne_of_lt (blk_lt (o := .cells _ _ _) (by (with_reducible repeat (first | refine blk_drewN ?_ _ | refine blk_drew ?_)); exact BKo.out))); have BKr := Aside0.mk hbox; clear BKs BKo HB; have BKs := n0_; have BKo := n1_; have HB := n2_; have GEr := n3_; have NEsr := n4_; have NEor := n5_; clear n0_ n1_ n2_ n3_ n4_ n5_ hb hbox hg) | ((with_reducible refine gate_dst (N := 17) rfl ?_); refine wpList_buildA rfl 134 _ rfl (cs := ue (List.replicate 5 0)) ?hb ?_; (case hb => exact built0_134)) | ((with_reducible refine gate_dst (N := 7) rfl ?_); refine box_event ?hg (N := 7) ?hd (cs := ue (List.replicate 5 0)) (t := 134) ?hr ?_; (case hd => rfl); (case hg => rfl); (case hr => first | (go_simp; done) | (go_simp; rfl)); intro gc hg w1_ hbox hb; have n0_ := Aside0.mk (blk_below (by (with_reducible repeat (first | refine blk_drewN ?_ _ | refine blk_drew ?_)); exact BKs.out) hb); have n1_ := Aside0.mk (blk_below (by (with_reducible repeat (first | refine blk_drewN ?_ _ | refine blk_drew ?_)); exact BKo.out) hb); have n2_ := Aside0.mk (blk_below (by (with_reducible repeat (first | refine blk_drewN ?_ _ | refine blk_drew ?_)); exact BKr.out) hb); have n3_ := Aside0.mk (below_then (show Below w.heap.size w _ by repeat (first | exact HB.out | apply Below.drew | apply pw_below_drewN | refine Below.setCell ?_ GEs.out _ | refine Below.setCell ?_ GEo.out _ | refine Below.setCell ?_ GEr.out _)) (Below.size (show Below w.heap.size w _ by repeat (first | exact HB.out | apply Below.drew | apply pw_below_drewN | refine Below.setCell ?_ GEs.out _ | refine Below.setCell ?_ GEo.out _ | refine Below.setCell ?_ GEr.out _))) hb); have n4_ := Aside0.mk (show w.heap.size ≤ gc by rw [hg]; exact (Below.size (show Below w.heap.size w _ by repeat (first | exact HB.out | apply Below.drew | apply pw_below_drewN | refine Below.setCell ?_ GEs.out _ | refine Below.setCell ?_ GEo.out _ | refine Below.setCell ?_ GEr.out _)))); have n5_ := Aside0.mk (show gs ≠ gc by rw [hg]; exact Nat.ne_of_lt (blk_lt (o := .cells _ _ _) (by (with_reducible repeat (first | refine blk_drewN ?_ _ | refine blk_drew ?_)); exact BKs.out))); have n6_ := Aside0.mk (show go ≠ gc by rw [hg]; exact Nat.ne_of_lt (blk_lt (o := .cells _ _ _) (by (with_reducible repeat (first | refine blk_drewN ?_ _ | refine blk_drew ?_)); exact BKo.out))); have n7_ := Aside0.mk (show gr ≠ gc by rw [hg]; exact Nat.ne_of_lt (blk_lt (o := .cells _ _ _) (by (with_reducible repeat (first | refine blk_drewN ?_ _ | refine blk_drew ?_)); exact BKr.out))); have BKc := Aside0.mk hbox; clear BKs BKo BKr HB; have BKs := n0_; have BKo := n1_; have BKr := n2_; have HB := n3_; have GEc := n4_; have NEsc := n5_; have NEoc := n6_; have NErc := n7_; clear n0_ n1_ n2_ n3_ n4_ n5_ n6_ n7_ hb hbox hg) | ((with_reducible refine gate_store (t := 134) (p := 7) rfl ?_); refine store_row_event rfl 134 _ _ rfl gc (ue (List.replicate 5 0)) rfl rfl 134 (ue (List.replicate 5 0)) (by (with_reducible repeat (first | refine blk_drewN ?_ _ | refine blk_drew ?_)); exact BKc.out) (by kernel_rfl) rfl (ue_one _) ?_; intro w9_ h1_ h2_ h3_; have n0_ := Aside0.mk (h3_ w.heap.size w (show Below w.heap.size w _ by repeat (first | exact HB.out | apply Below.drew | apply pw_below_drewN | refine Below.setCell ?_ GEs.out _ | refine Below.setCell ?_ GEo.out _ | refine Below.setCell ?_ GEr.out _ | refine Below.setCell ?_ GEc.out _)) GEc.out); have m0_ := Aside0.mk ((h2_ gs NEsc.out).trans (by (with_reducible repeat (first | refine blk_drewN ?_ _ | refine blk_drew ?_)); exact BKs.out)); have m1_ := Aside0.mk ((h2_ go NEoc.out).trans (by (with_reducible repeat (first | refine blk_drewN ?_ _ | refine blk_drew ?_)); exact BKo.out)); have m2_ := Aside0.mk ((h2_ gr NErc.out).trans (by (with_reducible repeat (first | refine blk_drewN ?_ _ | refine blk_drew ?_)); exact BKr.out)); clear HB BKc BKs BKo BKr; have HB := n0_; have BKc := Aside0.mk h1_; have BKs := m0_; have BKo := m1_; have BKr := m2_; clear n0_ h1_ h2_ h3_ m0_ m1_ m2_))
  go_loopg [8] 6 (fun kq v8 w' => ∃ (k : Nat) (x : Int), v8 = .int .i64 x ∧ Aside0 (x = (k : Int) ∧ k + kq = 6 ∧ k ≤ 5) ∧ Aside0 (w'.heap[gc]? = some (.cells (ue (cst s k)) 134 (0, 0))) ∧ Aside0 (w'.heap[gs]? = some (.cells (ue (s)) 94 (0, 0))) ∧ Aside0 (w'.heap[go]? = some (.cells (ue (turnsL)) 117 (0, 0))) ∧ Aside0 (w'.heap[gr]? = some (.cells (ue (List.replicate 25 0)) 94 (0, 0))) ∧ Aside0 (Below w.heap.size w w'))
  case atStart => exact ⟨0, 0, rfl, ⟨rfl, rfl, by decide⟩, ⟨by (with_reducible repeat (first | refine blk_drewN ?_ _ | refine blk_drew ?_)); exact BKc.out⟩, ⟨by (with_reducible repeat (first | refine blk_drewN ?_ _ | refine blk_drew ?_)); exact BKs.out⟩, ⟨by (with_reducible repeat (first | refine blk_drewN ?_ _ | refine blk_drew ?_)); exact BKo.out⟩, ⟨by (with_reducible repeat (first | refine blk_drewN ?_ _ | refine blk_drew ?_)); exact BKr.out⟩, ⟨(show Below w.heap.size w _ by repeat (first | exact HB.out | apply Below.drew | apply pw_below_drewN | refine Below.setCell ?_ GEs.out _ | refine Below.setCell ?_ GEo.out _ | refine Below.setCell ?_ GEr.out _ | refine Below.setCell ?_ GEc.out _))⟩⟩
  case round =>
    clear BKc BKs BKo BKr HB
    try clear c0
    obtain ⟨K1, x, rfl, HK1, BKc, BKs, BKo, BKr, HB⟩ := hrel
    cases gk with
    | zero => exact absurd HK1.out (by omega)
    | succ k1 =>
      by_cases c : K1 < 5
      · have c0 : decide (x < 5) = true := decide_eq_true (by have := HK1.out; omega)
        have HC1 := Aside0.mk c
        clear c
        obtain ⟨x5, hx5, ex5⟩ : ∃ y_, wrap64 (x + 5) = y_ ∧ Aside0 (y_ = ((K1 + 5 : Nat) : Int)) := ⟨_, rfl, ⟨by have := HK1.out; have := HC1.out; have := HS.out; first | (unfold wrap64; omega) | (rw [Int.tmod_eq_emod_of_nonneg (by omega)]; omega)⟩⟩
        obtain ⟨x10, hx10, ex10⟩ : ∃ y_, wrap64 (x + 10) = y_ ∧ Aside0 (y_ = ((K1 + 10 : Nat) : Int)) := ⟨_, rfl, ⟨by simp only [aI] at *; first | (unfold wrap64; omega) | (rw [Int.tmod_eq_emod_of_nonneg (by omega)]; omega)⟩⟩
        obtain ⟨x15, hx15, ex15⟩ : ∃ y_, wrap64 (x + 15) = y_ ∧ Aside0 (y_ = ((K1 + 15 : Nat) : Int)) := ⟨_, rfl, ⟨by simp only [aI] at *; first | (unfold wrap64; omega) | (rw [Int.tmod_eq_emod_of_nonneg (by omega)]; omega)⟩⟩
        obtain ⟨x20, hx20, ex20⟩ : ∃ y_, wrap64 (x + 20) = y_ ∧ Aside0 (y_ = ((K1 + 20 : Nat) : Int)) := ⟨_, rfl, ⟨by simp only [aI] at *; first | (unfold wrap64; omega) | (rw [Int.tmod_eq_emod_of_nonneg (by omega)]; omega)⟩⟩
        have px : (0 ≤ x) = True := eq_true (by simp only [aI] at *; omega)
        have qx_25 : (x < 25) = True := eq_true (by simp only [aI] at *; omega)
        have px : (0 ≤ x) = True := eq_true (by simp only [aI] at *; omega)
        have qx_5 : (x < 5) = True := eq_true (by simp only [aI] at *; omega)
        have px5 : (0 ≤ x5) = True := eq_true (by simp only [aI] at *; omega)
        have qx5_25 : (x5 < 25) = True := eq_true (by simp only [aI] at *; omega)
        have px10 : (0 ≤ x10) = True := eq_true (by simp only [aI] at *; omega)
        have qx10_25 : (x10 < 25) = True := eq_true (by simp only [aI] at *; omega)
        have px15 : (0 ≤ x15) = True := eq_true (by simp only [aI] at *; omega)
        have qx15_25 : (x15 < 25) = True := eq_true (by simp only [aI] at *; omega)
        have px20 : (0 ≤ x20) = True := eq_true (by simp only [aI] at *; omega)
        have qx20_25 : (x20 < 25) = True := eq_true (by simp only [aI] at *; omega)
        have hc0 : wr.cell? ⟨gs, x.toNat, none⟩ = some (.int .u64 (ga (s) x.toNat)) := (blk_cell BKs.out _).trans (ue_get (by rw [HS.out]; have := HK1.out; have := HC1.out; have := HS.out; have := ex5.out; have := ex10.out; have := ex15.out; have := ex20.out; omega))
        have hc1 : wr.cell? ⟨gs, x5.toNat, none⟩ = some (.int .u64 (ga (s) x5.toNat)) := (blk_cell BKs.out _).trans (ue_get (by rw [HS.out]; have := HK1.out; have := HC1.out; have := HS.out; have := ex5.out; have := ex10.out; have := ex15.out; have := ex20.out; omega))
        have hc2 : wr.cell? ⟨gs, x10.toNat, none⟩ = some (.int .u64 (ga (s) x10.toNat)) := (blk_cell BKs.out _).trans (ue_get (by rw [HS.out]; have := HK1.out; have := HC1.out; have := HS.out; have := ex5.out; have := ex10.out; have := ex15.out; have := ex20.out; omega))
        have hc3 : wr.cell? ⟨gs, x15.toNat, none⟩ = some (.int .u64 (ga (s) x15.toNat)) := (blk_cell BKs.out _).trans (ue_get (by rw [HS.out]; have := HK1.out; have := HC1.out; have := HS.out; have := ex5.out; have := ex10.out; have := ex15.out; have := ex20.out; omega))
        have hc4 : wr.cell? ⟨gs, x20.toNat, none⟩ = some (.int .u64 (ga (s) x20.toNat)) := (blk_cell BKs.out _).trans (ue_get (by rw [HS.out]; have := HK1.out; have := HC1.out; have := HS.out; have := ex5.out; have := ex10.out; have := ex15.out; have := ex20.out; omega))
        have hst : wr.cell? ⟨gc, x.toNat, none⟩ = some (.int .u64 (ga (cst s K1) x.toNat)) := (blk_cell BKc.out _).trans (ue_get (by rw [cst_len]; have := HK1.out; have := HC1.out; have := HS.out; have := ex5.out; have := ex10.out; have := ex15.out; have := ex20.out; omega))
        have hfz : wr.frozen? ⟨gc, x.toNat, none⟩ = false := blk_frozen BKc.out _
        go_wp2
        refine start_ (n := 26) (S := fun w' => w'.cell? ⟨gs, x.toNat, none⟩ = some (.int .u64 (ga (s) x.toNat)) ∧ w'.cell? ⟨gs, x5.toNat, none⟩ = some (.int .u64 (ga (s) x5.toNat)) ∧ w'.cell? ⟨gs, x10.toNat, none⟩ = some (.int .u64 (ga (s) x10.toNat)) ∧ w'.cell? ⟨gs, x15.toNat, none⟩ = some (.int .u64 (ga (s) x15.toNat)) ∧ w'.cell? ⟨gs, x20.toNat, none⟩ = some (.int .u64 (ga (s) x20.toNat))) (ds := [25]) #[false, false, false, false, false, false, false, false, false, false, false, false, false, false, false, false, false, false, false, false, false, false, false, false, false, false] (by kernel_rfl) rfl rfl ⟨hc0, hc1, hc2, hc3, hc4⟩ (fun hHeld => ?_)
        refine with_tabW spec_l03Round.tab5 spec_l03Round.bits5 (fun HT_ HW_ => ?_)
        refine pI 0 (some 22) HT_.out ?_
        refine pI 1 (some 23) HT_.out ?_
        refine pI 2 (some 24) HT_.out ?_
        refine pI 4 (some 26) HT_.out ?_
        refine pI 5 (some 27) HT_.out ?_
        refine pI 6 (some 28) HT_.out ?_
        refine pI 9 (some 31) HT_.out ?_
        refine pI 10 (some 32) HT_.out ?_
        refine pI 11 (some 33) HT_.out ?_
        refine pI 14 (some 36) HT_.out ?_
        refine pI 15 (some 37) HT_.out ?_
        refine pI 16 (some 38) HT_.out ?_
        refine pI 19 (some 41) HT_.out ?_
        refine pI 20 (some 42) HT_.out ?_
        refine pI 21 (some 43) HT_.out ?_
        refine tI5 3 (some 25) HT_.out HW_.out hHeld ?_
        refine tI5 7 (some 29) HT_.out HW_.out hHeld ?_
        refine pI 8 (some 30) HT_.out ?_
        refine tI5 12 (some 34) HT_.out HW_.out hHeld ?_
        refine pI 13 (some 35) HT_.out ?_
        refine tI5 17 (some 39) HT_.out HW_.out hHeld ?_
        refine pI 18 (some 40) HT_.out ?_
        refine tI5 22 (some 44) HT_.out HW_.out hHeld ?_
        refine pI 23 (some 45) HT_.out ?_
        refine pI 24 (some 46) HT_.out ?_
        refine last_ (i := 25) (N := none) #[true, true, true, true, true, true, true, true, true, true, true, true, true, true, true, true, true, true, true, true, true, true, true, true, true, true] rfl rfl (one_of HT_.out (by kernel_rfl)) (by decide) (fun K hK => ?_)
        refine skip_ (w1 := ?_) (by rfl) rfl ?_ ?_
        rotate_left
        · go_simp
          rfl
        refine hK.out _ _ ?_
        clear hK K
        refine done_ (done_of HT_.out (by kernel_rfl)) ?_
        go_wp2
        go_roundg k1
        case measure => omega
        case rel => exact ⟨K1 + 1, _, rfl, ⟨by simp only [aI] at *; first | omega | (unfold wrap64; omega), by simp only [aI] at *; omega, by simp only [aI] at *; omega⟩, ⟨by (with_reducible repeat (first | refine blk_drewN ?_ _ | refine blk_drew ?_)); refine blk_put (cs := ue (cst s K1)) (by (with_reducible repeat (first | refine blk_drewN ?_ _ | refine blk_drew ?_)); exact BKc.out) x.toNat _ ?_; rw [ue_set]; simp only [cst, col]; rw [show x.toNat = K1 by simp only [aI] at *; omega, show x5.toNat = K1 + 5 by simp only [aI] at *; omega, show x10.toNat = K1 + 10 by simp only [aI] at *; omega, show x15.toNat = K1 + 15 by simp only [aI] at *; omega, show x20.toNat = K1 + 20 by simp only [aI] at *; omega]⟩, ⟨by (with_reducible repeat (first | refine blk_drewN ?_ _ | refine blk_drew ?_)); refine blk_far ?_ (p := ⟨gc, _, none⟩) NEsc.out _; (with_reducible repeat (first | refine blk_drewN ?_ _ | refine blk_drew ?_)); exact BKs.out⟩, ⟨by (with_reducible repeat (first | refine blk_drewN ?_ _ | refine blk_drew ?_)); refine blk_far ?_ (p := ⟨gc, _, none⟩) NEoc.out _; (with_reducible repeat (first | refine blk_drewN ?_ _ | refine blk_drew ?_)); exact BKo.out⟩, ⟨by (with_reducible repeat (first | refine blk_drewN ?_ _ | refine blk_drew ?_)); refine blk_far ?_ (p := ⟨gc, _, none⟩) NErc.out _; (with_reducible repeat (first | refine blk_drewN ?_ _ | refine blk_drew ?_)); exact BKr.out⟩, ⟨(show Below w.heap.size w _ by repeat (first | exact HB.out | apply Below.drew | apply pw_below_drewN | refine Below.setCell ?_ GEs.out _ | refine Below.setCell ?_ GEo.out _ | refine Below.setCell ?_ GEr.out _ | refine Below.setCell ?_ GEc.out _))⟩⟩
      · have c0 : decide (x < 5) = false := decide_eq_false (by have := HK1.out; omega)
        obtain rfl : K1 = 5 := by have := HK1.out; omega
        clear c HK1
        go_wp2_with (first | ((with_reducible refine gate_dst (N := 47) rfl ?_); refine wpList_buildA rfl 94 _ rfl (cs := ue (List.replicate 25 0)) ?hb ?_; (case hb => exact built0_94)) | ((with_reducible refine gate_dst (N := 9) rfl ?_); refine box_event ?hg (N := 9) ?hd (cs := ue (List.replicate 25 0)) (t := 94) ?hr ?_; (case hd => rfl); (case hg => rfl); (case hr => first | (go_simp; done) | (go_simp; rfl)); intro gb hg w1_ hbox hb; have n0_ := Aside0.mk (blk_below (by (with_reducible repeat (first | refine blk_drewN ?_ _ | refine blk_drew ?_)); exact BKs.out) hb); have n1_ := Aside0.mk (blk_below (by (with_reducible repeat (first | refine blk_drewN ?_ _ | refine blk_drew ?_)); exact BKo.out) hb); have n2_ := Aside0.mk (blk_below (by (with_reducible repeat (first | refine blk_drewN ?_ _ | refine blk_drew ?_)); exact BKr.out) hb); have n3_ := Aside0.mk (blk_below (by (with_reducible repeat (first | refine blk_drewN ?_ _ | refine blk_drew ?_)); exact BKc.out) hb); have n4_ := Aside0.mk (below_then (show Below w.heap.size w _ by repeat (first | exact HB.out | apply Below.drew | apply pw_below_drewN | refine Below.setCell ?_ GEs.out _ | refine Below.setCell ?_ GEo.out _ | refine Below.setCell ?_ GEr.out _ | refine Below.setCell ?_ GEc.out _)) (Below.size (show Below w.heap.size w _ by repeat (first | exact HB.out | apply Below.drew | apply pw_below_drewN | refine Below.setCell ?_ GEs.out _ | refine Below.setCell ?_ GEo.out _ | refine Below.setCell ?_ GEr.out _ | refine Below.setCell ?_ GEc.out _))) hb); have n5_ := Aside0.mk (show w.heap.size ≤ gb by rw [hg]; exact (Below.size (show Below w.heap.size w _ by repeat (first | exact HB.out | apply Below.drew | apply pw_below_drewN | refine Below.setCell ?_ GEs.out _ | refine Below.setCell ?_ GEo.out _ | refine Below.setCell ?_ GEr.out _ | refine Below.setCell ?_ GEc.out _)))); have n6_ := Aside0.mk (show gs ≠ gb by rw [hg]; exact Nat.ne_of_lt (blk_lt (o := .cells _ _ _) (by (with_reducible repeat (first | refine blk_drewN ?_ _ | refine blk_drew ?_)); exact BKs.out))); have n7_ := Aside0.mk (show go ≠ gb by rw [hg]; exact Nat.ne_of_lt (blk_lt (o := .cells _ _ _) (by (with_reducible repeat (first | refine blk_drewN ?_ _ | refine blk_drew ?_)); exact BKo.out))); have n8_ := Aside0.mk (show gr ≠ gb by rw [hg]; exact Nat.ne_of_lt (blk_lt (o := .cells _ _ _) (by (with_reducible repeat (first | refine blk_drewN ?_ _ | refine blk_drew ?_)); exact BKr.out))); have n9_ := Aside0.mk (show gc ≠ gb by rw [hg]; exact Nat.ne_of_lt (blk_lt (o := .cells _ _ _) (by (with_reducible repeat (first | refine blk_drewN ?_ _ | refine blk_drew ?_)); exact BKc.out))); have BKb := Aside0.mk hbox; clear BKs BKo BKr BKc HB; have BKs := n0_; have BKo := n1_; have BKr := n2_; have BKc := n3_; have HB := n4_; have GEb := n5_; have NEsb := n6_; have NEob := n7_; have NErb := n8_; have NEcb := n9_; clear n0_ n1_ n2_ n3_ n4_ n5_ n6_ n7_ n8_ n9_ hb hbox hg) | ((with_reducible refine gate_store (t := 94) (p := 9) rfl ?_); refine store_row_event rfl 94 _ _ rfl gb (ue (List.replicate 25 0)) rfl rfl 94 (ue (List.replicate 25 0)) (by (with_reducible repeat (first | refine blk_drewN ?_ _ | refine blk_drew ?_)); exact BKb.out) (by kernel_rfl) rfl (ue_one _) ?_; intro w9_ h1_ h2_ h3_; have n0_ := Aside0.mk (h3_ w.heap.size w (show Below w.heap.size w _ by repeat (first | exact HB.out | apply Below.drew | apply pw_below_drewN | refine Below.setCell ?_ GEs.out _ | refine Below.setCell ?_ GEo.out _ | refine Below.setCell ?_ GEr.out _ | refine Below.setCell ?_ GEc.out _ | refine Below.setCell ?_ GEb.out _)) GEb.out); have m0_ := Aside0.mk ((h2_ gs NEsb.out).trans (by (with_reducible repeat (first | refine blk_drewN ?_ _ | refine blk_drew ?_)); exact BKs.out)); have m1_ := Aside0.mk ((h2_ go NEob.out).trans (by (with_reducible repeat (first | refine blk_drewN ?_ _ | refine blk_drew ?_)); exact BKo.out)); have m2_ := Aside0.mk ((h2_ gr NErb.out).trans (by (with_reducible repeat (first | refine blk_drewN ?_ _ | refine blk_drew ?_)); exact BKr.out)); have m3_ := Aside0.mk ((h2_ gc NEcb.out).trans (by (with_reducible repeat (first | refine blk_drewN ?_ _ | refine blk_drew ?_)); exact BKc.out)); clear HB BKb BKs BKo BKr BKc; have HB := n0_; have BKb := Aside0.mk h1_; have BKs := m0_; have BKo := m1_; have BKr := m2_; have BKc := m3_; clear n0_ h1_ h2_ h3_ m0_ m1_ m2_ m3_))
        go_loopg [10] 6 (fun kq v10 w' => ∃ (k : Nat) (x : Int), v10 = .int .i64 x ∧ Aside0 (x = (k : Int) ∧ k + kq = 6 ∧ k ≤ 5) ∧ Aside0 (w'.heap[gc]? = some (.cells (ue (cst s 5)) 134 (0, 0))) ∧ Aside0 (w'.heap[gs]? = some (.cells (ue (s)) 94 (0, 0))) ∧ Aside0 (w'.heap[go]? = some (.cells (ue (turnsL)) 117 (0, 0))) ∧ Aside0 (w'.heap[gr]? = some (.cells (ue (List.replicate 25 0)) 94 (0, 0))) ∧ Aside0 (w'.heap[gb]? = some (.cells (ue (bstS s (cst s 5) (5 * k))) 94 (0, 0))) ∧ Aside0 (Below w.heap.size w w'))
        case atStart => exact ⟨0, 0, rfl, ⟨rfl, rfl, by decide⟩, ⟨by (with_reducible repeat (first | refine blk_drewN ?_ _ | refine blk_drew ?_)); exact BKc.out⟩, ⟨by (with_reducible repeat (first | refine blk_drewN ?_ _ | refine blk_drew ?_)); exact BKs.out⟩, ⟨by (with_reducible repeat (first | refine blk_drewN ?_ _ | refine blk_drew ?_)); exact BKo.out⟩, ⟨by (with_reducible repeat (first | refine blk_drewN ?_ _ | refine blk_drew ?_)); exact BKr.out⟩, ⟨by (with_reducible repeat (first | refine blk_drewN ?_ _ | refine blk_drew ?_)); exact BKb.out⟩, ⟨(show Below w.heap.size w _ by repeat (first | exact HB.out | apply Below.drew | apply pw_below_drewN | refine Below.setCell ?_ GEs.out _ | refine Below.setCell ?_ GEo.out _ | refine Below.setCell ?_ GEr.out _ | refine Below.setCell ?_ GEc.out _ | refine Below.setCell ?_ GEb.out _))⟩⟩
        case round =>
          clear BKc BKs BKo BKr BKb HB
          try clear c0
          obtain ⟨K2, x, rfl, HK2, BKc, BKs, BKo, BKr, BKb, HB⟩ := hrel
          cases gk with
          | zero => exact absurd HK2.out (by omega)
          | succ k2 =>
            by_cases c : K2 < 5
            · have c0 : decide (x < 5) = true := decide_eq_true (by have := HK2.out; omega)
              have HC2 := Aside0.mk c
              clear c
              obtain ⟨a1, ha1, ea1⟩ : ∃ y_, wrap64 (x + 4) = y_ ∧ Aside0 (y_ = ((K2 + 4 : Nat) : Int)) := ⟨_, rfl, ⟨by have := HK2.out; have := HC2.out; have := HS.out; first | (unfold wrap64; omega) | (rw [Int.tmod_eq_emod_of_nonneg (by omega)]; omega)⟩⟩
              obtain ⟨a2, ha2, ea2⟩ : ∃ y_, Int.tmod a1 5 = y_ ∧ Aside0 (y_ = (((K2 + 4) % 5 : Nat) : Int)) := ⟨_, rfl, ⟨by simp only [aI] at *; first | (unfold wrap64; omega) | (rw [Int.tmod_eq_emod_of_nonneg (by omega)]; omega)⟩⟩
              obtain ⟨b1, hb1, eb1⟩ : ∃ y_, wrap64 (x + 1) = y_ ∧ Aside0 (y_ = ((K2 + 1 : Nat) : Int)) := ⟨_, rfl, ⟨by simp only [aI] at *; first | (unfold wrap64; omega) | (rw [Int.tmod_eq_emod_of_nonneg (by omega)]; omega)⟩⟩
              obtain ⟨b2, hb2, eb2⟩ : ∃ y_, Int.tmod b1 5 = y_ ∧ Aside0 (y_ = (((K2 + 1) % 5 : Nat) : Int)) := ⟨_, rfl, ⟨by simp only [aI] at *; first | (unfold wrap64; omega) | (rw [Int.tmod_eq_emod_of_nonneg (by omega)]; omega)⟩⟩
              have pa2 : (0 ≤ a2) = True := eq_true (by simp only [aI] at *; omega)
              have qa2_5 : (a2 < 5) = True := eq_true (by simp only [aI] at *; omega)
              have pb2 : (0 ≤ b2) = True := eq_true (by simp only [aI] at *; omega)
              have qb2_5 : (b2 < 5) = True := eq_true (by simp only [aI] at *; omega)
              have hc0 : wr.cell? ⟨gc, a2.toNat, none⟩ = some (.int .u64 (ga (cst s 5) a2.toNat)) := (blk_cell BKc.out _).trans (ue_get (by rw [cst_len]; have := HK2.out; have := HC2.out; have := HS.out; have := ea1.out; have := ea2.out; have := eb1.out; have := eb2.out; omega))
              have hc1 : wr.cell? ⟨gc, b2.toNat, none⟩ = some (.int .u64 (ga (cst s 5) b2.toNat)) := (blk_cell BKc.out _).trans (ue_get (by rw [cst_len]; have := HK2.out; have := HC2.out; have := HS.out; have := ea1.out; have := ea2.out; have := eb1.out; have := eb2.out; omega))
              have HRa := Aside0.mk (turn_f (v := ga (cst s 5) b2.toNat) tok_one)
              go_wp2
              refine start_ (n := 13) (S := fun w' => w'.cell? ⟨gc, a2.toNat, none⟩ = some (.int .u64 (ga (cst s 5) a2.toNat)) ∧ w'.cell? ⟨gc, b2.toNat, none⟩ = some (.int .u64 (ga (cst s 5) b2.toNat))) (ds := []) #[false, false, false, false, false, false, false, false, false, false, false, false, false] (by kernel_rfl) rfl rfl ⟨hc0, hc1⟩ (fun hHeld => ?_)
              refine with_tabW spec_l03Round.tab10 spec_l03Round.bits10 (fun HT_ HW_ => ?_)
              refine pI 0 (some 52) HT_.out ?_
              refine pI 1 (some 53) HT_.out ?_
              refine pI 2 (some 54) HT_.out ?_
              refine pI 3 (some 55) HT_.out ?_
              refine pI 5 (some 57) HT_.out ?_
              refine pI 6 (some 58) HT_.out ?_
              refine pI 7 (some 59) HT_.out ?_
              refine pI 8 (some 60) HT_.out ?_
              refine tI2 4 (some 56) HT_.out HW_.out hHeld ?_
              refine tI2 9 (some 61) HT_.out HW_.out hHeld ?_
              refine oI 10 (some 62) HT_.out (fun K hK => ?_)
              refine goes_ Tryz.func155 (by kernel_rfl) rfl #[.int .u64 (ga (cst s 5) b2.toNat), .int .u64 (1)] (by rfl) rfl rfl (by simp only [List.map_toArray, List.map_cons, List.map_nil]; rfl) ?_
              with_reducible refine (spec_l03Turn.calls _ _ _ _ HRa.out).mono ?_
              rintro e w3_ ⟨rfl, ⟨nd, rfl⟩⟩
              refine ⟨_, rfl, ?_⟩
              refine hK.out _ _ ⟨(by exact hHeld.1), (by exact hHeld.2)⟩ (fun hHeld => ?_)
              clear hK K
              refine nO (some 62) ?_
              refine pI 11 (some 63) HT_.out ?_
              refine pI 12 (some 11) HT_.out ?_
              refine done_ (done_of HT_.out (by kernel_rfl)) ?_
              go_wp2
              clear hb1 ha1
              go_loopg [12] 6 (fun kq v12 w' => ∃ (k : Nat) (x : Int), v12 = .int .i64 x ∧ Aside0 (x = (k : Int) ∧ k + kq = 6 ∧ k ≤ 5) ∧ Aside0 (w'.heap[gc]? = some (.cells (ue (cst s 5)) 134 (0, 0))) ∧ Aside0 (w'.heap[gs]? = some (.cells (ue (s)) 94 (0, 0))) ∧ Aside0 (w'.heap[go]? = some (.cells (ue (turnsL)) 117 (0, 0))) ∧ Aside0 (w'.heap[gr]? = some (.cells (ue (List.replicate 25 0)) 94 (0, 0))) ∧ Aside0 (w'.heap[gb]? = some (.cells (ue (bstS s (cst s 5) (5 * K2 + k))) 94 (0, 0))) ∧ Aside0 (Below w.heap.size w w'))
              case atStart => exact ⟨0, 0, rfl, ⟨rfl, rfl, by decide⟩, ⟨by (with_reducible repeat (first | refine blk_drewN ?_ _ | refine blk_drew ?_)); exact BKc.out⟩, ⟨by (with_reducible repeat (first | refine blk_drewN ?_ _ | refine blk_drew ?_)); exact BKs.out⟩, ⟨by (with_reducible repeat (first | refine blk_drewN ?_ _ | refine blk_drew ?_)); exact BKo.out⟩, ⟨by (with_reducible repeat (first | refine blk_drewN ?_ _ | refine blk_drew ?_)); exact BKr.out⟩, ⟨by (with_reducible repeat (first | refine blk_drewN ?_ _ | refine blk_drew ?_)); exact BKb.out⟩, ⟨(show Below w.heap.size w _ by repeat (first | exact HB.out | apply Below.drew | apply pw_below_drewN | refine Below.setCell ?_ GEs.out _ | refine Below.setCell ?_ GEo.out _ | refine Below.setCell ?_ GEr.out _ | refine Below.setCell ?_ GEc.out _ | refine Below.setCell ?_ GEb.out _))⟩⟩
              case round =>
                clear BKc BKs BKo BKr BKb HB
                try clear c0
                obtain ⟨K3, y, rfl, HK3, BKc, BKs, BKo, BKr, BKb, HB⟩ := hrel
                cases gk with
                | zero => exact absurd HK3.out (by omega)
                | succ k3 =>
                  by_cases c : K3 < 5
                  · have c0 : decide (y < 5) = true := decide_eq_true (by have := HK3.out; omega)
                    have HC3 := Aside0.mk c
                    clear c
                    obtain ⟨z1, hz1, ez1⟩ : ∃ y_, wrap64 (5 * y) = y_ ∧ Aside0 (y_ = ((5 * K3 : Nat) : Int)) := ⟨_, rfl, ⟨by simp only [aI] at *; first | (unfold wrap64; omega) | (rw [Int.tmod_eq_emod_of_nonneg (by omega)]; omega)⟩⟩
                    obtain ⟨z2, hz2, ez2⟩ : ∃ y_, wrap64 (x + z1) = y_ ∧ Aside0 (y_ = ((K2 + 5 * K3 : Nat) : Int)) := ⟨_, rfl, ⟨by simp only [aI] at *; first | (unfold wrap64; omega) | (rw [Int.tmod_eq_emod_of_nonneg (by omega)]; omega)⟩⟩
                    obtain ⟨m1, hm1, em1⟩ : ∃ y_, wrap64 (2 * x) = y_ ∧ Aside0 (y_ = ((2 * K2 : Nat) : Int)) := ⟨_, rfl, ⟨by simp only [aI] at *; first | (unfold wrap64; omega) | (rw [Int.tmod_eq_emod_of_nonneg (by omega)]; omega)⟩⟩
                    obtain ⟨m2, hm2, em2⟩ : ∃ y_, wrap64 (3 * y) = y_ ∧ Aside0 (y_ = ((3 * K3 : Nat) : Int)) := ⟨_, rfl, ⟨by simp only [aI] at *; first | (unfold wrap64; omega) | (rw [Int.tmod_eq_emod_of_nonneg (by omega)]; omega)⟩⟩
                    obtain ⟨m3, hm3, em3⟩ : ∃ y_, wrap64 (m1 + m2) = y_ ∧ Aside0 (y_ = ((2 * K2 + 3 * K3 : Nat) : Int)) := ⟨_, rfl, ⟨by simp only [aI] at *; first | (unfold wrap64; omega) | (rw [Int.tmod_eq_emod_of_nonneg (by omega)]; omega)⟩⟩
                    obtain ⟨m4, hm4, em4⟩ : ∃ y_, Int.tmod m3 5 = y_ ∧ Aside0 (y_ = (((2 * K2 + 3 * K3) % 5 : Nat) : Int)) := ⟨_, rfl, ⟨by simp only [aI] at *; first | (unfold wrap64; omega) | (rw [Int.tmod_eq_emod_of_nonneg (by omega)]; omega)⟩⟩
                    obtain ⟨m5, hm5, em5⟩ : ∃ y_, wrap64 (5 * m4) = y_ ∧ Aside0 (y_ = ((5 * ((2 * K2 + 3 * K3) % 5) : Nat) : Int)) := ⟨_, rfl, ⟨by simp only [aI] at *; first | (unfold wrap64; omega) | (rw [Int.tmod_eq_emod_of_nonneg (by omega)]; omega)⟩⟩
                    obtain ⟨m6, hm6, em6⟩ : ∃ y_, wrap64 (y + m5) = y_ ∧ Aside0 (y_ = ((K3 + 5 * ((2 * K2 + 3 * K3) % 5) : Nat) : Int)) := ⟨_, rfl, ⟨by simp only [aI] at *; first | (unfold wrap64; omega) | (rw [Int.tmod_eq_emod_of_nonneg (by omega)]; omega)⟩⟩
                    have pm6 : (0 ≤ m6) = True := eq_true (by simp only [aI] at *; omega)
                    have qm6_25 : (m6 < 25) = True := eq_true (by simp only [aI] at *; omega)
                    have pz2 : (0 ≤ z2) = True := eq_true (by simp only [aI] at *; omega)
                    have qz2_25 : (z2 < 25) = True := eq_true (by simp only [aI] at *; omega)
                    have hd0 : wr.cell? ⟨gs, z2.toNat, none⟩ = some (.int .u64 (ga (s) z2.toNat)) := (blk_cell BKs.out _).trans (ue_get (by rw [HS.out]; have := HK2.out; have := HC2.out; have := HS.out; have := ea1.out; have := ea2.out; have := eb1.out; have := eb2.out; have := HK3.out; have := HC3.out; have := ez1.out; have := ez2.out; have := em1.out; have := em2.out; have := em3.out; have := em4.out; have := em5.out; have := em6.out; omega))
                    have hd1 : wr.cell? ⟨go, z2.toNat, none⟩ = some (.int .u64 (ga (turnsL) z2.toNat)) := (blk_cell BKo.out _).trans (ue_get (by show z2.toNat < turnsL.length; show z2.toNat < 25; have := HK2.out; have := HC2.out; have := HS.out; have := ea1.out; have := ea2.out; have := eb1.out; have := eb2.out; have := HK3.out; have := HC3.out; have := ez1.out; have := ez2.out; have := em1.out; have := em2.out; have := em3.out; have := em4.out; have := em5.out; have := em6.out; omega))
                    have hst : wr.cell? ⟨gb, m6.toNat, none⟩ = some (.int .u64 (ga (bstS s (cst s 5) (5 * K2 + K3)) m6.toNat)) := (blk_cell BKb.out _).trans (ue_get (by rw [bstS_len]; have := HK2.out; have := HC2.out; have := HS.out; have := ea1.out; have := ea2.out; have := eb1.out; have := eb2.out; have := HK3.out; have := HC3.out; have := ez1.out; have := ez2.out; have := em1.out; have := em2.out; have := em3.out; have := em4.out; have := em5.out; have := em6.out; omega))
                    have hfz : wr.frozen? ⟨gb, m6.toNat, none⟩ = false := blk_frozen BKb.out _
                    have hz25 : z2.toNat < 25 := by simp only [aI] at *; omega
                    have HRb := Aside0.mk (show spec_l03Turn.f (Go.bits .xor .u64 (ga s z2.toNat) (Go.bits .xor .u64 (ga (cst s 5) a2.toNat) (tn (ga (cst s 5) b2.toNat) 1))) (ga turnsL z2.toNat) = some (tn (Go.bits .xor .u64 (ga s z2.toNat) (Go.bits .xor .u64 (ga (cst s 5) a2.toNat) (tn (ga (cst s 5) b2.toNat) 1))) (ga turnsL z2.toNat)) from turn_f (tok_turns ⟨z2.toNat, hz25⟩))
                    clear hz25
                    by_cases hk : ga turnsL z2.toNat > 0
                    · have hk0 : decide (ga turnsL z2.toNat > 0) = true := decide_eq_true hk
                      have HKK := Aside0.mk hk
                      clear hk
                      go_wp2_with (first | (go_at_call 155; (with_reducible refine (spec_l03Turn.calls _ _ _ _ HRb.out).mono ?_); rintro e w3_ ⟨rfl, ⟨nd, rfl⟩⟩))
                      go_roundg k3
                      case measure => omega
                      case rel => exact ⟨K3 + 1, _, rfl, ⟨by simp only [aI] at *; first | omega | (unfold wrap64; omega), by simp only [aI] at *; omega, by simp only [aI] at *; omega⟩, ⟨by (with_reducible repeat (first | refine blk_drewN ?_ _ | refine blk_drew ?_)); refine blk_far ?_ (p := ⟨gb, _, none⟩) NEcb.out _; (with_reducible repeat (first | refine blk_drewN ?_ _ | refine blk_drew ?_)); exact BKc.out⟩, ⟨by (with_reducible repeat (first | refine blk_drewN ?_ _ | refine blk_drew ?_)); refine blk_far ?_ (p := ⟨gb, _, none⟩) NEsb.out _; (with_reducible repeat (first | refine blk_drewN ?_ _ | refine blk_drew ?_)); exact BKs.out⟩, ⟨by (with_reducible repeat (first | refine blk_drewN ?_ _ | refine blk_drew ?_)); refine blk_far ?_ (p := ⟨gb, _, none⟩) NEob.out _; (with_reducible repeat (first | refine blk_drewN ?_ _ | refine blk_drew ?_)); exact BKo.out⟩, ⟨by (with_reducible repeat (first | refine blk_drewN ?_ _ | refine blk_drew ?_)); refine blk_far ?_ (p := ⟨gb, _, none⟩) NErb.out _; (with_reducible repeat (first | refine blk_drewN ?_ _ | refine blk_drew ?_)); exact BKr.out⟩, ⟨by have hkk_ := HKK.out; (with_reducible repeat (first | refine blk_drewN ?_ _ | refine blk_drew ?_)); refine blk_put (cs := ue (bstS s (cst s 5) (5 * K2 + K3))) (by (with_reducible repeat (first | refine blk_drewN ?_ _ | refine blk_drew ?_)); exact BKb.out) m6.toNat _ ?_; rw [ue_set, bstS_succ s _ (by simp only [aI] at *; omega)]; simp only [batS, ddS]; rw [show z2.toNat = K2 + 5 * K3 by simp only [aI] at *; omega] at hkk_; rw [show m6.toNat = K3 + 5 * ((2 * K2 + 3 * K3) % 5) by simp only [aI] at *; omega, show z2.toNat = K2 + 5 * K3 by simp only [aI] at *; omega, show a2.toNat = (K2 + 4) % 5 by simp only [aI] at *; omega, show b2.toNat = (K2 + 1) % 5 by simp only [aI] at *; omega]; exact congrArg (fun v_ => ue (List.set (bstS s (cst s 5) (5 * K2 + K3)) (K3 + 5 * ((2 * K2 + 3 * K3) % 5)) v_)) (if_pos hkk_).symm⟩, ⟨(show Below w.heap.size w _ by repeat (first | exact HB.out | apply Below.drew | apply pw_below_drewN | refine Below.setCell ?_ GEs.out _ | refine Below.setCell ?_ GEo.out _ | refine Below.setCell ?_ GEr.out _ | refine Below.setCell ?_ GEc.out _ | refine Below.setCell ?_ GEb.out _))⟩⟩
                    · have hk0 : decide (ga turnsL z2.toNat > 0) = false := decide_eq_false hk
                      have HKK := Aside0.mk hk
                      clear hk
                      go_wp2
                      go_roundg k3
                      case measure => omega
                      case rel => exact ⟨K3 + 1, _, rfl, ⟨by simp only [aI] at *; first | omega | (unfold wrap64; omega), by simp only [aI] at *; omega, by simp only [aI] at *; omega⟩, ⟨by (with_reducible repeat (first | refine blk_drewN ?_ _ | refine blk_drew ?_)); refine blk_far ?_ (p := ⟨gb, _, none⟩) NEcb.out _; (with_reducible repeat (first | refine blk_drewN ?_ _ | refine blk_drew ?_)); exact BKc.out⟩, ⟨by (with_reducible repeat (first | refine blk_drewN ?_ _ | refine blk_drew ?_)); refine blk_far ?_ (p := ⟨gb, _, none⟩) NEsb.out _; (with_reducible repeat (first | refine blk_drewN ?_ _ | refine blk_drew ?_)); exact BKs.out⟩, ⟨by (with_reducible repeat (first | refine blk_drewN ?_ _ | refine blk_drew ?_)); refine blk_far ?_ (p := ⟨gb, _, none⟩) NEob.out _; (with_reducible repeat (first | refine blk_drewN ?_ _ | refine blk_drew ?_)); exact BKo.out⟩, ⟨by (with_reducible repeat (first | refine blk_drewN ?_ _ | refine blk_drew ?_)); refine blk_far ?_ (p := ⟨gb, _, none⟩) NErb.out _; (with_reducible repeat (first | refine blk_drewN ?_ _ | refine blk_drew ?_)); exact BKr.out⟩, ⟨by have hkk_ := HKK.out; (with_reducible repeat (first | refine blk_drewN ?_ _ | refine blk_drew ?_)); refine blk_put (cs := ue (bstS s (cst s 5) (5 * K2 + K3))) (by (with_reducible repeat (first | refine blk_drewN ?_ _ | refine blk_drew ?_)); exact BKb.out) m6.toNat _ ?_; rw [ue_set, bstS_succ s _ (by simp only [aI] at *; omega)]; simp only [batS, ddS]; rw [show z2.toNat = K2 + 5 * K3 by simp only [aI] at *; omega] at hkk_; rw [show m6.toNat = K3 + 5 * ((2 * K2 + 3 * K3) % 5) by simp only [aI] at *; omega, show z2.toNat = K2 + 5 * K3 by simp only [aI] at *; omega, show a2.toNat = (K2 + 4) % 5 by simp only [aI] at *; omega, show b2.toNat = (K2 + 1) % 5 by simp only [aI] at *; omega]; exact congrArg (fun v_ => ue (List.set (bstS s (cst s 5) (5 * K2 + K3)) (K3 + 5 * ((2 * K2 + 3 * K3) % 5)) v_)) (if_neg (by omega)).symm⟩, ⟨(show Below w.heap.size w _ by repeat (first | exact HB.out | apply Below.drew | apply pw_below_drewN | refine Below.setCell ?_ GEs.out _ | refine Below.setCell ?_ GEo.out _ | refine Below.setCell ?_ GEr.out _ | refine Below.setCell ?_ GEc.out _ | refine Below.setCell ?_ GEb.out _))⟩⟩
                  · have c0 : decide (y < 5) = false := decide_eq_false (by have := HK3.out; omega)
                    obtain rfl : K3 = 5 := by have := HK3.out; omega
                    clear c HK3
                    go_wp2
                    go_roundg k2
                    case measure => omega
                    case rel => exact ⟨K2 + 1, _, rfl, ⟨by simp only [aI] at *; first | omega | (unfold wrap64; omega), by simp only [aI] at *; omega, by simp only [aI] at *; omega⟩, ⟨by (with_reducible repeat (first | refine blk_drewN ?_ _ | refine blk_drew ?_)); exact BKc.out⟩, ⟨by (with_reducible repeat (first | refine blk_drewN ?_ _ | refine blk_drew ?_)); exact BKs.out⟩, ⟨by (with_reducible repeat (first | refine blk_drewN ?_ _ | refine blk_drew ?_)); exact BKo.out⟩, ⟨by (with_reducible repeat (first | refine blk_drewN ?_ _ | refine blk_drew ?_)); exact BKr.out⟩, ⟨by rw [show 5 * (K2 + 1) = 5 * K2 + 5 by omega]; (with_reducible repeat (first | refine blk_drewN ?_ _ | refine blk_drew ?_)); exact BKb.out⟩, ⟨(show Below w.heap.size w _ by repeat (first | exact HB.out | apply Below.drew | apply pw_below_drewN | refine Below.setCell ?_ GEs.out _ | refine Below.setCell ?_ GEo.out _ | refine Below.setCell ?_ GEr.out _ | refine Below.setCell ?_ GEc.out _ | refine Below.setCell ?_ GEb.out _))⟩⟩
            · have c0 : decide (x < 5) = false := decide_eq_false (by have := HK2.out; omega)
              obtain rfl : K2 = 5 := by have := HK2.out; omega
              clear c HK2
              go_wp2
              go_loopg [15] 6 (fun kq v15 w' => ∃ (k : Nat) (x : Int), v15 = .int .i64 x ∧ Aside0 (x = (k : Int) ∧ k + kq = 6 ∧ k ≤ 5) ∧ Aside0 (w'.heap[gs]? = some (.cells (ue (sstS s (bstS s (cst s 5) 25) (5 * k))) 94 (0, 0))) ∧ Aside0 (w'.heap[gr]? = some (.cells (ue (List.replicate 25 0)) 94 (0, 0))) ∧ Aside0 (w'.heap[gb]? = some (.cells (ue (bstS s (cst s 5) 25)) 94 (0, 0))) ∧ Aside0 (Below w.heap.size w w'))
              case atStart => exact ⟨0, 0, rfl, ⟨rfl, rfl, by decide⟩, ⟨by (with_reducible repeat (first | refine blk_drewN ?_ _ | refine blk_drew ?_)); exact BKs.out⟩, ⟨by (with_reducible repeat (first | refine blk_drewN ?_ _ | refine blk_drew ?_)); exact BKr.out⟩, ⟨by (with_reducible repeat (first | refine blk_drewN ?_ _ | refine blk_drew ?_)); exact BKb.out⟩, ⟨(show Below w.heap.size w _ by repeat (first | exact HB.out | apply Below.drew | apply pw_below_drewN | refine Below.setCell ?_ GEs.out _ | refine Below.setCell ?_ GEo.out _ | refine Below.setCell ?_ GEr.out _ | refine Below.setCell ?_ GEc.out _ | refine Below.setCell ?_ GEb.out _))⟩⟩
              case round =>
                clear BKc BKo
                clear BKs BKr BKb HB
                try clear c0
                obtain ⟨K2, y, rfl, HK2, BKs, BKr, BKb, HB⟩ := hrel
                cases gk with
                | zero => exact absurd HK2.out (by omega)
                | succ k2 =>
                  by_cases c : K2 < 5
                  · have c0 : decide (y < 5) = true := decide_eq_true (by have := HK2.out; omega)
                    have HC2 := Aside0.mk c
                    clear c
                    go_wp2
                    go_loopg [16] 6 (fun kq v16 w' => ∃ (k : Nat) (x : Int), v16 = .int .i64 x ∧ Aside0 (x = (k : Int) ∧ k + kq = 6 ∧ k ≤ 5) ∧ Aside0 (w'.heap[gs]? = some (.cells (ue (sstS s (bstS s (cst s 5) 25) (5 * K2 + k))) 94 (0, 0))) ∧ Aside0 (w'.heap[gr]? = some (.cells (ue (List.replicate 25 0)) 94 (0, 0))) ∧ Aside0 (w'.heap[gb]? = some (.cells (ue (bstS s (cst s 5) 25)) 94 (0, 0))) ∧ Aside0 (Below w.heap.size w w'))
                    case atStart => exact ⟨0, 0, rfl, ⟨rfl, rfl, by decide⟩, ⟨by (with_reducible repeat (first | refine blk_drewN ?_ _ | refine blk_drew ?_)); exact BKs.out⟩, ⟨by (with_reducible repeat (first | refine blk_drewN ?_ _ | refine blk_drew ?_)); exact BKr.out⟩, ⟨by (with_reducible repeat (first | refine blk_drewN ?_ _ | refine blk_drew ?_)); exact BKb.out⟩, ⟨(show Below w.heap.size w _ by repeat (first | exact HB.out | apply Below.drew | apply pw_below_drewN | refine Below.setCell ?_ GEs.out _ | refine Below.setCell ?_ GEo.out _ | refine Below.setCell ?_ GEr.out _ | refine Below.setCell ?_ GEc.out _ | refine Below.setCell ?_ GEb.out _))⟩⟩
                    case round =>
                      clear BKs BKr BKb HB
                      try clear c0
                      obtain ⟨K3, x, rfl, HK3, BKs, BKr, BKb, HB⟩ := hrel
                      cases gk with
                      | zero => exact absurd HK3.out (by omega)
                      | succ k3 =>
                        by_cases c : K3 < 5
                        · have c0 : decide (x < 5) = true := decide_eq_true (by have := HK3.out; omega)
                          have HC3 := Aside0.mk c
                          clear c
                          obtain ⟨z1, hz1, ez1⟩ : ∃ y_, wrap64 (5 * y) = y_ ∧ Aside0 (y_ = ((5 * K2 : Nat) : Int)) := ⟨_, rfl, ⟨by simp only [aI] at *; first | (unfold wrap64; omega) | (rw [Int.tmod_eq_emod_of_nonneg (by omega)]; omega)⟩⟩
                          obtain ⟨z2, hz2, ez2⟩ : ∃ y_, wrap64 (x + z1) = y_ ∧ Aside0 (y_ = ((K3 + 5 * K2 : Nat) : Int)) := ⟨_, rfl, ⟨by simp only [aI] at *; first | (unfold wrap64; omega) | (rw [Int.tmod_eq_emod_of_nonneg (by omega)]; omega)⟩⟩
                          obtain ⟨c1, hc1, ec1⟩ : ∃ y_, wrap64 (x + 1) = y_ ∧ Aside0 (y_ = ((K3 + 1 : Nat) : Int)) := ⟨_, rfl, ⟨by simp only [aI] at *; first | (unfold wrap64; omega) | (rw [Int.tmod_eq_emod_of_nonneg (by omega)]; omega)⟩⟩
                          obtain ⟨c2, hc2, ec2⟩ : ∃ y_, Int.tmod c1 5 = y_ ∧ Aside0 (y_ = (((K3 + 1) % 5 : Nat) : Int)) := ⟨_, rfl, ⟨by simp only [aI] at *; first | (unfold wrap64; omega) | (rw [Int.tmod_eq_emod_of_nonneg (by omega)]; omega)⟩⟩
                          obtain ⟨c3, hc3, ec3⟩ : ∃ y_, wrap64 (c2 + z1) = y_ ∧ Aside0 (y_ = (((K3 + 1) % 5 + 5 * K2 : Nat) : Int)) := ⟨_, rfl, ⟨by simp only [aI] at *; first | (unfold wrap64; omega) | (rw [Int.tmod_eq_emod_of_nonneg (by omega)]; omega)⟩⟩
                          obtain ⟨d1, hd1, ed1⟩ : ∃ y_, wrap64 (x + 2) = y_ ∧ Aside0 (y_ = ((K3 + 2 : Nat) : Int)) := ⟨_, rfl, ⟨by simp only [aI] at *; first | (unfold wrap64; omega) | (rw [Int.tmod_eq_emod_of_nonneg (by omega)]; omega)⟩⟩
                          obtain ⟨d2, hd2, ed2⟩ : ∃ y_, Int.tmod d1 5 = y_ ∧ Aside0 (y_ = (((K3 + 2) % 5 : Nat) : Int)) := ⟨_, rfl, ⟨by simp only [aI] at *; first | (unfold wrap64; omega) | (rw [Int.tmod_eq_emod_of_nonneg (by omega)]; omega)⟩⟩
                          obtain ⟨d3, hd3, ed3⟩ : ∃ y_, wrap64 (d2 + z1) = y_ ∧ Aside0 (y_ = (((K3 + 2) % 5 + 5 * K2 : Nat) : Int)) := ⟨_, rfl, ⟨by simp only [aI] at *; first | (unfold wrap64; omega) | (rw [Int.tmod_eq_emod_of_nonneg (by omega)]; omega)⟩⟩
                          have pz2 : (0 ≤ z2) = True := eq_true (by simp only [aI] at *; omega)
                          have qz2_25 : (z2 < 25) = True := eq_true (by simp only [aI] at *; omega)
                          have pc3 : (0 ≤ c3) = True := eq_true (by simp only [aI] at *; omega)
                          have qc3_25 : (c3 < 25) = True := eq_true (by simp only [aI] at *; omega)
                          have pd3 : (0 ≤ d3) = True := eq_true (by simp only [aI] at *; omega)
                          have qd3_25 : (d3 < 25) = True := eq_true (by simp only [aI] at *; omega)
                          have hc0 : wr.cell? ⟨gb, z2.toNat, none⟩ = some (.int .u64 (ga (bstS s (cst s 5) 25) z2.toNat)) := (blk_cell BKb.out _).trans (ue_get (by rw [bstS_len]; have := HK2.out; have := HC2.out; have := HK3.out; have := HC3.out; have := HS.out; have := ez1.out; have := ez2.out; have := ec1.out; have := ec2.out; have := ec3.out; have := ed1.out; have := ed2.out; have := ed3.out; omega))
                          have hc1 : wr.cell? ⟨gb, c3.toNat, none⟩ = some (.int .u64 (ga (bstS s (cst s 5) 25) c3.toNat)) := (blk_cell BKb.out _).trans (ue_get (by rw [bstS_len]; have := HK2.out; have := HC2.out; have := HK3.out; have := HC3.out; have := HS.out; have := ez1.out; have := ez2.out; have := ec1.out; have := ec2.out; have := ec3.out; have := ed1.out; have := ed2.out; have := ed3.out; omega))
                          have hc2 : wr.cell? ⟨gb, d3.toNat, none⟩ = some (.int .u64 (ga (bstS s (cst s 5) 25) d3.toNat)) := (blk_cell BKb.out _).trans (ue_get (by rw [bstS_len]; have := HK2.out; have := HC2.out; have := HK3.out; have := HC3.out; have := HS.out; have := ez1.out; have := ez2.out; have := ec1.out; have := ec2.out; have := ec3.out; have := ed1.out; have := ed2.out; have := ed3.out; omega))
                          have hst : wr.cell? ⟨gs, z2.toNat, none⟩ = some (.int .u64 (ga (sstS s (bstS s (cst s 5) 25) (5 * K2 + K3)) z2.toNat)) := (blk_cell BKs.out _).trans (ue_get (by rw [sstS_len, HS.out]; have := HK2.out; have := HC2.out; have := HK3.out; have := HC3.out; have := HS.out; have := ez1.out; have := ez2.out; have := ec1.out; have := ec2.out; have := ec3.out; have := ed1.out; have := ed2.out; have := ed3.out; omega))
                          have hfz : wr.frozen? ⟨gs, z2.toNat, none⟩ = false := blk_frozen BKs.out _
                          go_wp2
                          refine start_ (n := 31) (S := fun w' => w'.cell? ⟨gb, z2.toNat, none⟩ = some (.int .u64 (ga (bstS s (cst s 5) 25) z2.toNat)) ∧ w'.cell? ⟨gb, c3.toNat, none⟩ = some (.int .u64 (ga (bstS s (cst s 5) 25) c3.toNat)) ∧ w'.cell? ⟨gb, d3.toNat, none⟩ = some (.int .u64 (ga (bstS s (cst s 5) 25) d3.toNat))) (ds := [30]) #[false, false, false, false, false, false, false, false, false, false, false, false, false, false, false, false, false, false, false, false, false, false, false, false, false, false, false, false, false, false, false] (by kernel_rfl) rfl rfl ⟨hc0, hc1, hc2⟩ (fun hHeld => ?_)
                          refine with_tabW spec_l03Round.tab25 spec_l03Round.bits25 (fun HT_ HW_ => ?_)
                          refine pI 0 (some 106) HT_.out ?_
                          refine pI 1 (some 107) HT_.out ?_
                          refine pI 2 (some 108) HT_.out ?_
                          refine pI 3 (some 109) HT_.out ?_
                          refine pI 4 (some 110) HT_.out ?_
                          refine pI 5 (some 111) HT_.out ?_
                          refine pI 6 (some 112) HT_.out ?_
                          refine pI 7 (some 113) HT_.out ?_
                          refine pI 8 (some 114) HT_.out ?_
                          refine pI 10 (some 116) HT_.out ?_
                          refine pI 11 (some 117) HT_.out ?_
                          refine pI 12 (some 118) HT_.out ?_
                          refine pI 13 (some 119) HT_.out ?_
                          refine pI 14 (some 120) HT_.out ?_
                          refine pI 15 (some 121) HT_.out ?_
                          refine pI 16 (some 122) HT_.out ?_
                          refine pI 19 (some 125) HT_.out ?_
                          refine pI 20 (some 126) HT_.out ?_
                          refine pI 21 (some 127) HT_.out ?_
                          refine pI 22 (some 128) HT_.out ?_
                          refine pI 23 (some 129) HT_.out ?_
                          refine pI 24 (some 130) HT_.out ?_
                          refine pI 25 (some 131) HT_.out ?_
                          refine tI3 9 (some 115) HT_.out HW_.out hHeld ?_
                          refine tI3 17 (some 123) HT_.out HW_.out hHeld ?_
                          refine pI 18 (some 124) HT_.out ?_
                          refine tI3 26 (some 132) HT_.out HW_.out hHeld ?_
                          refine pI 27 (some 133) HT_.out ?_
                          refine pI 28 (some 134) HT_.out ?_
                          refine pI 29 (some 135) HT_.out ?_
                          refine last_ (i := 30) (N := none) #[true, true, true, true, true, true, true, true, true, true, true, true, true, true, true, true, true, true, true, true, true, true, true, true, true, true, true, true, true, true, true] rfl rfl (one_of HT_.out (by kernel_rfl)) (by decide) (fun K hK => ?_)
                          refine skip_ (w1 := ?_) (by rfl) rfl ?_ ?_
                          rotate_left
                          · go_simp
                            rfl
                          refine hK.out _ _ ?_
                          clear hK K
                          refine done_ (done_of HT_.out (by kernel_rfl)) ?_
                          go_wp2
                          go_roundg k3
                          case measure => omega
                          case rel => exact ⟨K3 + 1, _, rfl, ⟨by simp only [aI] at *; first | omega | (unfold wrap64; omega), by simp only [aI] at *; omega, by simp only [aI] at *; omega⟩, ⟨by (with_reducible repeat (first | refine blk_drewN ?_ _ | refine blk_drew ?_)); refine blk_put (cs := ue (sstS s (bstS s (cst s 5) 25) (5 * K2 + K3))) (by (with_reducible repeat (first | refine blk_drewN ?_ _ | refine blk_drew ?_)); exact BKs.out) z2.toNat _ ?_; rw [ue_set, sstS_succ s _ (by simp only [aI] at *; omega)]; simp only [chiS]; rw [show z2.toNat = K3 + 5 * K2 by simp only [aI] at *; omega, show c3.toNat = (K3 + 1) % 5 + 5 * K2 by simp only [aI] at *; omega, show d3.toNat = (K3 + 2) % 5 + 5 * K2 by simp only [aI] at *; omega]⟩, ⟨by (with_reducible repeat (first | refine blk_drewN ?_ _ | refine blk_drew ?_)); refine blk_far ?_ (p := ⟨gs, _, none⟩) NEsr.out.symm _; (with_reducible repeat (first | refine blk_drewN ?_ _ | refine blk_drew ?_)); exact BKr.out⟩, ⟨by (with_reducible repeat (first | refine blk_drewN ?_ _ | refine blk_drew ?_)); refine blk_far ?_ (p := ⟨gs, _, none⟩) NEsb.out.symm _; (with_reducible repeat (first | refine blk_drewN ?_ _ | refine blk_drew ?_)); exact BKb.out⟩, ⟨(show Below w.heap.size w _ by repeat (first | exact HB.out | apply Below.drew | apply pw_below_drewN | refine Below.setCell ?_ GEs.out _ | refine Below.setCell ?_ GEo.out _ | refine Below.setCell ?_ GEr.out _ | refine Below.setCell ?_ GEc.out _ | refine Below.setCell ?_ GEb.out _))⟩⟩
                        · have c0 : decide (x < 5) = false := decide_eq_false (by have := HK3.out; omega)
                          obtain rfl : K3 = 5 := by have := HK3.out; omega
                          clear c HK3
                          go_wp2
                          go_roundg k2
                          case measure => omega
                          case rel => exact ⟨K2 + 1, _, rfl, ⟨by have := HK2.out; have := HC2.out; first | omega | (unfold wrap64; omega), by have := HK2.out; have := HC2.out; omega, by have := HK2.out; have := HC2.out; omega⟩, ⟨by rw [show 5 * (K2 + 1) = 5 * K2 + 5 by omega]; (with_reducible repeat (first | refine blk_drewN ?_ _ | refine blk_drew ?_)); exact BKs.out⟩, ⟨by (with_reducible repeat (first | refine blk_drewN ?_ _ | refine blk_drew ?_)); exact BKr.out⟩, ⟨by (with_reducible repeat (first | refine blk_drewN ?_ _ | refine blk_drew ?_)); exact BKb.out⟩, ⟨(show Below w.heap.size w _ by repeat (first | exact HB.out | apply Below.drew | apply pw_below_drewN | refine Below.setCell ?_ GEs.out _ | refine Below.setCell ?_ GEo.out _ | refine Below.setCell ?_ GEr.out _ | refine Below.setCell ?_ GEc.out _ | refine Below.setCell ?_ GEb.out _))⟩⟩
                  · have c0 : decide (y < 5) = false := decide_eq_false (by have := HK2.out; omega)
                    obtain rfl : K2 = 5 := by have := HK2.out; omega
                    clear c HK2
                    have hc0 : wr.cell? ⟨gs, 0, none⟩ = some (.int .u64 (ga (sstS s (bstS s (cst s 5) 25) 25) 0)) := (blk_cell BKs.out _).trans (ue_get (by rw [sstS_len, HS.out]; decide))
                    have hfz : wr.frozen? ⟨gs, 0, none⟩ = false := blk_frozen BKs.out _
                    have HR0 := Aside0.mk (show roundS s rc = (sstS s (bstS s (cst s 5) 25) 25).set 0 (Go.bits .xor .u64 (ga (sstS s (bstS s (cst s 5) 25) 25) 0) rc) from rfl)
                    have HZ1 := Aside0.mk (show (Tryz.prog.info? 94).map (·.size) = some (ue (roundS s rc)).size by rw [ue_size, roundS_len, HS.out]; kernel_rfl)
                    have HZ2 := Aside0.mk (show (ue (List.replicate 25 0)).size = (ue (roundS s rc)).size by rw [ue_size, ue_size, roundS_len, HS.out, List.length_replicate])
                    go_wp2_with (first | ((with_reducible refine gate_dst (N := 141) rfl ?_); refine wpList_load_row rfl 94 _ rfl gs rfl 94 (ue (roundS s rc)) (0, 0) _ (by rw [HR0.out]; (with_reducible repeat (first | refine blk_drewN ?_ _ | refine blk_drew ?_)); exact blk_put (cs := ue (sstS s (bstS s (cst s 5) 25) 25)) (by (with_reducible repeat (first | refine blk_drewN ?_ _ | refine blk_drew ?_)); exact BKs.out) 0 _ (ue_set _ _ _)) Tryz.underlying94 rfl HZ1.out ?_) | ((with_reducible refine gate_store (t := 94) (p := 6) rfl ?_); refine store_row_event rfl 94 _ _ rfl gr (ue (roundS s rc)) rfl rfl 94 (ue (List.replicate 25 0)) (by (with_reducible repeat (first | refine blk_drewN ?_ _ | refine blk_drew ?_)); refine blk_far ?_ (p := ⟨gs, _, none⟩) NEsr.out.symm _; (with_reducible repeat (first | refine blk_drewN ?_ _ | refine blk_drew ?_)); exact BKr.out) HZ1.out HZ2.out (ue_one _) ?_; intro w9_ h1_ h2_ h3_; have n0_ := Aside0.mk (h3_ w.heap.size w (show Below w.heap.size w _ by repeat (first | exact HB.out | apply Below.drew | apply pw_below_drewN | refine Below.setCell ?_ GEs.out _ | refine Below.setCell ?_ GEo.out _ | refine Below.setCell ?_ GEr.out _ | refine Below.setCell ?_ GEc.out _ | refine Below.setCell ?_ GEb.out _)) GEr.out); clear HB BKr; have HB := n0_; have BKr := Aside0.mk h1_; clear n0_ h1_ h2_ h3_))
                    refine bodyPost_ret (results_cell_row rfl _ _ gr 94 (ue (roundS s rc)) (0, 0) _ rfl (by (with_reducible repeat (first | refine blk_drewN ?_ _ | refine blk_drew ?_)); exact BKr.out) Tryz.underlying94 rfl HZ1.out) rfl ?_
                    exact ⟨rfl, (show Below w.heap.size w _ by repeat (first | exact HB.out | apply Below.drew | apply pw_below_drewN | refine Below.setCell ?_ GEs.out _ | refine Below.setCell ?_ GEo.out _ | refine Below.setCell ?_ GEr.out _ | refine Below.setCell ?_ GEc.out _ | refine Below.setCell ?_ GEb.out _))⟩
theorem run_loadA {P : Program} {W : World} {o : Oper} {ρ : Operand → Value} {t e : TypeId} {x : Operand} {g : Nat} {cs : Array Value} (ho : o.op = .load t x) (hp : ρ x = .pointer (some ⟨g, 0, none⟩)) (hb : W.heap[g]? = some (.cells cs e (0, 0))) {d : TypeDesc}
    (hu : P.underlying t = some d) (hd : (match d with | .struct _ | .array _ _ => true | _ => false) = true) (hi : (P.info? t).map (·.size) = some cs.size) : (execOp ρ o).run P W = .ok (.value (.agg cs)) W := by
  unfold execOp
  rw [ho]
  simp only [hp, Instr.loadAt, Instr.sureAddr, Sem.run_bind, Sem.run_pure, Result.andThen_ok, run_loadVar_row W g e t cs (0, 0) d hb hu hd hi]
theorem run_storeA {P : Program} {W : World} {o : Oper} {ρ : Operand → Value} {t e : TypeId} {x y : Operand} {g : Nat} {cs old : Array Value} (ho : o.op = .store t x y) (hp : ρ x = .pointer (some ⟨g, 0, none⟩)) (hv : ρ y = .agg cs) (hb : W.heap[g]? = some (.cells old e (0, 0)))
    (hi : (P.info? t).map (·.size) = some cs.size) (hold : old.size = cs.size) (h1 : cs.all (·.oneCell') = true) : (execOp ρ o).run P W = .ok .skip (W.setRow g cs) := by
  unfold execOp
  rw [ho]
  simp only [hp, hv, Instr.storeAt, Instr.sureAddr, Sem.run_bind, Sem.run_pure, Result.andThen_ok, run_storeVar_row W g e t old cs hb hi hold h1]
def allS (s : List Int) : Nat → List Int
  | 0 => s
  | k + 1 => roundS (allS s k) (ga rcL k)
theorem allS_len (s : List Int) (k : Nat) : (allS s k).length = s.length := by
  induction k with
  | zero => rfl
  | succ k ih => simp [allS, roundS_len, ih]
def spec_l03All.T6 : Bool × List (List Nat × List Nat) := (true, [([], []), ([], []), ([], []), ([2], [2]), ([3], [3]), ([0, 1, 4], [0, 1, 4]), ([5, 5, 0, 1, 2, 3, 4, 5], [5])])
def spec_l03All.B6 : List Nat := [0, 0, 0, 4, 12, 31, 63]
theorem spec_l03All.tab6 : rtab .any (opsOf Tryz.f109 6) = spec_l03All.T6 := by kernel_rfl
theorem spec_l03All.bits6 : waitsOk spec_l03All.T6.2 spec_l03All.B6 = true := by kernel_rfl
theorem spec_l03All.calls (s : List Int) (hs : s.length = 25) (w : World) :
    Calls Tryz.prog 109 #[.agg (ue s)] w fun e w' => e = .returned (.agg (ue (allS s 24))) ∧ Below w.heap.size w w' := by
  have HB := Aside0.mk (Below.refl w.heap.size w)
  have HS := Aside0.mk hs
  clear hs
  go_enter Tryz.func109, Tryz.ntmps109
  go_wp2_with (first | ((with_reducible refine gate_dst (N := 1) rfl ?_); refine box_event ?hg (N := 1) ?hd (cs := ue s) (t := 94) ?hr ?_; (case hd => rfl); (case hg => rfl); (case hr => first | (go_simp; done) | (go_simp; rfl)); intro gs hg w1_ hbox hb; have n0_ := Aside0.mk (below_then (show Below w.heap.size w _ by repeat (first | exact HB.out | apply Below.drew | apply pw_below_drewN)) (Below.size (show Below w.heap.size w _ by repeat (first | exact HB.out | apply Below.drew | apply pw_below_drewN))) hb); have n1_ := Aside0.mk (show w.heap.size ≤ gs by rw [hg]; exact (Below.size (show Below w.heap.size w _ by repeat (first | exact HB.out | apply Below.drew | apply pw_below_drewN)))); have BKs := Aside0.mk hbox; clear  HB; have HB := n0_; have GEs := n1_; clear n0_ n1_ hb hbox hg) | ((with_reducible refine gate_dst (N := 2) rfl ?_); refine box_event ?hg (N := 2) ?hd (cs := ue (List.replicate 25 0)) (t := 94) ?hr ?_; (case hd => rfl); (case hg => rfl); (case hr => first | (go_simp; done) | (go_simp; rfl)); intro gr hg w1_ hbox hb; have n0_ := Aside0.mk (blk_below (by (with_reducible repeat (first | refine blk_drewN ?_ _ | refine blk_drew ?_)); exact BKs.out) hb); have n1_ := Aside0.mk (below_then (show Below w.heap.size w _ by repeat (first | exact HB.out | apply Below.drew | apply pw_below_drewN)) (Below.size (show Below w.heap.size w _ by repeat (first | exact HB.out | apply Below.drew | apply pw_below_drewN))) hb); have n2_ := Aside0.mk (show w.heap.size ≤ gr by rw [hg]; exact (Below.size (show Below w.heap.size w _ by repeat (first | exact HB.out | apply Below.drew | apply pw_below_drewN)))); have n3_ := Aside0.mk (show gs ≠ gr by rw [hg]; exact Nat.ne_of_lt (blk_lt (o := .cells _ _ _) (by (with_reducible repeat (first | refine blk_drewN ?_ _ | refine blk_drew ?_)); exact BKs.out))); have BKr := Aside0.mk hbox; clear BKs HB; have BKs := n0_; have HB := n1_; have GEr := n2_; have NEsr := n3_; clear n0_ n1_ n2_ n3_ hb hbox hg) | (go_at_call 137; (with_reducible refine (spec_l03Offsets.calls _).mono ?_); rintro e w1_ ⟨rfl, hb⟩; have n0_ := Aside0.mk (below_then (show Below w.heap.size w _ by repeat (first | exact HB.out | apply Below.drew | apply pw_below_drewN)) (Below.size (show Below w.heap.size w _ by repeat (first | exact HB.out | apply Below.drew | apply pw_below_drewN))) hb); have m0_ := Aside0.mk (blk_below (by (with_reducible repeat (first | refine blk_drewN ?_ _ | refine blk_drew ?_)); exact BKs.out) hb); have m1_ := Aside0.mk (blk_below (by (with_reducible repeat (first | refine blk_drewN ?_ _ | refine blk_drew ?_)); exact BKr.out) hb); clear HB BKs BKr hb; have HB := n0_; have BKs := m0_; have BKr := m1_; clear n0_ m0_ m1_) | ((with_reducible refine gate_dst (N := 3) rfl ?_); refine box_event ?hg (N := 3) ?hd (cs := ue (List.replicate 25 0)) (t := 117) ?hr ?_; (case hd => rfl); (case hg => rfl); (case hr => first | (go_simp; done) | (go_simp; rfl)); intro go hg w1_ hbox hb; have n0_ := Aside0.mk (blk_below (by (with_reducible repeat (first | refine blk_drewN ?_ _ | refine blk_drew ?_)); exact BKs.out) hb); have n1_ := Aside0.mk (blk_below (by (with_reducible repeat (first | refine blk_drewN ?_ _ | refine blk_drew ?_)); exact BKr.out) hb); have n2_ := Aside0.mk (below_then (show Below w.heap.size w _ by repeat (first | exact HB.out | apply Below.drew | apply pw_below_drewN)) (Below.size (show Below w.heap.size w _ by repeat (first | exact HB.out | apply Below.drew | apply pw_below_drewN))) hb); have n3_ := Aside0.mk (show w.heap.size ≤ go by rw [hg]; exact (Below.size (show Below w.heap.size w _ by repeat (first | exact HB.out | apply Below.drew | apply pw_below_drewN)))); have n4_ := Aside0.mk (show gs ≠ go by rw [hg]; exact Nat.ne_of_lt (blk_lt (o := .cells _ _ _) (by (with_reducible repeat (first | refine blk_drewN ?_ _ | refine blk_drew ?_)); exact BKs.out))); have n5_ := Aside0.mk (show gr ≠ go by rw [hg]; exact Nat.ne_of_lt (blk_lt (o := .cells _ _ _) (by (with_reducible repeat (first | refine blk_drewN ?_ _ | refine blk_drew ?_)); exact BKr.out))); have BKo := Aside0.mk hbox; clear BKs BKr HB; have BKs := n0_; have BKr := n1_; have HB := n2_; have GEo := n3_; have NEso := n4_; have NEro := n5_; clear n0_ n1_ n2_ n3_ n4_ n5_ hb hbox hg) | ((with_reducible refine gate_store (t := 117) (p := 3) rfl ?_); refine store_row_event rfl 117 _ _ rfl go (ue (turnsL)) rfl rfl 117 (ue (List.replicate 25 0)) (by (with_reducible repeat (first | refine blk_drewN ?_ _ | refine blk_drew ?_)); exact BKo.out) (by kernel_rfl) rfl (ue_one _) ?_; intro w9_ h1_ h2_ h3_; have n0_ := Aside0.mk (h3_ w.heap.size w (show Below w.heap.size w _ by repeat (first | exact HB.out | apply Below.drew | apply pw_below_drewN)) GEo.out); have m0_ := Aside0.mk ((h2_ gs NEso.out).trans (by (with_reducible repeat (first | refine blk_drewN ?_ _ | refine blk_drew ?_)); exact BKs.out)); have m1_ := Aside0.mk ((h2_ gr NEro.out).trans (by (with_reducible repeat (first | refine blk_drewN ?_ _ | refine blk_drew ?_)); exact BKr.out)); clear HB BKo BKs BKr; have HB := n0_; have BKo := Aside0.mk h1_; have BKs := m0_; have BKr := m1_; clear n0_ h1_ h2_ h3_ m0_ m1_) | (go_at_call 138; (with_reducible refine (spec_l03Rounds.calls _).mono ?_); rintro e w1_ ⟨rfl, hb⟩; have n0_ := Aside0.mk (below_then (show Below w.heap.size w _ by repeat (first | exact HB.out | apply Below.drew | apply pw_below_drewN)) (Below.size (show Below w.heap.size w _ by repeat (first | exact HB.out | apply Below.drew | apply pw_below_drewN))) hb); have m0_ := Aside0.mk (blk_below (by (with_reducible repeat (first | refine blk_drewN ?_ _ | refine blk_drew ?_)); exact BKs.out) hb); have m1_ := Aside0.mk (blk_below (by (with_reducible repeat (first | refine blk_drewN ?_ _ | refine blk_drew ?_)); exact BKr.out) hb); have m2_ := Aside0.mk (blk_below (by (with_reducible repeat (first | refine blk_drewN ?_ _ | refine blk_drew ?_)); exact BKo.out) hb); clear HB BKs BKr BKo hb; have HB := n0_; have BKs := m0_; have BKr := m1_; have BKo := m2_; clear n0_ m0_ m1_ m2_) | ((with_reducible refine gate_dst (N := 4) rfl ?_); refine box_event ?hg (N := 4) ?hd (cs := ue (List.replicate 24 0)) (t := 119) ?hr ?_; (case hd => rfl); (case hg => rfl); (case hr => first | (go_simp; done) | (go_simp; rfl)); intro gk hg w1_ hbox hb; have n0_ := Aside0.mk (blk_below (by (with_reducible repeat (first | refine blk_drewN ?_ _ | refine blk_drew ?_)); exact BKs.out) hb); have n1_ := Aside0.mk (blk_below (by (with_reducible repeat (first | refine blk_drewN ?_ _ | refine blk_drew ?_)); exact BKr.out) hb); have n2_ := Aside0.mk (blk_below (by (with_reducible repeat (first | refine blk_drewN ?_ _ | refine blk_drew ?_)); exact BKo.out) hb); have n3_ := Aside0.mk (below_then (show Below w.heap.size w _ by repeat (first | exact HB.out | apply Below.drew | apply pw_below_drewN)) (Below.size (show Below w.heap.size w _ by repeat (first | exact HB.out | apply Below.drew | apply pw_below_drewN))) hb); have n4_ := Aside0.mk (show w.heap.size ≤ gk by rw [hg]; exact (Below.size (show Below w.heap.size w _ by repeat (first | exact HB.out | apply Below.drew | apply pw_below_drewN)))); have n5_ := Aside0.mk (show gs ≠ gk by rw [hg]; exact Nat.ne_of_lt (blk_lt (o := .cells _ _ _) (by (with_reducible repeat (first | refine blk_drewN ?_ _ | refine blk_drew ?_)); exact BKs.out))); have n6_ := Aside0.mk (show gr ≠ gk by rw [hg]; exact Nat.ne_of_lt (blk_lt (o := .cells _ _ _) (by (with_reducible repeat (first | refine blk_drewN ?_ _ | refine blk_drew ?_)); exact BKr.out))); have n7_ := Aside0.mk (show go ≠ gk by rw [hg]; exact Nat.ne_of_lt (blk_lt (o := .cells _ _ _) (by (with_reducible repeat (first | refine blk_drewN ?_ _ | refine blk_drew ?_)); exact BKo.out))); have BKk := Aside0.mk hbox; clear BKs BKr BKo HB; have BKs := n0_; have BKr := n1_; have BKo := n2_; have HB := n3_; have GEk := n4_; have NEsk := n5_; have NErk := n6_; have NEok := n7_; clear n0_ n1_ n2_ n3_ n4_ n5_ n6_ n7_ hb hbox hg) | ((with_reducible refine gate_store (t := 119) (p := 4) rfl ?_); refine store_row_event rfl 119 _ _ rfl gk (ue (rcL)) rfl rfl 119 (ue (List.replicate 24 0)) (by (with_reducible repeat (first | refine blk_drewN ?_ _ | refine blk_drew ?_)); exact BKk.out) (by kernel_rfl) rfl (ue_one _) ?_; intro w9_ h1_ h2_ h3_; have n0_ := Aside0.mk (h3_ w.heap.size w (show Below w.heap.size w _ by repeat (first | exact HB.out | apply Below.drew | apply pw_below_drewN)) GEk.out); have m0_ := Aside0.mk ((h2_ gs NEsk.out).trans (by (with_reducible repeat (first | refine blk_drewN ?_ _ | refine blk_drew ?_)); exact BKs.out)); have m1_ := Aside0.mk ((h2_ gr NErk.out).trans (by (with_reducible repeat (first | refine blk_drewN ?_ _ | refine blk_drew ?_)); exact BKr.out)); have m2_ := Aside0.mk ((h2_ go NEok.out).trans (by (with_reducible repeat (first | refine blk_drewN ?_ _ | refine blk_drew ?_)); exact BKo.out)); clear HB BKk BKs BKr BKo; have HB := n0_; have BKk := Aside0.mk h1_; have BKs := m0_; have BKr := m1_; have BKo := m2_; clear n0_ h1_ h2_ h3_ m0_ m1_ m2_))
  go_loopg [5] 25 (fun kq v5 w' => ∃ (k : Nat) (x : Int), v5 = .int .i64 x ∧ Aside0 (x = (k : Int) ∧ k + kq = 25 ∧ k ≤ 24) ∧ Aside0 (w'.heap[gs]? = some (.cells (ue (allS s k)) 94 (0, 0))) ∧ Aside0 (w'.heap[gr]? = some (.cells (ue (List.replicate 25 0)) 94 (0, 0))) ∧ Aside0 (w'.heap[go]? = some (.cells (ue (turnsL)) 117 (0, 0))) ∧ Aside0 (w'.heap[gk]? = some (.cells (ue (rcL)) 119 (0, 0))) ∧ Aside0 (Below w.heap.size w w'))
  case atStart => exact ⟨0, 0, rfl, ⟨rfl, rfl, by decide⟩, ⟨by (with_reducible repeat (first | refine blk_drewN ?_ _ | refine blk_drew ?_)); exact BKs.out⟩, ⟨by (with_reducible repeat (first | refine blk_drewN ?_ _ | refine blk_drew ?_)); exact BKr.out⟩, ⟨by (with_reducible repeat (first | refine blk_drewN ?_ _ | refine blk_drew ?_)); exact BKo.out⟩, ⟨by (with_reducible repeat (first | refine blk_drewN ?_ _ | refine blk_drew ?_)); exact BKk.out⟩, ⟨(show Below w.heap.size w _ by repeat (first | exact HB.out | apply Below.drew | apply pw_below_drewN))⟩⟩
  case round =>
    clear BKs BKr BKo BKk HB
    obtain ⟨K1, x, rfl, HK1, BKs, BKr, BKo, BKk, HB⟩ := hrel
    cases gk with
    | zero => exact absurd HK1.out (by omega)
    | succ k1 =>
      by_cases c : K1 < 24
      · have c0 : decide (x < 24) = true := decide_eq_true (by have := HK1.out; omega)
        have HC1 := Aside0.mk c
        clear c
        have px : (0 ≤ x) = True := eq_true (by have := HK1.out; have := HC1.out; omega)
        have qx : (x < 24) = True := eq_true (by have := HK1.out; have := HC1.out; omega)
        have hc0 : wr.cell? ⟨gk, x.toNat, none⟩ = some (.int .u64 (ga rcL x.toNat)) := (blk_cell BKk.out _).trans (ue_get (by show x.toNat < 24; have := HK1.out; have := HC1.out; omega))
        have HZ1 := Aside0.mk (show (Tryz.prog.info? 94).map (·.size) = some (ue (allS s K1)).size by rw [ue_size, allS_len, HS.out]; kernel_rfl)
        obtain ⟨nv, hnv⟩ : ∃ y_ : List Int, y_ = roundS (allS s K1) (ga rcL x.toNat) := ⟨_, rfl⟩
        have HNL := Aside0.mk (show nv.length = 25 by rw [hnv, roundS_len, allS_len, HS.out])
        have HNV := Aside0.mk hnv
        clear hnv
        have HZ2 := Aside0.mk (show (Tryz.prog.info? 94).map (·.size) = some (ue nv).size by rw [ue_size, HNL.out]; kernel_rfl)
        have HZ3 := Aside0.mk (show (ue (allS s K1)).size = (ue nv).size by rw [ue_size, ue_size, HNL.out, allS_len, HS.out])
        go_wp2
        refine start_ (n := 7) (S := fun w' => w'.heap[gs]? = some (.cells (ue (allS s K1)) 94 (0, 0)) ∧ w'.heap[go]? = some (.cells (ue turnsL) 117 (0, 0)) ∧ w'.cell? ⟨gk, x.toNat, none⟩ = some (.int .u64 (ga rcL x.toNat))) (ds := [6]) #[false, false, false, false, false, false, false] (by kernel_rfl) rfl rfl ⟨(by (with_reducible repeat (first | refine blk_drewN ?_ _ | refine blk_drew ?_)); exact BKs.out), (by (with_reducible repeat (first | refine blk_drewN ?_ _ | refine blk_drew ?_)); exact BKo.out), (by exact hc0)⟩ (fun hHeld => ?_)
        refine with_tabW spec_l03All.tab6 spec_l03All.bits6 (fun HT_ HW_ => ?_)
        refine pI 2 (some 14) HT_.out ?_
        refine pI 3 (some 15) HT_.out ?_
        refine take_ (i := 0) (N := some 12) (v := ?_) (a' := ?_) #[true, false, true, true, false, false, false] rfl rfl (take_ofW HT_.out HW_.out (by kernel_rfl)) (fun _ _ _ h => h) (Or.inl ⟨by rfl, ?_⟩) hHeld ?_ ?_
        rotate_left
        · rintro w' ⟨s0, s1, s2⟩
          refine run_loadA (t := 94) (x := .tmp 1) ?_ ?_ s0 Tryz.underlying94 rfl HZ1.out
          all_goals rfl
        rotate_left
        · simp only [Act.put, List.setIfInBounds_toArray, List.set_cons_zero, List.set_cons_succ, i64_w, i32_w]
          rfl
        refine take_ (i := 1) (N := some 13) (v := ?_) (a' := ?_) #[true, true, true, true, false, false, false] rfl rfl (take_ofW HT_.out HW_.out (by kernel_rfl)) (fun _ _ _ h => h) (Or.inl ⟨by rfl, ?_⟩) hHeld ?_ ?_
        rotate_left
        · rintro w' ⟨s0, s1, s2⟩
          refine run_loadA (t := 117) (x := .tmp 3) ?_ ?_ s1 Tryz.underlying117 rfl (by kernel_rfl)
          all_goals rfl
        rotate_left
        · simp only [Act.put, List.setIfInBounds_toArray, List.set_cons_zero, List.set_cons_succ, i64_w, i32_w]
          rfl
        refine tI3 4 (some 16) HT_.out HW_.out hHeld ?_
        refine oI 5 (some 17) HT_.out (fun K hK => ?_)
        refine goes_ Tryz.func139 (by kernel_rfl) rfl #[.agg (ue (allS s K1)), .agg (ue turnsL), .int .u64 (ga rcL x.toNat)] (by rfl) rfl rfl (by simp only [List.map_toArray, List.map_cons, List.map_nil]; rfl) ?_
        with_reducible refine (spec_l03Round.calls (allS s K1) (by rw [allS_len]; exact HS.out) (ga rcL x.toNat) _).mono ?_
        rintro e w3_ ⟨rfl, hb⟩
        rw [← HNV.out]
        have nB_ := Aside0.mk (below_then (show Below w.heap.size w _ by repeat (first | exact HB.out | apply Below.drew | apply pw_below_drewN)) (Below.size (show Below w.heap.size w _ by repeat (first | exact HB.out | apply Below.drew | apply pw_below_drewN))) hb)
        have ms_ := Aside0.mk (blk_below (by (with_reducible repeat (first | refine blk_drewN ?_ _ | refine blk_drew ?_)); exact BKs.out) hb)
        have mr_ := Aside0.mk (blk_below (by (with_reducible repeat (first | refine blk_drewN ?_ _ | refine blk_drew ?_)); exact BKr.out) hb)
        have mo_ := Aside0.mk (blk_below (by (with_reducible repeat (first | refine blk_drewN ?_ _ | refine blk_drew ?_)); exact BKo.out) hb)
        have mk_ := Aside0.mk (blk_below (by (with_reducible repeat (first | refine blk_drewN ?_ _ | refine blk_drew ?_)); exact BKk.out) hb)
        refine ⟨_, rfl, ?_⟩
        refine hK.out _ _ ⟨(by exact ms_.out), (by exact mo_.out), ((blk_cell mk_.out _).trans (ue_get (by show x.toNat < 24; have := HK1.out; have := HC1.out; omega)))⟩ (fun hHeld => ?_)
        clear hK K
        refine nO (some 17) ?_
        refine last_ (i := 6) (N := none) #[true, true, true, true, true, true, true] rfl rfl (one_of HT_.out (by kernel_rfl)) (by decide) (fun K hK => ?_)
        refine skip_ (w1 := World.setRow w3_ gs (ue nv)) (by rfl) rfl ?_ ?_
        · refine run_storeA (t := 94) (x := .tmp 1) (y := .tmp 17) ?_ ?_ ?_ ms_.out HZ2.out HZ3.out (ue_one _)
          all_goals rfl
        refine hK.out _ _ ?_
        clear hK K
        refine done_ (done_of HT_.out (by kernel_rfl)) ?_
        have q0_ := Aside0.mk (below_setRow nB_.out GEs.out (ue nv))
        have q1_ := Aside0.mk (setRow_heap w3_ gs _ (ue nv) _ _ ms_.out)
        have qr_ := Aside0.mk ((setRow_other w3_ gs gr (ue nv) NEsr.out.symm).trans mr_.out)
        have qo_ := Aside0.mk ((setRow_other w3_ gs go (ue nv) NEso.out.symm).trans mo_.out)
        have qk_ := Aside0.mk ((setRow_other w3_ gs gk (ue nv) NEsk.out.symm).trans mk_.out)
        clear HB BKs BKr BKo BKk
        generalize World.setRow w3_ gs (ue nv) = w8_ at q0_ q1_ qr_ qo_ qk_ ⊢
        have HB := q0_
        have BKs := q1_
        have BKr := qr_
        have BKo := qo_
        have BKk := qk_
        clear q0_ q1_ qr_ qo_ qk_ nB_ ms_ mr_ mo_ mk_
        go_wp2
        go_roundg k1
        case measure => omega
        case rel => exact ⟨K1 + 1, _, rfl, ⟨by have := HK1.out; have := HC1.out; first | omega | (unfold wrap64; omega), by have := HK1.out; have := HC1.out; omega, by have := HK1.out; have := HC1.out; omega⟩, ⟨by have h_ := BKs.out; rw [HNV.out, show x.toNat = K1 by have := HK1.out; have := HC1.out; omega] at h_; (with_reducible repeat (first | refine blk_drewN ?_ _ | refine blk_drew ?_)); exact h_⟩, ⟨by (with_reducible repeat (first | refine blk_drewN ?_ _ | refine blk_drew ?_)); exact BKr.out⟩, ⟨by (with_reducible repeat (first | refine blk_drewN ?_ _ | refine blk_drew ?_)); exact BKo.out⟩, ⟨by (with_reducible repeat (first | refine blk_drewN ?_ _ | refine blk_drew ?_)); exact BKk.out⟩, ⟨(show Below w.heap.size w _ by repeat (first | exact HB.out | apply Below.drew | apply pw_below_drewN))⟩⟩
      · have c0 : decide (x < 24) = false := decide_eq_false (by have := HK1.out; omega)
        obtain rfl : K1 = 24 := by have := HK1.out; omega
        clear c
        have HZ1 := Aside0.mk (show (Tryz.prog.info? 94).map (·.size) = some (ue (allS s 24)).size by rw [ue_size, allS_len, HS.out]; kernel_rfl)
        have HZ2 := Aside0.mk (show (ue (List.replicate 25 0)).size = (ue (allS s 24)).size by rw [ue_size, ue_size, allS_len, HS.out, List.length_replicate])
        go_wp2_with (first | ((with_reducible refine gate_dst (N := 18) rfl ?_); refine wpList_load_row rfl 94 _ rfl gs rfl 94 (ue (allS s 24)) (0, 0) _ (by (with_reducible repeat (first | refine blk_drewN ?_ _ | refine blk_drew ?_)); exact BKs.out) Tryz.underlying94 rfl HZ1.out ?_) | ((with_reducible refine gate_store (t := 94) (p := 2) rfl ?_); refine store_row_event rfl 94 _ _ rfl gr (ue (allS s 24)) rfl rfl 94 (ue (List.replicate 25 0)) (by (with_reducible repeat (first | refine blk_drewN ?_ _ | refine blk_drew ?_)); exact BKr.out) HZ1.out HZ2.out (ue_one _) ?_; intro w9_ h1_ h2_ h3_; have n0_ := Aside0.mk (h3_ w.heap.size w (show Below w.heap.size w _ by repeat (first | exact HB.out | apply Below.drew | apply pw_below_drewN)) GEr.out); clear HB BKr; have HB := n0_; have BKr := Aside0.mk h1_; clear n0_ h1_ h2_ h3_))
        refine bodyPost_ret (results_cell_row rfl _ _ gr 94 (ue (allS s 24)) (0, 0) _ rfl (by (with_reducible repeat (first | refine blk_drewN ?_ _ | refine blk_drew ?_)); exact BKr.out) Tryz.underlying94 rfl HZ1.out) rfl ?_
        exact ⟨rfl, (show Below w.heap.size w _ by repeat (first | exact HB.out | apply Below.drew | apply pw_below_drewN))⟩
def u8e (xs : List Int) : Array Value := (xs.map (Value.int .u8)).toArray
theorem u8e_get {xs : List Int} {i : Nat} (h : i < xs.length) : (u8e xs)[i]? = some (.int .u8 (ga xs i)) := by
  unfold u8e ga
  rw [List.getElem?_toArray, List.getElem?_map, List.getElem?_eq_getElem h, List.getD_eq_getElem?_getD, List.getElem?_eq_getElem h]
  rfl
theorem u8e_set (xs : List Int) (i : Nat) (v : Int) : (u8e xs).setIfInBounds i (.int .u8 v) = u8e (xs.set i v) := by
  unfold u8e
  rw [List.setIfInBounds_toArray, List.map_set]
theorem made200 : madeCells (Value.int .u8 0).cells (200 * 1) = u8e (List.replicate 200 0) := by kernel_rfl
section
variable {P : Program} {ops : Array Oper} {rest : List Oper} {o : Oper} {a : Act} {Q : Exit → Act → World → Prop}
theorem make_event {W : World} (hgd : o.guard = none) {N : Tmp} (_hd : o.dst = some N) {t e : TypeId} {x y : Operand} (ho : o.op = .makeSlice t x y) {i : TypeInfo} {z : Value} (ht : P.underlying t = some (.slice e)) (hi : P.info? e = some i) (hz : i.zero = some z)
    (n : Nat) (hx : a.eval x = .int .i64 (n : Int)) (hy : a.eval y = .int .i64 (n : Int)) (hb : (i.bytes : Int) * n ≤ 281474976710656) (h63 : n ≤ 1000000)
    (h : ∀ g, g = W.heap.size → ∀ w1, w1.heap[g]? = some (.cells (madeCells z.cells (n * i.size)) e (0, 0)) → Below W.heap.size W w1 → wpList P ops Q rest (a.put o.dst (.slice (some ⟨g, 0, none⟩) n n)) w1) : wpList P ops Q (o :: rest) a W := by
  have hr := run_make (P := P) W t e i z ht hi hz .i64 .i64 (n : Int) (n : Int) (by omega) (by omega) hb (by omega)
  simp only [Int.toNat_natCast] at hr
  refine Kd.event_run hgd (v := .slice (some ⟨W.heap.size, 0, none⟩) n n) (w1 := W.alloc (.cells (madeCells z.cells (n * i.size)) e)) ?_ (h _ rfl _ (blk_new W _) (below_alloc (Below.refl _ _) _))
  unfold execOp
  rw [ho]
  dsimp only
  rw [hx, hy, Sem.run_bind, hr]
  rfl
end
def byteS (a : List Int) (k : Nat) : Int := ga a (k / 8) / 2 ^ min (((8 * (k % 8) : Nat) : Int)).toNat 64 % 256
def tby (a : List Int) : Nat → List Int
  | 0 => List.replicate 200 0
  | k + 1 => (tby a k).set k (byteS a k)
theorem tby_len (a : List Int) (k : Nat) : (tby a k).length = 200 := by
  induction k with
  | zero => rfl
  | succ k ih => simp [tby, ih]
set_option maxHeartbeats 4000000 in
theorem spec_l03Text.calls (s : List Int) (hs : s.length = 25) (w : World) :
    Calls Tryz.prog 110 #[.agg (ue s)] w fun e w' => e = .returned (.string (strOfNums (tby s 200))) ∧ Below w.heap.size w w' := by
  have HB := Aside0.mk (Below.refl w.heap.size w)
  have HS := Aside0.mk hs
  clear hs
  obtain ⟨i0, hi, hz0, hz1, hz2⟩ := info_parts info5
  go_enter Tryz.func110, Tryz.ntmps110
  go_wp2_with (first | ((with_reducible refine gate_dst (N := 1) rfl ?_); refine box_event ?hg (N := 1) ?hd (cs := ue s) (t := 94) ?hr ?_; (case hd => rfl); (case hg => rfl); (case hr => first | (go_simp; done) | (go_simp; rfl)); intro gs hg w1_ hbox hb; have n0_ := Aside0.mk (below_then (show Below w.heap.size w _ by repeat (first | exact HB.out | apply Below.drew | apply pw_below_drewN)) (Below.size (show Below w.heap.size w _ by repeat (first | exact HB.out | apply Below.drew | apply pw_below_drewN))) hb); have BKs := Aside0.mk hbox; clear HB; have HB := n0_; clear n0_ hb hbox hg) | ((with_reducible refine gate_dst (N := 5) rfl ?_); refine make_event ?hg (N := 5) ?hd (t := 22) (e := 5) rfl Tryz.underlying22 hi hz0 200 rfl rfl (by rw [hz2]; decide) (by decide) ?_; (case hd => rfl); (case hg => rfl); intro gb hg w2_ hbox hb; have n0_ := Aside0.mk (below_then (show Below w.heap.size w _ by repeat (first | exact HB.out | apply Below.drew | apply pw_below_drewN)) (Below.size (show Below w.heap.size w _ by repeat (first | exact HB.out | apply Below.drew | apply pw_below_drewN))) hb); have m0_ := Aside0.mk (blk_below (by (with_reducible repeat (first | refine blk_drewN ?_ _ | refine blk_drew ?_)); exact BKs.out) hb); have GEs := Aside0.mk (show w.heap.size ≤ gb by rw [hg]; exact Below.size (show Below w.heap.size w _ by repeat (first | exact HB.out | apply Below.drew | apply pw_below_drewN))); have NE := Aside0.mk (show gs ≠ gb by rw [hg]; exact Nat.ne_of_lt (blk_lt (o := .cells _ _ _) (by (with_reducible repeat (first | refine blk_drewN ?_ _ | refine blk_drew ?_)); exact BKs.out))); have BKb := Aside0.mk (show w2_.heap[gb]? = some (.cells (u8e (List.replicate 200 0)) 5 (0, 0)) by rw [← made200, ← hz1]; exact hbox); clear HB BKs; have HB := n0_; have BKs := m0_; clear n0_ m0_ hb hbox hg))
  go_loopg [4] 201 (fun kq v4 w' => ∃ (k : Nat) (x : Int), v4 = .int .i64 x ∧ Aside0 (x = (k : Int) ∧ k + kq = 201 ∧ k ≤ 200) ∧ Aside0 (w'.heap[gs]? = some (.cells (ue s) 94 (0, 0))) ∧ Aside0 (w'.heap[gb]? = some (.cells (u8e (tby s k)) 5 (0, 0))) ∧ Aside0 (Below w.heap.size w w'))
  case atStart => exact ⟨0, 0, rfl, ⟨rfl, rfl, by decide⟩, ⟨by (with_reducible repeat (first | refine blk_drewN ?_ _ | refine blk_drew ?_)); exact BKs.out⟩, ⟨by (with_reducible repeat (first | refine blk_drewN ?_ _ | refine blk_drew ?_)); exact BKb.out⟩, ⟨(by repeat (first | exact HB.out | apply Below.drew | apply pw_below_drewN | refine Below.setCell ?_ GEs.out _))⟩⟩
  case round =>
    clear BKs BKb HB
    obtain ⟨K1, x, rfl, HK1, BKs, BKb, HB⟩ := hrel
    cases gk with
    | zero => exact absurd HK1.out (by omega)
    | succ k1 =>
      by_cases c : K1 < 200
      · have c0 : decide (x < 200) = true := decide_eq_true (by have := HK1.out; omega)
        have HC1 := Aside0.mk c
        clear c
        obtain ⟨q, hq, eq⟩ : ∃ y_, Int.tdiv x 8 = y_ ∧ Aside0 (y_ = ((K1 / 8 : Nat) : Int)) := ⟨_, rfl, ⟨by have := HK1.out; rw [Int.tdiv_eq_ediv_of_nonneg (by omega)]; omega⟩⟩
        have hwq : wrap64 q = q := by have := eq.out; have := HC1.out; unfold wrap64; omega
        obtain ⟨m, hm, em⟩ : ∃ y_, Int.tmod x 8 = y_ ∧ Aside0 (y_ = ((K1 % 8 : Nat) : Int)) := ⟨_, rfl, ⟨by have := HK1.out; rw [Int.tmod_eq_emod_of_nonneg (by omega)]; omega⟩⟩
        have hu1 : IntKind.u64.wrap m = m := by have := em.out; rw [IntKind.wrap_u64]; omega
        obtain ⟨n, hn, en⟩ : ∃ y_, IntKind.u64.wrap (8 * m) = y_ ∧ Aside0 (y_ = ((8 * (K1 % 8) : Nat) : Int)) := ⟨_, rfl, ⟨by have := em.out; rw [IntKind.wrap_u64]; omega⟩⟩
        have pq : (0 ≤ q) = True := eq_true (by have := eq.out; omega)
        have qq : (q < 25) = True := eq_true (by have := eq.out; have := HC1.out; omega)
        have px : (0 ≤ x) = True := eq_true (by have := HK1.out; omega)
        have qx : (x < 200) = True := eq_true (by have := HK1.out; have := HC1.out; omega)
        have pn : (0 ≤ n) = True := eq_true (by have := en.out; omega)
        have hc0 : wr.cell? ⟨gs, q.toNat, none⟩ = some (.int .u64 (ga s q.toNat)) := (blk_cell BKs.out _).trans (ue_get (by rw [HS.out]; have := eq.out; have := HC1.out; omega))
        have hst : wr.cell? ⟨gb, x.toNat, none⟩ = some (.int .u8 (ga (tby s K1) x.toNat)) := (blk_cell BKb.out _).trans (u8e_get (by rw [tby_len]; have := HK1.out; have := HC1.out; omega))
        have hfz : wr.frozen? ⟨gb, x.toNat, none⟩ = false := blk_frozen BKb.out _
        go_wp2
        go_roundg k1
        case measure => omega
        case rel => exact ⟨K1 + 1, _, rfl, ⟨by have := HK1.out; first | omega | (unfold wrap64; omega), by have := HK1.out; omega, by have := HK1.out; have := HC1.out; omega⟩, ⟨by (with_reducible repeat (first | refine blk_drewN ?_ _ | refine blk_drew ?_)); refine blk_far ?_ (p := ⟨gb, _, none⟩) NE.out _; (with_reducible repeat (first | refine blk_drewN ?_ _ | refine blk_drew ?_)); exact BKs.out⟩, ⟨by (with_reducible repeat (first | refine blk_drewN ?_ _ | refine blk_drew ?_)); refine blk_put (cs := u8e (tby s K1)) (by (with_reducible repeat (first | refine blk_drewN ?_ _ | refine blk_drew ?_)); exact BKb.out) x.toNat _ ?_; rw [u8e_set]; simp only [tby, byteS]; rw [show x.toNat = K1 by have := HK1.out; omega, show q.toNat = K1 / 8 by have := eq.out; omega, en.out]⟩, ⟨(by repeat (first | exact HB.out | apply Below.drew | apply pw_below_drewN | refine Below.setCell ?_ GEs.out _))⟩⟩
      · have c0 : decide (x < 200) = false := decide_eq_false (by have := HK1.out; omega)
        obtain rfl : K1 = 200 := by have := HK1.out; omega
        clear c
        go_wp2_with (first | ((with_reducible refine gate_dst (N := 24) rfl ?_); refine conv2_event ?hg (N := 24) ?hd (src := 22) (dst := 9) (e := 5) rfl (g := gb) (n := 200) (c := 200) ?hx Tryz.underlying22 Tryz.underlying5 Tryz.underlying9 (tby s 200) ?hlen ?hcell ?_; (case hg => rfl); (case hd => rfl); (case hx => rfl); (case hlen => exact tby_len s 200); (case hcell => intro i hi; exact (blk_cell (by (with_reducible repeat (first | refine blk_drewN ?_ _ | refine blk_drew ?_)); exact BKb.out) i).trans (u8e_get (by rw [tby_len]; exact hi)))))
        go_ret
        exact ⟨rfl, (by repeat (first | exact HB.out | apply Below.drew | apply pw_below_drewN | refine Below.setCell ?_ GEs.out _))⟩
end Go.Proofs.YtkdmplfldfagnaaGreatDoor.Kp
end
section
namespace Go.Proofs.YtkdmplfldfagnaaGreatDoor.Kp
open Go.RowKit Go.Proofs.YtkdmplfldfagnaaGreatDoorW.PrintWords Go.Proofs.YtkdmplfldfagnaaGreatDoorW.PrintLast Go.Proofs.YtkdmplfldfagnaaGreatDoorW.PrintMore
set_option linter.unusedVariables false
set_option linter.unusedSimpArgs false
theorem setCells_one (w : World) (g o : Nat) (v : Value) : w.setCells g o [v] = w.setCell ⟨g, o, none⟩ v := by
  first | rfl | simp [World.setCells]
def BR (w : World) (base : Nat) (v : Value) (xs : List Int) : Prop := ∃ g c cs fr, v = .slice (some ⟨g, 0, none⟩) xs.length c ∧ base ≤ g ∧ w.heap[g]? = some (.cells cs 5 fr) ∧ c ≤ cs.size ∧ xs.length ≤ cs.size ∧ (fr = (0, 0) ∨ fr = (cs.size, cs.size + 1)) ∧ ∀ i, i < xs.length → cs[i]? = some (.int .u8 (ga xs i))
theorem BR.move {w w' : World} {base : Nat} {v : Value} {xs : List Int} (h : BR w base v xs) (hb : Below w.heap.size w w') : BR w' base v xs := by
  obtain ⟨g, c, cs, fr, h1, h2, h3, h4⟩ := h
  exact ⟨g, c, cs, fr, h1, h2, (hb.block g (blk_lt h3)).trans h3, h4⟩
theorem fr_no {w : World} {g i : Nat} {cs : Array Value} {t : TypeId} {fr : Nat × Nat} (h : w.heap[g]? = some (.cells cs t fr)) (hf : fr = (0, 0) ∨ fr = (cs.size, cs.size + 1)) (hi : i < cs.size) : w.frozen? ⟨g, i, none⟩ = false := by
  unfold World.frozen?
  dsimp only
  rw [h]
  rcases hf with rfl | rfl
  · simp
  · dsimp only
    rw [decide_eq_false (by omega)]; rfl
section
variable {P : Program} {ops : Array Oper} {rest : List Oper} {o : Oper} {a : Act} {Q : Exit → Act → World → Prop}
theorem conv_eventB {W : World} (hgd : o.guard = none) {N : Tmp} (_hd : o.dst = some N) {src dst : TypeId} {x : Operand} (ho : o.op = .convert src dst x) {S : ByteArray} (hx : a.eval x = .string S)
    (hs : P.underlying src = some .string) (hd : P.underlying dst = some (.slice 5)) (he : P.underlying 5 = some (.int .u8)) {base : Nat} (hbase : base ≤ W.heap.size)
    (h : ∀ v w1, BR w1 base v (nb S) → Below W.heap.size W w1 → wpList P ops Q rest (a.put o.dst v) w1) : wpList P ops Q (o :: rest) a W := by
  have hcs : (Lib.bytesCells W 5 S).size = S.size + (grownCap W S.size 0 5 - S.size) := by
    unfold Lib.bytesCells
    rw [Array.size_append, Array.size_map, Array.size_replicate]
    rfl
  refine Kd.event_run hgd (v := .slice (some ⟨W.heap.size, 0, none⟩) S.size (grownCap W S.size 0 5)) (w1 := Lib.bytesWorld W 5 S) ?_ (h _ _ ⟨W.heap.size, _, Lib.bytesCells W 5 S, _, by rw [nb_len], hbase, Lib.bytesWorld_at_new W 5 S, by omega, by rw [nb_len]; omega, Or.inr rfl, fun i hi => ?_⟩ (below_bytesWorld W 5 S))
  · have := Lib.run_convert_string_bytes (P := P) W src dst 5 S hs hd he
    unfold execOp
    rw [ho]
    dsimp only
    rw [hx]
    rw [Sem.run_bind, this]
    rfl
  · rw [nb_len] at hi
    rw [← cell_of_row _ _ i _ _ _ (Lib.bytesWorld_at_new W 5 S), Lib.bytesWorld_cell W 5 S i hi, nb_get _ _ hi]
theorem br_append {W w0 : World} (hgd : o.guard = none) (s x : Operand) (t : TypeId) (hop : o.op = Op.call { callee := Callee.builtin Builtin.append, args := #[s, x], argTypes := #[t, t] })
    (i : TypeInfo) (h1 : P.underlying t = some (.slice 5)) (h2 : P.info? 5 = some i) (h3 : i.zero = some (.int .u8 0)) (h4 : i.size = 1) (h5 : i.bytes = 1)
    {v : Value} {xs : List Int} {y : Int} {base : Nat} (hs : a.eval s = v) (HR : BR W base v xs) {gx : Nat} (hx : a.eval x = .slice (some ⟨gx, 0, none⟩) 1 1) (hxb : W.heap[gx]? = some (.cells #[.int .u8 y] 5 (0, 0)))
    (hB : Below base w0 W) (hbase : base ≤ W.heap.size) (hl : xs.length ≤ 140737488352000)
    (h : ∀ v' w', BR w' base v' (xs ++ [y]) → Below base w0 w' → wpList P ops Q rest (a.put o.dst v') w') : wpList P ops Q (o :: rest) a W := by
  obtain ⟨g, c, cs, fr, rfl, hg, hb, hc, hn, hf, hcs⟩ := HR
  refine wpList_append_arg (P := P) W hgd s x t hop 5 i (.int .u8 0) 1 1 h1 h2 h3 h4 h5 rfl (by decide) g 0 xs.length c (xs.map (Value.int .u8)) hs (by simp) ?_ ⟨gx, 0, none⟩ 1 1 [.int .u8 y] hx rfl ?_ ?_ ?_ (by unfold maxLen; omega) (by omega) ?_ ?_
  · intro j u hj
    have hjl : j < xs.length := by
      rcases Nat.lt_or_ge j xs.length with h | h
      · exact h
      · simp [List.getElem?_eq_none (show (xs.map (Value.int .u8)).length ≤ j by simpa using h)] at hj
    rw [Nat.zero_add, cell_of_row W g j cs _ _ hb, hcs j hjl]
    rw [List.getElem?_map, List.getElem?_eq_getElem hjl] at hj
    rw [← hj]
    unfold ga
    rw [List.getD_eq_getElem?_getD, List.getElem?_eq_getElem hjl]
    rfl
  · intro j u hj
    have hj0 : j = 0 := by
      rcases Nat.lt_or_ge j 1 with h | h
      · omega
      · simp [List.getElem?_eq_none (show [(Value.int .u8 y)].length ≤ j by simpa using h)] at hj
    subst hj0
    have hadd : (⟨gx, 0, none⟩ : Addr).add 0 = ⟨gx, 0, none⟩ := rfl
    rw [hadd, blk_cell hxb]
    exact hj
  · intro u hu
    rw [List.mem_singleton] at hu
    subst hu
    rfl
  · intro hr j hj
    have hj0 : j = 0 := by simpa using hj
    subst hj0
    have hlt : 0 + xs.length * 1 + 0 < cs.size := by omega
    exact ⟨by rw [cell_of_row W g _ cs _ _ hb, Array.getElem?_eq_getElem hlt]; rfl, fr_no hb hf hlt⟩
  · intro hr
    rw [setCells_one]
    refine h _ _ ⟨g, c, cs.setIfInBounds (0 + xs.length * 1) (.int .u8 y), fr, by simp, hg, blkf_set hb _ _, by simpa using hc, by simp; omega, by simpa using hf, fun i hi => ?_⟩ (hB.setCell hg _)
    rw [List.length_append, List.length_singleton] at hi
    rw [Array.getElem?_setIfInBounds]
    unfold ga
    by_cases e : xs.length = i
    · subst e
      rw [if_pos (by omega), if_pos (by omega), List.getD_eq_getElem?_getD, List.getElem?_append_right (Nat.le_refl _)]
      simp
    · rw [if_neg (by omega), hcs i (by omega), List.getD_eq_getElem?_getD, List.getElem?_append_left (by omega)]
      unfold ga
      rw [List.getD_eq_getElem?_getD]
  · intro hr v' w' ho hgr
    obtain ⟨hlen, ho⟩ := ho
    rcases ho with ⟨_, h0⟩ | ⟨g', cap, cur, rfl, hbg, hh, hle, _, hsz, htk⟩
    · omega
    · refine h _ _ ⟨g', cap, cur, (0, 0), by simp, Nat.le_trans hbase hbg, hh, by omega, by simp; omega, Or.inl rfl, fun i hi => ?_⟩ (hB.grown hgr hbase (fun _ h => by cases h))
      rw [List.length_append, List.length_singleton] at hi
      have e : cur[i]? = (xs.map (Value.int .u8) ++ [.int .u8 y])[i]? := by
        rw [← htk, List.getElem?_take, if_pos (by omega)]
        simp
      rw [e]
      unfold ga
      rw [List.getD_eq_getElem?_getD]
      by_cases e2 : xs.length = i
      · subst e2
        simp
      · rw [List.getElem?_append_left (by simp; omega), List.getElem?_append_left (by omega), List.getElem?_map, List.getElem?_eq_getElem (by omega)]
        rfl
end
end Go.Proofs.YtkdmplfldfagnaaGreatDoor.Kp
end
section
namespace Go.Proofs.YtkdmplfldfagnaaGreatDoor.Kp
open Go.RowKit Go.Proofs.YtkdmplfldfagnaaGreatDoorW.PrintWords Go.Proofs.YtkdmplfldfagnaaGreatDoorW.PrintLast Go.Proofs.YtkdmplfldfagnaaGreatDoorW.PrintMore
set_option linter.unusedVariables false
set_option linter.unusedSimpArgs false
set_option maxHeartbeats 8000000
set_option maxRecDepth 100000
theorem BR.form {w : World} {base : Nat} {v : Value} {xs : List Int} (h : BR w base v xs) : ∃ g c, v = .slice (some ⟨g, 0, none⟩) xs.length c := by
  obtain ⟨g, c, cs, fr, h1, _⟩ := h
  exact ⟨g, c, h1⟩
theorem lit_event {P : Program} {ops : Array Oper} {rest : List Oper} {o : Oper} {a : Act} {Q : Exit → Act → World → Prop} {W : World} (hgd : o.guard = none) {N : Tmp} (_hd : o.dst = some N) {cs : Array Value} {t : TypeId} {n : Nat}
    (hrun : (execOp a.eval o).run P W = .ok (.value (.slice (some ⟨W.heap.size, 0, none⟩) n n)) (W.alloc (.cells cs t (0, 0))))
    (h : ∀ g, g = W.heap.size → ∀ w1, w1.heap[g]? = some (.cells cs t (0, 0)) → Below W.heap.size W w1 → wpList P ops Q rest (a.put o.dst (.slice (some ⟨g, 0, none⟩) n n)) w1) : wpList P ops Q (o :: rest) a W :=
  Kd.event_run hgd hrun (h _ rfl _ (blk_new W _) (below_alloc (Below.refl _ _) _))
def pk (t : ByteArray) (k : Nat) : List Int := nb t ++ [1] ++ List.replicate k 0
theorem pk_len (t : ByteArray) (k : Nat) : (pk t k).length = t.size + 1 + k := by
  unfold pk
  rw [List.length_append, List.length_append, List.length_replicate, nb_len]
  rfl
theorem pk_succ (t : ByteArray) (k : Nat) : pk t k ++ [0] = pk t (k + 1) := by
  unfold pk
  rw [List.replicate_succ', List.append_assoc (nb t ++ [1])]
theorem pk_pad (t : ByteArray) : pk t (135 - t.size % 136) = padRaw (nb t) := by
  unfold pk padRaw
  rw [nb_len]
set_option maxHeartbeats 4000000 in
theorem spec_KeccakPad.calls (t : ByteArray) (ht : t.size ≤ 140737488351232) (w : World) :
    Calls Tryz.prog 107 #[.string t] w fun e w' => e = .returned (.string (strOfNums (padL (nb t)))) ∧ Below w.heap.size w w' := by
  have HB := Aside0.mk (Below.refl w.heap.size w)
  have HTt := Aside0.mk ht
  clear ht
  obtain ⟨i0, hi, hz0, hz1, hz2⟩ := info_parts info5
  obtain ⟨Z, hZ⟩ : ∃ Z, Z = 135 - t.size % 136 := ⟨_, rfl⟩
  have HZ := Aside0.mk hZ
  clear hZ
  go_enter Tryz.func107, Tryz.ntmps107
  go_wp2_with (first | ((with_reducible refine gate_dst (N := 5) rfl ?_); refine conv_eventB ?hg (N := 5) ?hd (src := 9) (dst := 22) (S := t) rfl ?hx Tryz.underlying9 Tryz.underlying22 Tryz.underlying5 (base := w.heap.size) (Below.size (show Below w.heap.size w _ by repeat (first | exact HB.out | apply Below.drew | apply pw_below_drewN))) ?_; (case hg => rfl); (case hd => rfl); (case hx => rfl); intro v1_ w1_ hbr hb; have n0_ := Aside0.mk (below_then (show Below w.heap.size w _ by repeat (first | exact HB.out | apply Below.drew | apply pw_below_drewN)) (Below.size (show Below w.heap.size w _ by repeat (first | exact HB.out | apply Below.drew | apply pw_below_drewN))) hb); have HBR := Aside0.mk hbr; clear HB; have HB := n0_; clear n0_ hb hbr) | ((with_reducible refine gate_dst (N := 7) rfl ?_); refine lit_event ?hg (N := 7) ?hd (cs := #[.int .u8 1]) (t := 5) (n := 1) ?hr ?_; (case hd => rfl); (case hg => rfl); (case hr => first | (go_simp; done) | (go_simp; rfl)); intro gx hg w2_ hbox hb; have n0_ := Aside0.mk (below_then (show Below w.heap.size w _ by repeat (first | exact HB.out | apply Below.drew | apply pw_below_drewN)) (Below.size (show Below w.heap.size w _ by repeat (first | exact HB.out | apply Below.drew | apply pw_below_drewN))) hb); have n1_ := Aside0.mk (BR.move (by exact HBR.out) hb); have BKx := Aside0.mk hbox; clear HB HBR; have HB := n0_; have HBR := n1_; clear n0_ n1_ hb hbox hg) | ((with_reducible refine gate_builtin (b := .append) (xs := #[.tmp 6, .tmp 7]) rfl ?_); at_builtin; refine br_append (w0 := w) rfl (.tmp 6) (.tmp 7) 22 rfl i0 Tryz.underlying22 hi hz0 hz1 hz2 rfl (by exact HBR.out) rfl (by exact BKx.out) (show Below w.heap.size w _ by repeat (first | exact HB.out | apply Below.drew | apply pw_below_drewN)) (Below.size (show Below w.heap.size w _ by repeat (first | exact HB.out | apply Below.drew | apply pw_below_drewN))) (by rw [nb_len]; have := HTt.out; omega) ?_; intro v3_ w3_ hbr hb; have n0_ := Aside0.mk hb; have n1_ := Aside0.mk (show BR w3_ w.heap.size v3_ (pk t 0) by have h_ := hbr; unfold pk; rw [List.replicate_zero, List.append_nil]; exact h_); clear HB HBR; have HB := n0_; have HBR := n1_; clear n0_ n1_ hb hbr))
  go_loopg [3] (Z + 1) (fun kq v3 w' => ∃ (k : Nat) (u : Value), v3 = u ∧ Aside0 (k + kq = Z + 1 ∧ k ≤ Z) ∧ Aside0 (BR w' w.heap.size u (pk t k)) ∧ Aside0 (Below w.heap.size w w'))
  case atStart => exact ⟨0, _, rfl, ⟨by omega, by omega⟩, ⟨by exact HBR.out⟩, ⟨(show Below w.heap.size w _ by repeat (first | exact HB.out | apply Below.drew | apply pw_below_drewN))⟩⟩
  case round =>
    clear HB HBR BKx
    obtain ⟨K1, u, rfl, HK1, HBR, HB⟩ := hrel
    cases gk with
    | zero => exact absurd HK1.out (by omega)
    | succ k1 =>
      obtain ⟨g, cp, hv⟩ := HBR.out.form
      subst hv
      obtain ⟨n, hn⟩ : ∃ n, n = (pk t K1).length := ⟨_, rfl⟩
      have HN := Aside0.mk (show n = t.size + 1 + K1 by rw [hn, pk_len])
      have HNe := Aside0.mk hn
      rw [← hn] at HBR ⊢
      clear hn
      obtain ⟨m, hm, em⟩ : ∃ y_, Int.tmod (n : Int) 136 = y_ ∧ Aside0 (y_ = ((n % 136 : Nat) : Int)) := ⟨_, rfl, ⟨by rw [Int.tmod_eq_emod_of_nonneg (by omega)]; omega⟩⟩
      by_cases c : K1 < Z
      · have cm : m ≠ 0 := by have := em.out; have := HN.out; have := HZ.out; omega
        have c0 : (m == 0) = false := beq_eq_false_iff_ne.mpr cm
        have c1 : (m != 0) = true := bne_iff_ne.mpr cm
        have HC1 := Aside0.mk c
        clear c cm
        go_wp2_with (first | ((with_reducible refine gate_dst (N := 14) rfl ?_); refine lit_event ?hg (N := 14) ?hd (cs := #[.int .u8 0]) (t := 5) (n := 1) ?hr ?_; (case hd => rfl); (case hg => rfl); (case hr => first | (go_simp; done) | (go_simp; rfl)); intro gx hg w2_ hbox hb; have n0_ := Aside0.mk (below_then (show Below w.heap.size w _ by repeat (first | exact HB.out | apply Below.drew | apply pw_below_drewN)) (Below.size (show Below w.heap.size w _ by repeat (first | exact HB.out | apply Below.drew | apply pw_below_drewN))) hb); have n1_ := Aside0.mk (BR.move (by exact HBR.out) hb); have BKx := Aside0.mk hbox; clear HB HBR; have HB := n0_; have HBR := n1_; clear n0_ n1_ hb hbox hg) | ((with_reducible refine gate_builtin (b := .append) (xs := #[.tmp 13, .tmp 14]) rfl ?_); at_builtin; refine br_append (w0 := w) rfl (.tmp 13) (.tmp 14) 22 rfl i0 Tryz.underlying22 hi hz0 hz1 hz2 rfl (by exact HBR.out) rfl (by exact BKx.out) (show Below w.heap.size w _ by repeat (first | exact HB.out | apply Below.drew | apply pw_below_drewN)) (Below.size (show Below w.heap.size w _ by repeat (first | exact HB.out | apply Below.drew | apply pw_below_drewN))) (by rw [← HNe.out]; have := HTt.out; have := HN.out; have := HC1.out; have := HZ.out; omega) ?_; intro v3_ w3_ hbr hb; have n0_ := Aside0.mk hb; have n1_ := Aside0.mk (show BR w3_ w.heap.size v3_ (pk t (K1 + 1)) by rw [← pk_succ]; exact hbr); clear HB HBR; have HB := n0_; have HBR := n1_; clear n0_ n1_ hb hbr))
        go_roundg k1
        case measure => omega
        case rel => exact ⟨K1 + 1, _, rfl, ⟨by have := HK1.out; omega, by have := HC1.out; omega⟩, ⟨by exact HBR.out⟩, ⟨(show Below w.heap.size w _ by repeat (first | exact HB.out | apply Below.drew | apply pw_below_drewN))⟩⟩
      · obtain rfl : K1 = Z := by have := HK1.out; omega
        have cm : m = 0 := by have := em.out; have := HN.out; have := HZ.out; omega
        have c0 : (m == 0) = true := beq_iff_eq.mpr cm
        have c1 : (m != 0) = false := bne_eq_false_iff_eq.mpr cm
        clear c cm
        have HPK := Aside0.mk (show pk t K1 = padRaw (nb t) by rw [HZ.out]; exact pk_pad t)
        obtain ⟨g', c', cs, fr, hv, hg, hb, hc, hn, hf, hcs⟩ := HBR.out
        obtain ⟨rfl, rfl⟩ : g = g' ∧ cp = c' := by injection hv with h1 _ h3; injection h1 with h1; injection h1 with h1; exact ⟨h1, h3⟩
        have HBK := Aside0.mk hb
        have GEs := Aside0.mk hg
        have HSC := Aside0.mk (show n ≤ cs.size by rw [HNe.out]; exact hn)
        have HFR := Aside0.mk hf
        have HCE := Aside0.mk (show ∀ i, i < n → cs[i]? = some (.int .u8 (ga (padRaw (nb t)) i)) by intro i hi; rw [← HPK.out]; exact hcs i (by rw [← HNe.out]; exact hi))
        clear hv hg hb hc hn hf hcs
        obtain ⟨li, hli, eli⟩ : ∃ y_, wrap64 ((n : Int) - 1) = y_ ∧ Aside0 (y_ = ((n - 1 : Nat) : Int)) := ⟨_, rfl, ⟨by have := HN.out; have := HTt.out; have := HZ.out; unfold wrap64; omega⟩⟩
        have pl : (0 ≤ li) = True := eq_true (by have := eli.out; omega)
        have ql : (li < (n : Int)) = True := eq_true (by have := eli.out; have := HN.out; omega)
        have hcl : wr.cell? ⟨g, li.toNat, none⟩ = some (.int .u8 (ga (padRaw (nb t)) li.toNat)) := (cell_of_row wr g _ cs _ _ HBK.out).trans (HCE.out _ (by have := eli.out; have := HN.out; omega))
        have hfz : wr.frozen? ⟨g, li.toNat, none⟩ = false := fr_no HBK.out HFR.out (by have := eli.out; have := HN.out; have := HSC.out; omega)
        go_wp2_with (first | ((with_reducible refine gate_dst (N := 29) rfl ?_); refine conv2_event ?hg (N := 29) ?hd (src := 22) (dst := 9) (e := 5) rfl (g := g) (n := n) (c := cp) ?hx Tryz.underlying22 Tryz.underlying5 Tryz.underlying9 (padL (nb t)) ?hlen ?hcell ?_; (case hg => rfl); (case hd => rfl); (case hx => rfl); (case hlen => rw [padL_len, ← HPK.out, ← HNe.out]); (case hcell => intro i hi; refine (cell_of_row _ g i _ _ _ (blkf_set HBK.out li.toNat _)).trans ?_; rw [show li.toNat = n - 1 by have := eli.out; omega]; exact pad_cells (by rw [← HPK.out, ← HNe.out]) (by omega) HSC.out HCE.out i hi)))
        go_ret
        exact ⟨rfl, (by repeat (first | exact HB.out | apply Below.drew | apply pw_below_drewN | refine Below.setCell ?_ GEs.out _))⟩
theorem word_l0 (k : Nat) : ∀ (p : ByteArray) (a x i : Int), spec_l03Word.l0 k p a x i = impl_wordAt.l0 k p a x i := by
  induction k with
  | zero => intro p a x i; rfl
  | succ k ih => intro p a x i; simp only [spec_l03Word.l0, impl_wordAt.l0, ih]
theorem word_f (p : ByteArray) (a : Nat) (h : a + 8 ≤ p.size) (hp : p.size ≤ 281474976710656) : spec_l03Word.f 9 p (a : Int) = some (wv p a) := by
  rw [← wordAt_f p a h hp]
  exact word_l0 9 p _ _ _
def abstS (p : ByteArray) : Nat → List Int
  | 0 => List.replicate 25 0
  | j + 1 => allS (xst (abstS p j) p (136 * j) 17) 24
theorem abstS_len (p : ByteArray) (j : Nat) : (abstS p j).length = 25 := by
  induction j with
  | zero => rfl
  | succ j ih => simp only [abstS, allS_len, xst_len]; exact ih
def digS (t : ByteArray) : ByteArray := (strOfNums (tby (abstS (padT t) (t.size / 136 + 1)) 200)).extract 0 32
def spec_Digest.f (a0 : ByteArray) : Option ByteArray := if a0.size ≤ 140737488351232 then some (digS a0) else none
theorem tby_size (s : List Int) : (strOfNums (tby s 200)).size = 200 := by
  rw [strOf_size, tby_len]
def spec_Digest.T9 : Bool × List (List Nat × List Nat) := (true, [([], []), ([], []), ([1], [1]), ([2], [2]), ([], []), ([], []), ([], []), ([6], [6]), ([5, 7], [5, 7]), ([4, 8], [4, 8]), ([3, 9], [3, 9]), ([0, 0, 1, 2, 3, 4, 5, 6, 7, 8, 9, 10], [0]), ([11, 10, 9, 0, 1, 2, 3, 4, 5, 6, 7, 8, 9, 10], [10, 11])])
def spec_Digest.B9 : List Nat := [0, 0, 2, 6, 0, 0, 0, 64, 224, 496, 1022, 2047, 4095]
theorem spec_Digest.tab9 : rtab .any (opsOf Tryz.f61 9) = spec_Digest.T9 := by kernel_rfl
theorem spec_Digest.bits9 : waitsOk spec_Digest.T9.2 spec_Digest.B9 = true := by kernel_rfl
theorem spec_Digest.calls (t : ByteArray) (r : ByteArray) (w : World) (h : spec_Digest.f t = some r) :
    Calls Tryz.prog 61 #[.string t] w fun e w' => e = .returned (.string r) ∧ Below w.heap.size w w' := by
  unfold spec_Digest.f at h
  by_cases ht : t.size ≤ 140737488351232
  case neg => rw [if_neg ht] at h; exact absurd h (by simp)
  rw [if_pos ht] at h
  obtain rfl := Option.some.inj h
  clear h
  have HTt := Aside0.mk ht
  have HB := Aside0.mk (Below.refl w.heap.size w)
  clear ht
  obtain ⟨pd, hpd⟩ : ∃ p_, p_ = padT t := ⟨_, rfl⟩
  have HPD := Aside0.mk hpd
  have HPS := Aside0.mk (show pd.size = 136 * (t.size / 136 + 1) by rw [hpd]; exact padT_size t)
  clear hpd
  go_enter Tryz.func61, Tryz.ntmps61
  go_wp2_with (first | (go_at_call 107; (with_reducible refine (spec_KeccakPad.calls t HTt.out _).mono ?_); rintro e w1_ ⟨rfl, hb⟩; have n0_ := Aside0.mk (below_then (by repeat (first | exact HB.out | apply Below.drew | apply pw_below_drewN)) (Below.size (by repeat (first | exact HB.out | apply Below.drew | apply pw_below_drewN))) hb); clear HB; have HB := n0_; clear n0_ hb; rw [show strOfNums (padL (nb t)) = pd from HPD.out.symm]) | ((with_reducible refine gate_dst (N := 9) rfl ?_); refine wpList_buildA rfl 94 _ rfl (cs := ue (List.replicate 25 0)) ?hb ?_; (case hb => exact built0_94)) | ((with_reducible refine gate_dst (N := 4) rfl ?_); refine box_event ?hg (N := 4) ?hd (cs := ue (List.replicate 25 0)) (t := 94) ?hr ?_; (case hd => rfl); (case hg => rfl); (case hr => first | (go_simp; done) | (go_simp; rfl)); intro g hg w2_ hbox hb; have n0_ := Aside0.mk (below_then (by repeat (first | exact HB.out | apply Below.drew | apply pw_below_drewN)) (Below.size (by repeat (first | exact HB.out | apply Below.drew | apply pw_below_drewN))) hb); have GEs := Aside0.mk (show w.heap.size ≤ g by rw [hg]; exact Below.size (by repeat (first | exact HB.out | apply Below.drew | apply pw_below_drewN))); clear HB; have HB := n0_; have BKs := Aside0.mk hbox; clear n0_ hb hbox hg) | ((with_reducible refine gate_store (t := 94) (p := 4) rfl ?_); refine store_row_event rfl 94 _ _ rfl g (ue (List.replicate 25 0)) rfl rfl 94 (ue (List.replicate 25 0)) (by (with_reducible repeat (first | refine blk_drewN ?_ _ | refine blk_drew ?_)); exact BKs.out) (by kernel_rfl) rfl (ue_one _) ?_; intro w9_ h1_ h2_ h3_; have n0_ := Aside0.mk (h3_ w.heap.size w (by repeat (first | exact HB.out | apply Below.drew | apply pw_below_drewN | refine Below.setCell ?_ GEs.out _)) GEs.out); clear HB BKs; have HB := n0_; have BKs := Aside0.mk h1_; clear n0_ h1_ h2_ h3_))
  go_loopg [5] (t.size / 136 + 2) (fun kq v5 w' => ∃ (j : Nat) (x : Int), v5 = .int .i64 x ∧ Aside0 (x = ((136 * j : Nat) : Int) ∧ j + kq = t.size / 136 + 2 ∧ j ≤ t.size / 136 + 1) ∧ Aside0 (w'.heap[g]? = some (.cells (ue (abstS pd j)) 94 (0, 0))) ∧ Aside0 (Below w.heap.size w w'))
  case atStart => exact ⟨0, 0, rfl, ⟨rfl, by omega, by omega⟩, ⟨by (with_reducible repeat (first | refine blk_drewN ?_ _ | refine blk_drew ?_)); exact BKs.out⟩, ⟨(by repeat (first | exact HB.out | apply Below.drew | apply pw_below_drewN | refine Below.setCell ?_ GEs.out _))⟩⟩
  case round =>
    clear BKs HB
    obtain ⟨J, at_, rfl, HK1, BKs, HB⟩ := hrel
    cases gk with
    | zero => exact absurd HK1.out (by omega)
    | succ k1 =>
      by_cases c : J < t.size / 136 + 1
      · have c0 : decide (at_ < (pd.size : Int)) = true := decide_eq_true (by have := HK1.out; have := HPS.out; omega)
        have HC1 := Aside0.mk c
        clear c
        go_wp2
        go_loopg [6] 18 (fun kq v6 w' => ∃ (k : Nat) (x : Int), v6 = .int .i64 x ∧ Aside0 (x = (k : Int) ∧ k + kq = 18 ∧ k ≤ 17) ∧ Aside0 (w'.heap[g]? = some (.cells (ue (xst (abstS pd J) pd (136 * J) k)) 94 (0, 0))) ∧ Aside0 (Below w.heap.size w w'))
        case atStart => exact ⟨0, 0, rfl, ⟨rfl, rfl, by decide⟩, ⟨by (with_reducible repeat (first | refine blk_drewN ?_ _ | refine blk_drew ?_)); exact BKs.out⟩, ⟨(by repeat (first | exact HB.out | apply Below.drew | apply pw_below_drewN | refine Below.setCell ?_ GEs.out _))⟩⟩
        case round =>
          clear BKs HB c0
          obtain ⟨K2, x, rfl, HK2, BKs, HB⟩ := hrel
          cases gk with
          | zero => exact absurd HK2.out (by omega)
          | succ k2 =>
            by_cases c : K2 < 17
            · have c0 : decide (x < 17) = true := decide_eq_true (by have := HK2.out; omega)
              have HC2 := Aside0.mk c
              clear c
              obtain ⟨a1, ha1, ea1⟩ : ∃ y_, wrap64 (8 * x) = y_ ∧ Aside0 (y_ = ((8 * K2 : Nat) : Int)) := ⟨_, rfl, ⟨by simp only [aI] at *; first | (unfold wrap64; omega) | (rw [Int.tmod_eq_emod_of_nonneg (by omega)]; omega)⟩⟩
              obtain ⟨a2, ha2, ea2⟩ : ∃ a2 : Nat, wrap64 (at_ + a1) = (a2 : Int) ∧ Aside0 (a2 = 136 * J + 8 * K2) := ⟨136 * J + 8 * K2, by simp only [aI] at *; unfold wrap64; omega, ⟨rfl⟩⟩
              have px : (0 ≤ x) = True := eq_true (by simp only [aI] at *; omega)
              have qx_25 : (x < 25) = True := eq_true (by simp only [aI] at *; omega)
              have hc0 : wr.cell? ⟨g, x.toNat, none⟩ = some (.int .u64 (ga (xst (abstS pd J) pd (136 * J) K2) x.toNat)) := (blk_cell BKs.out _).trans (ue_get (by rw [xst_len, abstS_len]; have := HK1.out; have := HC1.out; have := HK2.out; have := HC2.out; have := HPS.out; have := HTt.out; have := ea1.out; have := ea2.out; omega))
              have hfz : wr.frozen? ⟨g, x.toNat, none⟩ = false := blk_frozen BKs.out _
              have HW := Aside0.mk (word_f pd a2 (by simp only [aI] at *; omega) (by simp only [aI] at *; omega))
              go_wp2
              refine start_ (n := 13) (S := fun w' => w'.cell? ⟨g, x.toNat, none⟩ = some (.int .u64 (ga (xst (abstS pd J) pd (136 * J) K2) x.toNat))) (ds := [12]) #[false, false, false, false, false, false, false, false, false, false, false, false, false] (by kernel_rfl) rfl rfl (hc0) (fun hHeld => ?_)
              refine with_tabW spec_Digest.tab9 spec_Digest.bits9 (fun HT_ HW_ => ?_)
              refine pI 0 (some 20) HT_.out ?_
              refine pI 1 (some 21) HT_.out ?_
              refine pI 2 (some 22) HT_.out ?_
              refine pI 4 (some 24) HT_.out ?_
              refine pI 5 (some 25) HT_.out ?_
              refine pI 6 (some 26) HT_.out ?_
              refine pI 7 (some 27) HT_.out ?_
              refine pI 8 (some 28) HT_.out ?_
              refine tI1 3 (some 23) HT_.out HW_.out hHeld ?_
              refine oI 9 (some 29) HT_.out (fun K hK => ?_)
              refine goes_ Tryz.func108 (by kernel_rfl) rfl #[.string pd, .int .i64 (wrap64 (at_ + a1))] (by rfl) rfl rfl (by simp only [List.map_toArray, List.map_cons, List.map_nil]; rfl) ?_
              rw [ha2]
              with_reducible refine (spec_l03Word.calls 9 _ _ _ _ HW.out).mono ?_
              rintro e w3_ ⟨rfl, ⟨nd, rfl⟩⟩
              refine ⟨_, rfl, ?_⟩
              refine hK.out _ _ ((by exact hHeld)) (fun hHeld => ?_)
              clear hK K
              refine nO (some 29) ?_
              refine pI 10 (some 30) HT_.out ?_
              refine pI 11 (some 31) HT_.out ?_
              refine last_ (i := 12) (N := none) #[true, true, true, true, true, true, true, true, true, true, true, true, true] rfl rfl (one_of HT_.out (by kernel_rfl)) (by decide) (fun K hK => ?_)
              refine skip_ (w1 := ?_) (by rfl) rfl ?_ ?_
              rotate_left
              · go_simp
                rfl
              refine hK.out _ _ ?_
              clear hK K
              refine done_ (done_of HT_.out (by kernel_rfl)) ?_
              go_wp2
              go_roundg k2
              case measure => omega
              case rel => exact ⟨K2 + 1, _, rfl, ⟨by simp only [aI] at *; first | omega | (unfold wrap64; omega), by simp only [aI] at *; omega, by simp only [aI] at *; omega⟩, ⟨by (with_reducible repeat (first | refine blk_drewN ?_ _ | refine blk_drew ?_)); refine blk_put (cs := ue (xst (abstS pd J) pd (136 * J) K2)) (by (with_reducible repeat (first | refine blk_drewN ?_ _ | refine blk_drew ?_)); exact BKs.out) x.toNat _ ?_; rw [ue_set]; simp only [xst]; rw [show x.toNat = K2 by simp only [aI] at *; omega, show a2 = 136 * J + 8 * K2 by simp only [aI] at *; omega]⟩, ⟨(by repeat (first | exact HB.out | apply Below.drew | apply pw_below_drewN | refine Below.setCell ?_ GEs.out _))⟩⟩
            · have c0 : decide (x < 17) = false := decide_eq_false (by have := HK2.out; omega)
              obtain rfl : K2 = 17 := by have := HK2.out; omega
              clear c HK2
              obtain ⟨ov, hov⟩ : ∃ y_ : List Int, y_ = xst (abstS pd J) pd (136 * J) 17 := ⟨_, rfl⟩
              obtain ⟨nv, hnv⟩ : ∃ y_ : List Int, y_ = allS ov 24 := ⟨_, rfl⟩
              have HOL := Aside0.mk (show ov.length = 25 by rw [hov, xst_len, abstS_len])
              have HNL := Aside0.mk (show nv.length = 25 by rw [hnv, allS_len, HOL.out])
              have HOV := Aside0.mk hov
              have HNV := Aside0.mk hnv
              have n0_ := Aside0.mk (show wr.heap[g]? = some (.cells (ue ov) 94 (0, 0)) by rw [hov]; exact BKs.out)
              clear BKs hov hnv
              have BKs := n0_
              clear n0_
              have HZ1 := Aside0.mk (show (Tryz.prog.info? 94).map (·.size) = some (ue ov).size by rw [ue_size, HOL.out]; kernel_rfl)
              have HZ2 := Aside0.mk (show (Tryz.prog.info? 94).map (·.size) = some (ue nv).size by rw [ue_size, HNL.out]; kernel_rfl)
              have HZ3 := Aside0.mk (show (ue ov).size = (ue nv).size by rw [ue_size, ue_size, HOL.out, HNL.out])
              go_wp2_with (first | ((with_reducible refine gate_dst (N := 32) rfl ?_); refine wpList_load_row rfl 94 _ rfl g rfl 94 (ue ov) (0, 0) _ (by (with_reducible repeat (first | refine blk_drewN ?_ _ | refine blk_drew ?_)); exact BKs.out) Tryz.underlying94 rfl HZ1.out ?_) | (go_at_call 109; (with_reducible refine (spec_l03All.calls ov HOL.out _).mono ?_); rintro e w4_ ⟨rfl, hb⟩; have n0_ := Aside0.mk (below_then (by repeat (first | exact HB.out | apply Below.drew | apply pw_below_drewN | refine Below.setCell ?_ GEs.out _)) (Below.size (by repeat (first | exact HB.out | apply Below.drew | apply pw_below_drewN | refine Below.setCell ?_ GEs.out _))) hb); have n1_ := Aside0.mk (blk_below (by (with_reducible repeat (first | refine blk_drewN ?_ _ | refine blk_drew ?_)); exact BKs.out) hb); clear BKs HB; have HB := n0_; have BKs := n1_; clear n0_ n1_ hb; rw [← HNV.out]) | ((with_reducible refine gate_store (t := 94) (p := 4) rfl ?_); refine store_row_event rfl 94 _ _ rfl g (ue nv) rfl rfl 94 (ue ov) (by (with_reducible repeat (first | refine blk_drewN ?_ _ | refine blk_drew ?_)); exact BKs.out) HZ2.out HZ3.out (ue_one _) ?_; intro w9_ h1_ h2_ h3_; have n0_ := Aside0.mk (h3_ w.heap.size w (by repeat (first | exact HB.out | apply Below.drew | apply pw_below_drewN | refine Below.setCell ?_ GEs.out _)) GEs.out); clear HB BKs; have HB := n0_; have BKs := Aside0.mk h1_; clear n0_ h1_ h2_ h3_))
              go_roundg k1
              case measure => omega
              case rel => exact ⟨J + 1, _, rfl, ⟨by simp only [aI] at *; unfold wrap64; omega, by simp only [aI] at *; omega, by simp only [aI] at *; omega⟩, ⟨by have h_ := BKs.out; rw [HNV.out, HOV.out] at h_; (with_reducible repeat (first | refine blk_drewN ?_ _ | refine blk_drew ?_)); exact h_⟩, ⟨(by repeat (first | exact HB.out | apply Below.drew | apply pw_below_drewN | refine Below.setCell ?_ GEs.out _))⟩⟩
      · have c0 : decide (at_ < (pd.size : Int)) = false := decide_eq_false (by have := HK1.out; have := HPS.out; omega)
        obtain rfl : J = t.size / 136 + 1 := by have := HK1.out; omega
        clear c
        have HX := Aside0.mk (tby_size (abstS pd (t.size / 136 + 1)))
        obtain ⟨tx, htx⟩ : ∃ y_, y_ = strOfNums (tby (abstS pd (t.size / 136 + 1)) 200) := ⟨_, rfl⟩
        rw [← htx] at HX
        have HXe := Aside0.mk htx
        clear htx
        have h32 : ((32 : Int) ≤ (tx.size : Int)) = True := eq_true (by have := HX.out; omega)
        have HZ1 := Aside0.mk (show (Tryz.prog.info? 94).map (·.size) = some (ue (abstS pd (t.size / 136 + 1))).size by rw [ue_size, abstS_len]; kernel_rfl)
        go_wp2_with (first | ((with_reducible refine gate_dst (N := 34) rfl ?_); refine wpList_load_row rfl 94 _ rfl g rfl 94 (ue (abstS pd (t.size / 136 + 1))) (0, 0) _ (by (with_reducible repeat (first | refine blk_drewN ?_ _ | refine blk_drew ?_)); exact BKs.out) Tryz.underlying94 rfl HZ1.out ?_) | (go_at_call 110; (with_reducible refine (spec_l03Text.calls (abstS pd (t.size / 136 + 1)) (abstS_len _ _) _).mono ?_); rintro e w4_ ⟨rfl, hb⟩; have n0_ := Aside0.mk (below_then (by repeat (first | exact HB.out | apply Below.drew | apply pw_below_drewN | refine Below.setCell ?_ GEs.out _)) (Below.size (by repeat (first | exact HB.out | apply Below.drew | apply pw_below_drewN | refine Below.setCell ?_ GEs.out _))) hb); clear BKs HB; have HB := n0_; clear n0_ hb; rw [← HXe.out]))
        go_ret
        exact ⟨by unfold digS; rw [← HPD.out, ← HXe.out]; first | done | rfl, (by repeat (first | exact HB.out | apply Below.drew | apply pw_below_drewN | refine Below.setCell ?_ GEs.out _))⟩
end Go.Proofs.YtkdmplfldfagnaaGreatDoor.Kp
end
section
namespace Go.Proofs.YtkdmplfldfagnaaGreatDoor.Kp
open Go.RowKit Go.Proofs.YtkdmplfldfagnaaGreatDoorW.PrintWords Go.Proofs.YtkdmplfldfagnaaGreatDoorW.PrintLast Go.Proofs.YtkdmplfldfagnaaGreatDoorW.PrintMore
set_option linter.unusedVariables false
set_option linter.unusedSimpArgs false
theorem xr_range (a b : Int) : 0 ≤ xr a b ∧ xr a b < 18446744073709551616 := by
  unfold xr Go.bits
  rw [IntKind.wrap_u64]
  omega
theorem xr_comm (a b : Int) : Go.bits .xor .u64 a b = Go.bits .xor .u64 b a := by
  unfold Go.bits
  dsimp only
  rw [BitVec.xor_comm]
theorem and_turns : ∀ i : Fin 25, Go.bits .and .u64 (IntKind.u64.wrap (ga turnsL i.val)) 63 = ga turnsL i.val := by decide +kernel
theorem turns_pos : ∀ i : Fin 25, 0 ≤ ga turnsL i.val := by decide +kernel
theorem and_one : Go.bits .and .u64 (IntKind.u64.wrap 1) 63 = 1 := by decide +kernel
theorem and_zero : Go.bits .and .u64 (IntKind.u64.wrap 0) 63 = 0 := by decide +kernel
theorem rl_one (v : Int) : rl v 1 = tn v 1 := by
  unfold rl tn
  rw [and_one]
theorem rl_turn (v : Int) (i : Fin 25) : rl v (ga turnsL i.val) = tn v (ga turnsL i.val) := by
  unfold rl tn
  rw [and_turns]
theorem or_zero64 (v : Int) (h0 : 0 ≤ v) (h1 : v < 18446744073709551616) : Go.bits .or .u64 v 0 = v := by
  unfold Go.bits
  dsimp only
  rw [IntKind.wrap_u64]
  have e0 : BitVec.ofInt IntKind.u64.bits 0 = 0#(IntKind.u64.bits) := by rfl
  rw [e0, BitVec.or_zero, BitVec.toNat_ofInt]
  show (((v % ((2 ^ 64 : Nat) : Int)).toNat : Int)) % 18446744073709551616 = v
  rw [show (((2 : Nat) ^ 64 : Nat) : Int) = 18446744073709551616 from rfl, Int.emod_eq_of_lt h0 h1]
  omega
theorem rl_zero (v : Int) (h0 : 0 ≤ v) (h1 : v < 18446744073709551616) : rl v 0 = v := by
  unfold rl
  rw [and_zero]
  have e1 : shl .u64 v 0 = v := by
    unfold shl
    rw [IntKind.wrap_u64]
    show (v * 2 ^ (Min.min 0 IntKind.u64.bits)) % 18446744073709551616 = v
    rw [Nat.zero_min, Int.pow_zero, Int.mul_one, Int.emod_eq_of_lt h0 h1]
  have e2 : shr .u64 v (IntKind.u64.wrap (64 - 0)) = 0 := by
    unfold shr
    rw [IntKind.wrap_u64]
    show v / 2 ^ 64 = 0
    rw [show ((2 : Int) ^ 64) = 18446744073709551616 from rfl]
    omega
  rw [e1, e2]
  exact or_zero64 v h0 h1
theorem dd_eq (c : List Int) (x : Nat) : dd c x = ddS c x := by
  unfold dd ddS
  rw [rl_one]
theorem bat_eq (s c : List Int) (y x : Nat) (h : x + 5 * y < 25) : bat s c y x = batS s c y x := by
  unfold bat batS
  rw [dd_eq]
  by_cases hk : ga turnsL (x + 5 * y) > 0
  · rw [if_pos hk]
    exact rl_turn _ ⟨x + 5 * y, h⟩
  · rw [if_neg hk]
    have h0 := turns_pos ⟨x + 5 * y, h⟩
    have e : ga turnsL (x + 5 * y) = 0 := by
      dsimp only at h0
      omega
    rw [e]
    exact rl_zero _ (xr_range _ _).1 (xr_range _ _).2
theorem bst_list (s c : List Int) : bst s c 25 = [bat s c 0 0, bat s c 1 1, bat s c 2 2, bat s c 3 3, bat s c 4 4, bat s c 0 3, bat s c 1 4, bat s c 2 0, bat s c 3 1, bat s c 4 2, bat s c 0 1, bat s c 1 2, bat s c 2 3, bat s c 3 4, bat s c 4 0, bat s c 0 4, bat s c 1 0, bat s c 2 1, bat s c 3 2, bat s c 4 3, bat s c 0 2, bat s c 1 3, bat s c 2 4, bat s c 3 0, bat s c 4 1] := by kernel_rfl
theorem bstS_list (s c : List Int) : bstS s c 25 = [batS s c 0 0, batS s c 1 1, batS s c 2 2, batS s c 3 3, batS s c 4 4, batS s c 0 3, batS s c 1 4, batS s c 2 0, batS s c 3 1, batS s c 4 2, batS s c 0 1, batS s c 1 2, batS s c 2 3, batS s c 3 4, batS s c 4 0, batS s c 0 4, batS s c 1 0, batS s c 2 1, batS s c 3 2, batS s c 4 3, batS s c 0 2, batS s c 1 3, batS s c 2 4, batS s c 3 0, batS s c 4 1] := by kernel_rfl
theorem bst_eq (s c : List Int) : bst s c 25 = bstS s c 25 := by
  rw [bst_list, bstS_list]
  rw [bat_eq s c 0 0 (by decide), bat_eq s c 1 1 (by decide), bat_eq s c 2 2 (by decide), bat_eq s c 3 3 (by decide), bat_eq s c 4 4 (by decide), bat_eq s c 0 3 (by decide), bat_eq s c 1 4 (by decide), bat_eq s c 2 0 (by decide), bat_eq s c 3 1 (by decide), bat_eq s c 4 2 (by decide), bat_eq s c 0 1 (by decide), bat_eq s c 1 2 (by decide), bat_eq s c 2 3 (by decide), bat_eq s c 3 4 (by decide), bat_eq s c 4 0 (by decide), bat_eq s c 0 4 (by decide), bat_eq s c 1 0 (by decide), bat_eq s c 2 1 (by decide), bat_eq s c 3 2 (by decide), bat_eq s c 4 3 (by decide), bat_eq s c 0 2 (by decide), bat_eq s c 1 3 (by decide), bat_eq s c 2 4 (by decide), bat_eq s c 3 0 (by decide), bat_eq s c 4 1 (by decide)]
theorem chi_eq (b : List Int) (y x : Nat) : chi b y x = chiS b y x := by
  unfold chi chiS u64not
  rw [xr_comm IntKind.u64.max]
  rfl
theorem sst_eq (s b : List Int) (k : Nat) : sst s b k = sstS s b k := by
  induction k with
  | zero => rfl
  | succ k ih => simp only [sst, sstS, ih, chi_eq]
theorem round_eq (s : List Int) (n : Nat) : roundI s n = roundS s (ga rcL n) := by
  unfold roundI roundS
  rw [bst_eq, sst_eq]
theorem rit_eq (s : List Int) (k : Nat) : rit s k = allS s k := by
  induction k with
  | zero => rfl
  | succ k ih => simp only [rit, allS, ih, round_eq]
theorem abst_eq (p : ByteArray) (j : Nat) : abst p j = abstS p j := by
  induction j with
  | zero => rfl
  | succ j ih => simp only [abst, abstS, ih, rit_eq]
theorem tby_form (a : List Int) (k : Nat) (h : k ≤ 200) : tby a k = (List.range k).map (byteS a) ++ List.replicate (200 - k) 0 := by
  induction k with
  | zero => rfl
  | succ k ih =>
    simp only [tby]
    rw [ih (by omega), List.range_succ, List.map_append, List.append_assoc, List.set_append_right _ _ (by simp)]
    rw [show 200 - k = (200 - (k + 1)) + 1 by omega, List.replicate_succ]
    simp
theorem b8_at (a : List Int) (k : Nat) : b8 (ga a k) = [byteS a (8 * k), byteS a (8 * k + 1), byteS a (8 * k + 2), byteS a (8 * k + 3), byteS a (8 * k + 4), byteS a (8 * k + 5), byteS a (8 * k + 6), byteS a (8 * k + 7)] := by
  unfold b8 byteS
  have d : ∀ j, j < 8 → (8 * k + j) / 8 = k ∧ (8 * k + j) % 8 = j := fun j hj => by omega
  have d0 := d 0 (by decide)
  rw [Nat.add_zero] at d0
  rw [d0.1, d0.2, (d 1 (by decide)).1, (d 1 (by decide)).2, (d 2 (by decide)).1, (d 2 (by decide)).2, (d 3 (by decide)).1, (d 3 (by decide)).2, (d 4 (by decide)).1, (d 4 (by decide)).2, (d 5 (by decide)).1, (d 5 (by decide)).2, (d 6 (by decide)).1, (d 6 (by decide)).2, (d 7 (by decide)).1, (d 7 (by decide)).2]
  generalize ga a k = v
  have m : ∀ j, j < 8 → min (((8 * j : Nat) : Int)).toNat 64 = 8 * j := fun j hj => by omega
  rw [m 0 (by decide), m 1 (by decide), m 2 (by decide), m 3 (by decide), m 4 (by decide), m 5 (by decide), m 6 (by decide), m 7 (by decide)]
  rw [show (2 : Int) ^ (8 * 0) = 1 from rfl, show (2 : Int) ^ (8 * 1) = 256 from rfl, show (2 : Int) ^ (8 * 2) = 65536 from rfl, show (2 : Int) ^ (8 * 3) = 16777216 from rfl, show (2 : Int) ^ (8 * 4) = 4294967296 from rfl, show (2 : Int) ^ (8 * 5) = 1099511627776 from rfl, show (2 : Int) ^ (8 * 6) = 281474976710656 from rfl, show (2 : Int) ^ (8 * 7) = 72057594037927936 from rfl]
  simp only [List.cons.injEq, and_true, Int.ediv_one]
  have e2 : v / 256 / 256 = v / 65536 := by omega
  have e3 : v / 65536 / 256 = v / 16777216 := by omega
  have e4 : v / 16777216 / 256 = v / 4294967296 := by omega
  have e5 : v / 4294967296 / 256 = v / 1099511627776 := by omega
  have e6 : v / 1099511627776 / 256 = v / 281474976710656 := by omega
  have e7 : v / 281474976710656 / 256 = v / 72057594037927936 := by omega
  repeat' apply And.intro
  all_goals first | trivial | rfl | (rw [e2, e3, e4, e5, e6, e7]; done) | (rw [e2, e3, e4, e5, e6]; done) | (rw [e2, e3, e4, e5]; done) | (rw [e2, e3, e4]; done) | (rw [e2, e3]; done) | (rw [e2]; done)
theorem txl_form (a : List Int) (k : Nat) : txl a k = (List.range (8 * k)).map (byteS a) := by
  induction k with
  | zero => rfl
  | succ k ih =>
    simp only [txl]
    rw [ih, b8_at, show 8 * (k + 1) = 8 * k + 8 by omega]
    simp only [List.range_succ, List.map_append, List.map_cons, List.map_nil, List.append_assoc]
    rfl
theorem text_eq (a : List Int) : txl a 25 = tby a 200 := by
  rw [txl_form, tby_form a 200 (by decide)]
  simp
theorem dig_eq (t : ByteArray) : digI t = digS t := by
  unfold digI digS
  rw [abst_eq, text_eq]
theorem digest_eq (t : ByteArray) : impl_Digest.f t = spec_Digest.f t := by
  unfold impl_Digest.f spec_Digest.f
  rw [dig_eq]
end Go.Proofs.YtkdmplfldfagnaaGreatDoor.Kp
end
section
namespace Go.Proofs.YtkdmplfldfagnaaGreatDoor.Pf
open Go.RowKit Go.Proofs.YtkdmplfldfagnaaGreatDoorW.PrintWords Go.Proofs.YtkdmplfldfagnaaGreatDoorW.PrintLast Go.Proofs.YtkdmplfldfagnaaGreatDoorW.PrintMore
attribute [local go_sem] max2_int min2_int max_two min_two max_three min_three max_four min_four   -- for this text's walks alone
set_option linter.unusedVariables false
set_option linter.unusedSimpArgs false
def impl_Digest.f (a0 : ByteArray) : Option ByteArray := Kp.impl_Digest.f a0
theorem impl_Digest.calls (a0 : ByteArray) (r : ByteArray) (w : World) (hT : Kp.Tab w) (h : impl_Digest.f a0 = some r) :
  Calls Tryz.prog 55 #[.string a0] w fun e w' => e = .returned (.string r) ∧ Below w.heap.size w w' :=
 Kp.impl_Digest.calls a0 r w hT h
def spec_Digest.f (a0 : ByteArray) : Option ByteArray := Kp.spec_Digest.f a0
theorem spec_Digest.calls (a0 : ByteArray) (r : ByteArray) (w : World) (h : spec_Digest.f a0 = some r) :
  Calls Tryz.prog 61 #[.string a0] w fun e w' => e = .returned (.string r) ∧ Below w.heap.size w w' :=
 Kp.spec_Digest.calls a0 r w h
end Go.Proofs.YtkdmplfldfagnaaGreatDoor.Pf
end
section
namespace Go.Proofs.YtkdmplfldfagnaaGreatDoor.Pf
open Go.RowKit Go.Proofs.YtkdmplfldfagnaaGreatDoorW.PrintWords Go.Proofs.YtkdmplfldfagnaaGreatDoorW.PrintLast Go.Proofs.YtkdmplfldfagnaaGreatDoorW.PrintMore
attribute [local go_sem] max2_int min2_int max_two min_two max_three min_three max_four min_four   -- for this text's walks alone
set_option linter.unusedVariables false
set_option linter.unusedSimpArgs false
set_option maxHeartbeats 8000000
set_option maxRecDepth 100000
def impl_HashPoint.l0 : Nat → ByteArray → Int → Option (Int × Int × Bool)
 | 0, _, _ => none
 | k + 1, x0, x9 => if x9 < 64 then ((some (([(x9) % 256] : List Int) : List Int)).bind fun y184 => (if (strOfNums y184).size + x0.size ≤ 9223372036854775807 then ((impl_Digest.f ((strOfNums y184) ++ x0)).bind fun t187 => (if 0 < (t187.size : Int) then (if 1 < (t187.size : Int) then (if 2 < (t187.size : Int) then (if 3 < (t187.size : Int) then ((impl_FpOf.f (Go.bits .or .i64 (Go.bits .or .i64 (Go.bits .or .i64 (wrap64 ((wrap64 (bt t187 0)) * 16777216)) (wrap64 ((wrap64 (bt t187 1)) * 65536))) (wrap64 ((wrap64 (bt t187 2)) * 256))) (wrap64 (bt t187 3)))).bind fun t188 => ((impl_curveAt.f t188).bind fun t189 => ((impl_FpRoot.f k t189).bind fun bt190 => (if bt190.2 = true then ((impl_PointTimes.f k 12 t188 bt190.1 false).bind fun bt192 => (if bt192.2.2 = true then (impl_HashPoint.l0 k x0 (wrap64 (x9 + 1))) else (some (bt192.1, bt192.2.1, bt192.2.2)))) else (impl_HashPoint.l0 k x0 (wrap64 (x9 + 1))))))) else (none)) else (none)) else (none)) else (none))) else (none))) else ((impl_Base.f).bind fun bt181 => (some (bt181.1, bt181.2.1, bt181.2.2)))
def impl_HashPoint.f (k : Nat) (a0 : ByteArray) : Option (Int × Int × Bool) := impl_HashPoint.l0 k a0 0
theorem impl_HashPoint.calls (k : Nat) (a0 : ByteArray) (r1 : Int) (r2 : Int) (r3 : Bool) (w : World) (hT : Kp.Tab w) (h : impl_HashPoint.f k a0 = some (r1, r2, r3)) :
  Calls Tryz.prog 17 #[.string a0] w fun e w' => e = .returned (.agg #[.int .i64 r1, .int .i64 r2, .bool r3]) ∧ Below w.heap.size w w' := by
 have HT := Aside0.mk hT
 clear hT
 have hu28 := Tryz.underlying28
 have HB := Aside0.mk (Below.refl w.heap.size w)
 have H : (impl_HashPoint.l0 k a0 0) = some (r1, r2, r3) := h
 clear h
 have H' := Aside0.mk H
 clear H
 go_enter Tryz.func17, Tryz.ntmps17
 go_wp2_with (first | (refine gB 2 #[.int .i64 0, .int .i64 0, .bool false] 28 ?_; intro gb180 hg w2 BK180 hb; have GW180 := bG HB hg; replace HB := bS HB hb; clear hb hg))
 repeat (go_quiet (first | (refine gB 2 #[.int .i64 0, .int .i64 0, .bool false] 28 ?_; intro gb180 hg w2 BK180 hb; have GW180 := bG HB hg; replace HB := bS HB hb; clear hb hg)); try go_wp2_with (first | (refine gB 2 #[.int .i64 0, .int .i64 0, .bool false] 28 ?_; intro gb180 hg w2 BK180 hb; have GW180 := bG HB hg; replace HB := bS HB hb; clear hb hg)))
 go_loopg [9] k (fun kq v9 w' => ∃ (x9_1 : Int) (x181000_1 : Int) (x181001_1 : Int) (x181002_1 : Bool), v9 = .int .i64 x9_1 ∧ Aside0 (impl_HashPoint.l0 kq a0 x9_1 = some (r1, r2, r3)) ∧ Aside0 (kq ≤ k) ∧ Aside0 (w'.heap[gb180]? = some (.cells #[.int .i64 x181000_1, .int .i64 x181001_1, .bool x181002_1] 28 (0, 0))) ∧ Aside0 (Below w.heap.size w w'))
 case atStart => exact ⟨(0), (0), (0), (false), rS, H', ⟨Nat.le_refl _⟩, ⟨bP BK180⟩, ⟨bZ HB⟩⟩
 case round =>
  clear H'
  try clear c1
  try clear p2
  obtain ⟨x9_1, x181000_1, x181001_1, x181002_1, rfl, HA, HK1, BK180, HB⟩ := hrel
  cases gk with
  | zero => exact absurd HA.out (by simp [impl_HashPoint.l0])
  | succ k1 =>
   have H := HA.out
   clear HA
   simp only [impl_HashPoint.l0] at H
   by_cases c3 : x9_1 < 64
   ·rw [if_pos c3] at H
    have c3b0 := decide_eq_true c3
    clear c3
    obtain ⟨y184, hy184⟩ : ∃ y_ : List Int, y_ = (([(x9_1) % 256] : List Int)) := ⟨_, rfl⟩
    replace H : (if (strOfNums y184).size + a0.size ≤ 9223372036854775807 then ((impl_Digest.f ((strOfNums y184) ++ a0)).bind fun t187 => (if 0 < (t187.size : Int) then (if 1 < (t187.size : Int) then (if 2 < (t187.size : Int) then (if 3 < (t187.size : Int) then ((impl_FpOf.f (Go.bits .or .i64 (Go.bits .or .i64 (Go.bits .or .i64 (wrap64 ((wrap64 (bt t187 0)) * 16777216)) (wrap64 ((wrap64 (bt t187 1)) * 65536))) (wrap64 ((wrap64 (bt t187 2)) * 256))) (wrap64 (bt t187 3)))).bind fun t188 => ((impl_curveAt.f t188).bind fun t189 => ((impl_FpRoot.f k1 t189).bind fun bt190 => (if bt190.2 = true then ((impl_PointTimes.f k1 12 t188 bt190.1 false).bind fun bt192 => (if bt192.2.2 = true then (impl_HashPoint.l0 k1 a0 (wrap64 (x9_1 + 1))) else (some (bt192.1, bt192.2.1, bt192.2.2)))) else (impl_HashPoint.l0 k1 a0 (wrap64 (x9_1 + 1))))))) else (none)) else (none)) else (none)) else (none))) else (none)) = some (r1, r2, r3) := yR hy184 H
    have Ny184 := Aside0.mk hy184
    clear hy184
    by_cases c4 : (strOfNums y184).size + a0.size ≤ 9223372036854775807
    ·rw [if_pos c4] at H
     have c4b0 := eq_true c4
     have c4b1 := decide_eq_true c4
     try have c4b2 : (9223372036854775807 < (strOfNums y184).size + a0.size) = False := eq_false (Nat.not_lt.2 c4)
     try simp only [ByteArray.size_append] at c4b2
     obtain ⟨t187, A5, H⟩ := oB H
     by_cases c6 : 0 < (t187.size : Int)
     ·rw [if_pos c6] at H
      have c6b0 := decide_eq_true c6
      have c6b1 : decide (0 < t187.size) = true := decide_eq_true (by omega)
      clear c6
      by_cases c8 : 1 < (t187.size : Int)
      ·rw [if_pos c8] at H
       have c8b0 := decide_eq_true c8
       have c8b1 : decide (1 < t187.size) = true := decide_eq_true (by omega)
       clear c8
       by_cases c10 : 2 < (t187.size : Int)
       ·rw [if_pos c10] at H
        have c10b0 := decide_eq_true c10
        have c10b1 : decide (2 < t187.size) = true := decide_eq_true (by omega)
        clear c10
        by_cases c12 : 3 < (t187.size : Int)
        ·rw [if_pos c12] at H
         have c12b0 := decide_eq_true c12
         have c12b1 : decide (3 < t187.size) = true := decide_eq_true (by omega)
         clear c12
         obtain ⟨t188, A14, H⟩ := oB H
         obtain ⟨t189, A15, H⟩ := oB H
         obtain ⟨⟨t190, t191⟩, A16, H⟩ := oB H
         by_cases c17 : t191 = true
         ·subst c17
          rw [if_pos rfl] at H
          obtain ⟨⟨t192, t193, t194⟩, A18, H⟩ := oB H
          by_cases c19 : t194 = true
          ·subst c19
           rw [if_pos rfl] at H
           have H' := Aside0.mk H
           clear H
           go_wp2_with (first | ((with_reducible refine gate_dst (N := 14) rfl ?_); refine Kd.R_lit (Kd.int .u8) _ 5 ?hg (N := 14) ?hd (xs := ([(x9_1) % 256] : List Int)) (inner := [.int .u8 ((x9_1) % 256)]) (ok := fun _ => True) (okp := fun _ => True) ?hr ?hp (fun _ hk => hk) trivial (Below.refl _ _) (Nat.le_refl _) (by simp) ?_; (case hd => rfl); (case hg => rfl); (case hr => first | (go_simp; done) | (go_simp; rfl)); (case hp => exact (Reps.one (show Kd.M (Kd.int .u8) _ _ _ ((x9_1) % 256) [.int .u8 ((x9_1) % 256)] from rfl) (Reps.none _ _))); intro v185 w20 ho21 hb hg_ hnew_; clear hg_ hnew_; (first | rw [← Ny184.out] at ho21 | (simp only [Int.reduceToNat] at ho21; rw [← Ny184.out] at ho21)); have HO186 := Aside0.mk (Kd.R_lower ho21 (below_size (bZ HB))); replace BK180 := bB BK180 hb; replace HB := bS HB hb; clear hb ho21; have hcv22 := own_string (P := Tryz.prog) Tryz.underlying22 Tryz.underlying5 Tryz.underlying9 (Kd.own_of_R HO186.out)) | (go_at_call 55; (with_reducible refine (impl_Digest.calls ((strOfNums y184) ++ a0) t187 _ (Kp.Tab.below HT.out (bZ HB)) A5.out).mono ?_); rintro e w23 ⟨rfl, hb⟩; replace HO186 := Aside0.mk (Kd.R_below (rP HO186) hb); replace BK180 := bB BK180 hb; replace HB := bS HB hb; (try clear hb); obtain ⟨q7, hx7, qi7⟩ := sX t187 0 0; obtain ⟨q9, hx9, qi9⟩ := sX t187 1 1; obtain ⟨q11, hx11, qi11⟩ := sX t187 2 2; obtain ⟨q13, hx13, qi13⟩ := sX t187 3 3) | (go_at_call 56; (with_reducible refine (impl_FpOf.calls (Go.bits .or .i64 (Go.bits .or .i64 (Go.bits .or .i64 (wrap64 ((wrap64 (bt t187 0)) * 16777216)) (wrap64 ((wrap64 (bt t187 1)) * 65536))) (wrap64 ((wrap64 (bt t187 2)) * 256))) (wrap64 (bt t187 3))) t188 _ A14.out).mono ?_); rintro e w' ⟨rfl, ⟨nd, rfl⟩⟩; (try exact tD)) | (go_at_call 58; (with_reducible refine (impl_curveAt.calls t188 t189 _ A15.out).mono ?_); rintro e w' ⟨rfl, ⟨nd, rfl⟩⟩; (try exact tD)) | (go_at_call 57; (with_reducible refine (impl_FpRoot.calls k1 t189 t190 true _ A16.out).mono ?_); rintro e w24 ⟨rfl, hb⟩; replace HO186 := Aside0.mk (Kd.R_below (rP HO186) hb); replace BK180 := bB BK180 hb; replace HB := bS HB hb; (try clear hb)) | (go_at_call 45; (with_reducible refine (impl_PointTimes.calls k1 12 t188 t190 false t192 t193 true _ A18.out).mono ?_); rintro e w25 ⟨rfl, hb⟩; replace HO186 := Aside0.mk (Kd.R_below (rP HO186) hb); replace BK180 := bB BK180 hb; replace HB := bS HB hb; (try clear hb)) | ((with_reducible refine gate_dst (N := 8) rfl ?_); refine bE 8 #[.int .i64 0, .int .i64 0, .bool false] 28 ?_; intro gb195 hg w26 hbox hb; replace HO186 := Aside0.mk (Kd.R_below (rP HO186) hb); have BK195 := Aside0.mk (hbox); have GW195 := bG HB hg; replace HB := bS HB hb; obtain ⟨NB180_195, NB195_180⟩ := bN BK180 hg; replace BK180 := bB BK180 hb; clear hb hbox hg; obtain ⟨hnb27, hnc27⟩ := nB NB195_180; obtain ⟨hcz28_0, hcz28_1, hcz28_2, hfz28_0, hfz28_1, hfz28_2⟩ := bK3 (w := w26) BK195))
           repeat (go_quiet (first | ((with_reducible refine gate_dst (N := 14) rfl ?_); refine Kd.R_lit (Kd.int .u8) _ 5 ?hg (N := 14) ?hd (xs := ([(x9_1) % 256] : List Int)) (inner := [.int .u8 ((x9_1) % 256)]) (ok := fun _ => True) (okp := fun _ => True) ?hr ?hp (fun _ hk => hk) trivial (Below.refl _ _) (Nat.le_refl _) (by simp) ?_; (case hd => rfl); (case hg => rfl); (case hr => first | (go_simp; done) | (go_simp; rfl)); (case hp => exact (Reps.one (show Kd.M (Kd.int .u8) _ _ _ ((x9_1) % 256) [.int .u8 ((x9_1) % 256)] from rfl) (Reps.none _ _))); intro v185 w20 ho21 hb hg_ hnew_; clear hg_ hnew_; (first | rw [← Ny184.out] at ho21 | (simp only [Int.reduceToNat] at ho21; rw [← Ny184.out] at ho21)); have HO186 := Aside0.mk (Kd.R_lower ho21 (below_size (bZ HB))); replace BK180 := bB BK180 hb; replace HB := bS HB hb; clear hb ho21; have hcv22 := own_string (P := Tryz.prog) Tryz.underlying22 Tryz.underlying5 Tryz.underlying9 (Kd.own_of_R HO186.out)) | (go_at_call 55; (with_reducible refine (impl_Digest.calls ((strOfNums y184) ++ a0) t187 _ (Kp.Tab.below HT.out (bZ HB)) A5.out).mono ?_); rintro e w23 ⟨rfl, hb⟩; replace HO186 := Aside0.mk (Kd.R_below (rP HO186) hb); replace BK180 := bB BK180 hb; replace HB := bS HB hb; (try clear hb); obtain ⟨q7, hx7, qi7⟩ := sX t187 0 0; obtain ⟨q9, hx9, qi9⟩ := sX t187 1 1; obtain ⟨q11, hx11, qi11⟩ := sX t187 2 2; obtain ⟨q13, hx13, qi13⟩ := sX t187 3 3) | (go_at_call 56; (with_reducible refine (impl_FpOf.calls (Go.bits .or .i64 (Go.bits .or .i64 (Go.bits .or .i64 (wrap64 ((wrap64 (bt t187 0)) * 16777216)) (wrap64 ((wrap64 (bt t187 1)) * 65536))) (wrap64 ((wrap64 (bt t187 2)) * 256))) (wrap64 (bt t187 3))) t188 _ A14.out).mono ?_); rintro e w' ⟨rfl, ⟨nd, rfl⟩⟩; (try exact tD)) | (go_at_call 58; (with_reducible refine (impl_curveAt.calls t188 t189 _ A15.out).mono ?_); rintro e w' ⟨rfl, ⟨nd, rfl⟩⟩; (try exact tD)) | (go_at_call 57; (with_reducible refine (impl_FpRoot.calls k1 t189 t190 true _ A16.out).mono ?_); rintro e w24 ⟨rfl, hb⟩; replace HO186 := Aside0.mk (Kd.R_below (rP HO186) hb); replace BK180 := bB BK180 hb; replace HB := bS HB hb; (try clear hb)) | (go_at_call 45; (with_reducible refine (impl_PointTimes.calls k1 12 t188 t190 false t192 t193 true _ A18.out).mono ?_); rintro e w25 ⟨rfl, hb⟩; replace HO186 := Aside0.mk (Kd.R_below (rP HO186) hb); replace BK180 := bB BK180 hb; replace HB := bS HB hb; (try clear hb)) | ((with_reducible refine gate_dst (N := 8) rfl ?_); refine bE 8 #[.int .i64 0, .int .i64 0, .bool false] 28 ?_; intro gb195 hg w26 hbox hb; replace HO186 := Aside0.mk (Kd.R_below (rP HO186) hb); have BK195 := Aside0.mk (hbox); have GW195 := bG HB hg; replace HB := bS HB hb; obtain ⟨NB180_195, NB195_180⟩ := bN BK180 hg; replace BK180 := bB BK180 hb; clear hb hbox hg; obtain ⟨hnb27, hnc27⟩ := nB NB195_180; obtain ⟨hcz28_0, hcz28_1, hcz28_2, hfz28_0, hfz28_1, hfz28_2⟩ := bK3 (w := w26) BK195)); try go_wp2_with (first | ((with_reducible refine gate_dst (N := 14) rfl ?_); refine Kd.R_lit (Kd.int .u8) _ 5 ?hg (N := 14) ?hd (xs := ([(x9_1) % 256] : List Int)) (inner := [.int .u8 ((x9_1) % 256)]) (ok := fun _ => True) (okp := fun _ => True) ?hr ?hp (fun _ hk => hk) trivial (Below.refl _ _) (Nat.le_refl _) (by simp) ?_; (case hd => rfl); (case hg => rfl); (case hr => first | (go_simp; done) | (go_simp; rfl)); (case hp => exact (Reps.one (show Kd.M (Kd.int .u8) _ _ _ ((x9_1) % 256) [.int .u8 ((x9_1) % 256)] from rfl) (Reps.none _ _))); intro v185 w20 ho21 hb hg_ hnew_; clear hg_ hnew_; (first | rw [← Ny184.out] at ho21 | (simp only [Int.reduceToNat] at ho21; rw [← Ny184.out] at ho21)); have HO186 := Aside0.mk (Kd.R_lower ho21 (below_size (bZ HB))); replace BK180 := bB BK180 hb; replace HB := bS HB hb; clear hb ho21; have hcv22 := own_string (P := Tryz.prog) Tryz.underlying22 Tryz.underlying5 Tryz.underlying9 (Kd.own_of_R HO186.out)) | (go_at_call 55; (with_reducible refine (impl_Digest.calls ((strOfNums y184) ++ a0) t187 _ (Kp.Tab.below HT.out (bZ HB)) A5.out).mono ?_); rintro e w23 ⟨rfl, hb⟩; replace HO186 := Aside0.mk (Kd.R_below (rP HO186) hb); replace BK180 := bB BK180 hb; replace HB := bS HB hb; (try clear hb); obtain ⟨q7, hx7, qi7⟩ := sX t187 0 0; obtain ⟨q9, hx9, qi9⟩ := sX t187 1 1; obtain ⟨q11, hx11, qi11⟩ := sX t187 2 2; obtain ⟨q13, hx13, qi13⟩ := sX t187 3 3) | (go_at_call 56; (with_reducible refine (impl_FpOf.calls (Go.bits .or .i64 (Go.bits .or .i64 (Go.bits .or .i64 (wrap64 ((wrap64 (bt t187 0)) * 16777216)) (wrap64 ((wrap64 (bt t187 1)) * 65536))) (wrap64 ((wrap64 (bt t187 2)) * 256))) (wrap64 (bt t187 3))) t188 _ A14.out).mono ?_); rintro e w' ⟨rfl, ⟨nd, rfl⟩⟩; (try exact tD)) | (go_at_call 58; (with_reducible refine (impl_curveAt.calls t188 t189 _ A15.out).mono ?_); rintro e w' ⟨rfl, ⟨nd, rfl⟩⟩; (try exact tD)) | (go_at_call 57; (with_reducible refine (impl_FpRoot.calls k1 t189 t190 true _ A16.out).mono ?_); rintro e w24 ⟨rfl, hb⟩; replace HO186 := Aside0.mk (Kd.R_below (rP HO186) hb); replace BK180 := bB BK180 hb; replace HB := bS HB hb; (try clear hb)) | (go_at_call 45; (with_reducible refine (impl_PointTimes.calls k1 12 t188 t190 false t192 t193 true _ A18.out).mono ?_); rintro e w25 ⟨rfl, hb⟩; replace HO186 := Aside0.mk (Kd.R_below (rP HO186) hb); replace BK180 := bB BK180 hb; replace HB := bS HB hb; (try clear hb)) | ((with_reducible refine gate_dst (N := 8) rfl ?_); refine bE 8 #[.int .i64 0, .int .i64 0, .bool false] 28 ?_; intro gb195 hg w26 hbox hb; replace HO186 := Aside0.mk (Kd.R_below (rP HO186) hb); have BK195 := Aside0.mk (hbox); have GW195 := bG HB hg; replace HB := bS HB hb; obtain ⟨NB180_195, NB195_180⟩ := bN BK180 hg; replace BK180 := bB BK180 hb; clear hb hbox hg; obtain ⟨hnb27, hnc27⟩ := nB NB195_180; obtain ⟨hcz28_0, hcz28_1, hcz28_2, hfz28_0, hfz28_1, hfz28_2⟩ := bK3 (w := w26) BK195)))
           go_roundg k1
           case measure => have := HK1.out; omega
           case rel => exact ⟨(wrap64 (x9_1 + 1)), (x181000_1), (x181001_1), (x181002_1), rS, H', ⟨by have := HK1.out; omega⟩, ⟨bP BK180⟩, ⟨bZ HB⟩⟩
          ·replace c19 := Bool.eq_false_iff.mpr c19
           subst c19
           rw [if_neg (show ¬ (false = true) by decide)] at H
           simp only [Option.some.injEq, Prod.mk.injEq] at H
           obtain ⟨rfl, rfl, rfl⟩ := H
           go_wp2_with (first | ((with_reducible refine gate_dst (N := 14) rfl ?_); refine Kd.R_lit (Kd.int .u8) _ 5 ?hg (N := 14) ?hd (xs := ([(x9_1) % 256] : List Int)) (inner := [.int .u8 ((x9_1) % 256)]) (ok := fun _ => True) (okp := fun _ => True) ?hr ?hp (fun _ hk => hk) trivial (Below.refl _ _) (Nat.le_refl _) (by simp) ?_; (case hd => rfl); (case hg => rfl); (case hr => first | (go_simp; done) | (go_simp; rfl)); (case hp => exact (Reps.one (show Kd.M (Kd.int .u8) _ _ _ ((x9_1) % 256) [.int .u8 ((x9_1) % 256)] from rfl) (Reps.none _ _))); intro v185 w29 ho30 hb hg_ hnew_; clear hg_ hnew_; (first | rw [← Ny184.out] at ho30 | (simp only [Int.reduceToNat] at ho30; rw [← Ny184.out] at ho30)); have HO186 := Aside0.mk (Kd.R_lower ho30 (below_size (bZ HB))); replace BK180 := bB BK180 hb; replace HB := bS HB hb; clear hb ho30; have hcv31 := own_string (P := Tryz.prog) Tryz.underlying22 Tryz.underlying5 Tryz.underlying9 (Kd.own_of_R HO186.out)) | (go_at_call 55; (with_reducible refine (impl_Digest.calls ((strOfNums y184) ++ a0) t187 _ (Kp.Tab.below HT.out (bZ HB)) A5.out).mono ?_); rintro e w32 ⟨rfl, hb⟩; replace HO186 := Aside0.mk (Kd.R_below (rP HO186) hb); replace BK180 := bB BK180 hb; replace HB := bS HB hb; (try clear hb); obtain ⟨q7, hx7, qi7⟩ := sX t187 0 0; obtain ⟨q9, hx9, qi9⟩ := sX t187 1 1; obtain ⟨q11, hx11, qi11⟩ := sX t187 2 2; obtain ⟨q13, hx13, qi13⟩ := sX t187 3 3) | (go_at_call 56; (with_reducible refine (impl_FpOf.calls (Go.bits .or .i64 (Go.bits .or .i64 (Go.bits .or .i64 (wrap64 ((wrap64 (bt t187 0)) * 16777216)) (wrap64 ((wrap64 (bt t187 1)) * 65536))) (wrap64 ((wrap64 (bt t187 2)) * 256))) (wrap64 (bt t187 3))) t188 _ A14.out).mono ?_); rintro e w' ⟨rfl, ⟨nd, rfl⟩⟩; (try exact tD)) | (go_at_call 58; (with_reducible refine (impl_curveAt.calls t188 t189 _ A15.out).mono ?_); rintro e w' ⟨rfl, ⟨nd, rfl⟩⟩; (try exact tD)) | (go_at_call 57; (with_reducible refine (impl_FpRoot.calls k1 t189 t190 true _ A16.out).mono ?_); rintro e w33 ⟨rfl, hb⟩; replace HO186 := Aside0.mk (Kd.R_below (rP HO186) hb); replace BK180 := bB BK180 hb; replace HB := bS HB hb; (try clear hb)) | (go_at_call 45; (with_reducible refine (impl_PointTimes.calls k1 12 t188 t190 false t192 t193 false _ A18.out).mono ?_); rintro e w34 ⟨rfl, hb⟩; replace HO186 := Aside0.mk (Kd.R_below (rP HO186) hb); replace BK180 := bB BK180 hb; replace HB := bS HB hb; (try clear hb)) | ((with_reducible refine gate_dst (N := 8) rfl ?_); refine bE 8 #[.int .i64 0, .int .i64 0, .bool false] 28 ?_; intro gb195 hg w35 hbox hb; replace HO186 := Aside0.mk (Kd.R_below (rP HO186) hb); have BK195 := Aside0.mk (hbox); have GW195 := bG HB hg; replace HB := bS HB hb; obtain ⟨NB180_195, NB195_180⟩ := bN BK180 hg; replace BK180 := bB BK180 hb; clear hb hbox hg; obtain ⟨hnb36, hnc36⟩ := nB NB195_180; obtain ⟨hcz37_0, hcz37_1, hcz37_2, hfz37_0, hfz37_1, hfz37_2⟩ := bK3 (w := w35) BK195; obtain ⟨hcz38_0, hcz38_1, hcz38_2, hfz38_0, hfz38_1, hfz38_2⟩ := bK3 (w := w35) BK180))
           repeat (go_quiet (first | ((with_reducible refine gate_dst (N := 14) rfl ?_); refine Kd.R_lit (Kd.int .u8) _ 5 ?hg (N := 14) ?hd (xs := ([(x9_1) % 256] : List Int)) (inner := [.int .u8 ((x9_1) % 256)]) (ok := fun _ => True) (okp := fun _ => True) ?hr ?hp (fun _ hk => hk) trivial (Below.refl _ _) (Nat.le_refl _) (by simp) ?_; (case hd => rfl); (case hg => rfl); (case hr => first | (go_simp; done) | (go_simp; rfl)); (case hp => exact (Reps.one (show Kd.M (Kd.int .u8) _ _ _ ((x9_1) % 256) [.int .u8 ((x9_1) % 256)] from rfl) (Reps.none _ _))); intro v185 w29 ho30 hb hg_ hnew_; clear hg_ hnew_; (first | rw [← Ny184.out] at ho30 | (simp only [Int.reduceToNat] at ho30; rw [← Ny184.out] at ho30)); have HO186 := Aside0.mk (Kd.R_lower ho30 (below_size (bZ HB))); replace BK180 := bB BK180 hb; replace HB := bS HB hb; clear hb ho30; have hcv31 := own_string (P := Tryz.prog) Tryz.underlying22 Tryz.underlying5 Tryz.underlying9 (Kd.own_of_R HO186.out)) | (go_at_call 55; (with_reducible refine (impl_Digest.calls ((strOfNums y184) ++ a0) t187 _ (Kp.Tab.below HT.out (bZ HB)) A5.out).mono ?_); rintro e w32 ⟨rfl, hb⟩; replace HO186 := Aside0.mk (Kd.R_below (rP HO186) hb); replace BK180 := bB BK180 hb; replace HB := bS HB hb; (try clear hb); obtain ⟨q7, hx7, qi7⟩ := sX t187 0 0; obtain ⟨q9, hx9, qi9⟩ := sX t187 1 1; obtain ⟨q11, hx11, qi11⟩ := sX t187 2 2; obtain ⟨q13, hx13, qi13⟩ := sX t187 3 3) | (go_at_call 56; (with_reducible refine (impl_FpOf.calls (Go.bits .or .i64 (Go.bits .or .i64 (Go.bits .or .i64 (wrap64 ((wrap64 (bt t187 0)) * 16777216)) (wrap64 ((wrap64 (bt t187 1)) * 65536))) (wrap64 ((wrap64 (bt t187 2)) * 256))) (wrap64 (bt t187 3))) t188 _ A14.out).mono ?_); rintro e w' ⟨rfl, ⟨nd, rfl⟩⟩; (try exact tD)) | (go_at_call 58; (with_reducible refine (impl_curveAt.calls t188 t189 _ A15.out).mono ?_); rintro e w' ⟨rfl, ⟨nd, rfl⟩⟩; (try exact tD)) | (go_at_call 57; (with_reducible refine (impl_FpRoot.calls k1 t189 t190 true _ A16.out).mono ?_); rintro e w33 ⟨rfl, hb⟩; replace HO186 := Aside0.mk (Kd.R_below (rP HO186) hb); replace BK180 := bB BK180 hb; replace HB := bS HB hb; (try clear hb)) | (go_at_call 45; (with_reducible refine (impl_PointTimes.calls k1 12 t188 t190 false t192 t193 false _ A18.out).mono ?_); rintro e w34 ⟨rfl, hb⟩; replace HO186 := Aside0.mk (Kd.R_below (rP HO186) hb); replace BK180 := bB BK180 hb; replace HB := bS HB hb; (try clear hb)) | ((with_reducible refine gate_dst (N := 8) rfl ?_); refine bE 8 #[.int .i64 0, .int .i64 0, .bool false] 28 ?_; intro gb195 hg w35 hbox hb; replace HO186 := Aside0.mk (Kd.R_below (rP HO186) hb); have BK195 := Aside0.mk (hbox); have GW195 := bG HB hg; replace HB := bS HB hb; obtain ⟨NB180_195, NB195_180⟩ := bN BK180 hg; replace BK180 := bB BK180 hb; clear hb hbox hg; obtain ⟨hnb36, hnc36⟩ := nB NB195_180; obtain ⟨hcz37_0, hcz37_1, hcz37_2, hfz37_0, hfz37_1, hfz37_2⟩ := bK3 (w := w35) BK195; obtain ⟨hcz38_0, hcz38_1, hcz38_2, hfz38_0, hfz38_1, hfz38_2⟩ := bK3 (w := w35) BK180)); try go_wp2_with (first | ((with_reducible refine gate_dst (N := 14) rfl ?_); refine Kd.R_lit (Kd.int .u8) _ 5 ?hg (N := 14) ?hd (xs := ([(x9_1) % 256] : List Int)) (inner := [.int .u8 ((x9_1) % 256)]) (ok := fun _ => True) (okp := fun _ => True) ?hr ?hp (fun _ hk => hk) trivial (Below.refl _ _) (Nat.le_refl _) (by simp) ?_; (case hd => rfl); (case hg => rfl); (case hr => first | (go_simp; done) | (go_simp; rfl)); (case hp => exact (Reps.one (show Kd.M (Kd.int .u8) _ _ _ ((x9_1) % 256) [.int .u8 ((x9_1) % 256)] from rfl) (Reps.none _ _))); intro v185 w29 ho30 hb hg_ hnew_; clear hg_ hnew_; (first | rw [← Ny184.out] at ho30 | (simp only [Int.reduceToNat] at ho30; rw [← Ny184.out] at ho30)); have HO186 := Aside0.mk (Kd.R_lower ho30 (below_size (bZ HB))); replace BK180 := bB BK180 hb; replace HB := bS HB hb; clear hb ho30; have hcv31 := own_string (P := Tryz.prog) Tryz.underlying22 Tryz.underlying5 Tryz.underlying9 (Kd.own_of_R HO186.out)) | (go_at_call 55; (with_reducible refine (impl_Digest.calls ((strOfNums y184) ++ a0) t187 _ (Kp.Tab.below HT.out (bZ HB)) A5.out).mono ?_); rintro e w32 ⟨rfl, hb⟩; replace HO186 := Aside0.mk (Kd.R_below (rP HO186) hb); replace BK180 := bB BK180 hb; replace HB := bS HB hb; (try clear hb); obtain ⟨q7, hx7, qi7⟩ := sX t187 0 0; obtain ⟨q9, hx9, qi9⟩ := sX t187 1 1; obtain ⟨q11, hx11, qi11⟩ := sX t187 2 2; obtain ⟨q13, hx13, qi13⟩ := sX t187 3 3) | (go_at_call 56; (with_reducible refine (impl_FpOf.calls (Go.bits .or .i64 (Go.bits .or .i64 (Go.bits .or .i64 (wrap64 ((wrap64 (bt t187 0)) * 16777216)) (wrap64 ((wrap64 (bt t187 1)) * 65536))) (wrap64 ((wrap64 (bt t187 2)) * 256))) (wrap64 (bt t187 3))) t188 _ A14.out).mono ?_); rintro e w' ⟨rfl, ⟨nd, rfl⟩⟩; (try exact tD)) | (go_at_call 58; (with_reducible refine (impl_curveAt.calls t188 t189 _ A15.out).mono ?_); rintro e w' ⟨rfl, ⟨nd, rfl⟩⟩; (try exact tD)) | (go_at_call 57; (with_reducible refine (impl_FpRoot.calls k1 t189 t190 true _ A16.out).mono ?_); rintro e w33 ⟨rfl, hb⟩; replace HO186 := Aside0.mk (Kd.R_below (rP HO186) hb); replace BK180 := bB BK180 hb; replace HB := bS HB hb; (try clear hb)) | (go_at_call 45; (with_reducible refine (impl_PointTimes.calls k1 12 t188 t190 false t192 t193 false _ A18.out).mono ?_); rintro e w34 ⟨rfl, hb⟩; replace HO186 := Aside0.mk (Kd.R_below (rP HO186) hb); replace BK180 := bB BK180 hb; replace HB := bS HB hb; (try clear hb)) | ((with_reducible refine gate_dst (N := 8) rfl ?_); refine bE 8 #[.int .i64 0, .int .i64 0, .bool false] 28 ?_; intro gb195 hg w35 hbox hb; replace HO186 := Aside0.mk (Kd.R_below (rP HO186) hb); have BK195 := Aside0.mk (hbox); have GW195 := bG HB hg; replace HB := bS HB hb; obtain ⟨NB180_195, NB195_180⟩ := bN BK180 hg; replace BK180 := bB BK180 hb; clear hb hbox hg; obtain ⟨hnb36, hnc36⟩ := nB NB195_180; obtain ⟨hcz37_0, hcz37_1, hcz37_2, hfz37_0, hfz37_1, hfz37_2⟩ := bK3 (w := w35) BK195; obtain ⟨hcz38_0, hcz38_1, hcz38_2, hfz38_0, hfz38_1, hfz38_2⟩ := bK3 (w := w35) BK180)))
           refine rC gb180 28 #[.int .i64 t192, .int .i64 t193, .bool false] (bU BK180) Tryz.underlying28 ?_
           exact ⟨rR, bZ HB⟩
         ·replace c17 := Bool.eq_false_iff.mpr c17
          subst c17
          rw [if_neg (show ¬ (false = true) by decide)] at H
          have H' := Aside0.mk H
          clear H
          go_wp2_with (first | ((with_reducible refine gate_dst (N := 14) rfl ?_); refine Kd.R_lit (Kd.int .u8) _ 5 ?hg (N := 14) ?hd (xs := ([(x9_1) % 256] : List Int)) (inner := [.int .u8 ((x9_1) % 256)]) (ok := fun _ => True) (okp := fun _ => True) ?hr ?hp (fun _ hk => hk) trivial (Below.refl _ _) (Nat.le_refl _) (by simp) ?_; (case hd => rfl); (case hg => rfl); (case hr => first | (go_simp; done) | (go_simp; rfl)); (case hp => exact (Reps.one (show Kd.M (Kd.int .u8) _ _ _ ((x9_1) % 256) [.int .u8 ((x9_1) % 256)] from rfl) (Reps.none _ _))); intro v185 w39 ho40 hb hg_ hnew_; clear hg_ hnew_; (first | rw [← Ny184.out] at ho40 | (simp only [Int.reduceToNat] at ho40; rw [← Ny184.out] at ho40)); have HO186 := Aside0.mk (Kd.R_lower ho40 (below_size (bZ HB))); replace BK180 := bB BK180 hb; replace HB := bS HB hb; clear hb ho40; have hcv41 := own_string (P := Tryz.prog) Tryz.underlying22 Tryz.underlying5 Tryz.underlying9 (Kd.own_of_R HO186.out)) | (go_at_call 55; (with_reducible refine (impl_Digest.calls ((strOfNums y184) ++ a0) t187 _ (Kp.Tab.below HT.out (bZ HB)) A5.out).mono ?_); rintro e w42 ⟨rfl, hb⟩; replace HO186 := Aside0.mk (Kd.R_below (rP HO186) hb); replace BK180 := bB BK180 hb; replace HB := bS HB hb; (try clear hb); obtain ⟨q7, hx7, qi7⟩ := sX t187 0 0; obtain ⟨q9, hx9, qi9⟩ := sX t187 1 1; obtain ⟨q11, hx11, qi11⟩ := sX t187 2 2; obtain ⟨q13, hx13, qi13⟩ := sX t187 3 3) | (go_at_call 56; (with_reducible refine (impl_FpOf.calls (Go.bits .or .i64 (Go.bits .or .i64 (Go.bits .or .i64 (wrap64 ((wrap64 (bt t187 0)) * 16777216)) (wrap64 ((wrap64 (bt t187 1)) * 65536))) (wrap64 ((wrap64 (bt t187 2)) * 256))) (wrap64 (bt t187 3))) t188 _ A14.out).mono ?_); rintro e w' ⟨rfl, ⟨nd, rfl⟩⟩; (try exact tD)) | (go_at_call 58; (with_reducible refine (impl_curveAt.calls t188 t189 _ A15.out).mono ?_); rintro e w' ⟨rfl, ⟨nd, rfl⟩⟩; (try exact tD)) | (go_at_call 57; (with_reducible refine (impl_FpRoot.calls k1 t189 t190 false _ A16.out).mono ?_); rintro e w43 ⟨rfl, hb⟩; replace HO186 := Aside0.mk (Kd.R_below (rP HO186) hb); replace BK180 := bB BK180 hb; replace HB := bS HB hb; (try clear hb)))
          repeat (go_quiet (first | ((with_reducible refine gate_dst (N := 14) rfl ?_); refine Kd.R_lit (Kd.int .u8) _ 5 ?hg (N := 14) ?hd (xs := ([(x9_1) % 256] : List Int)) (inner := [.int .u8 ((x9_1) % 256)]) (ok := fun _ => True) (okp := fun _ => True) ?hr ?hp (fun _ hk => hk) trivial (Below.refl _ _) (Nat.le_refl _) (by simp) ?_; (case hd => rfl); (case hg => rfl); (case hr => first | (go_simp; done) | (go_simp; rfl)); (case hp => exact (Reps.one (show Kd.M (Kd.int .u8) _ _ _ ((x9_1) % 256) [.int .u8 ((x9_1) % 256)] from rfl) (Reps.none _ _))); intro v185 w39 ho40 hb hg_ hnew_; clear hg_ hnew_; (first | rw [← Ny184.out] at ho40 | (simp only [Int.reduceToNat] at ho40; rw [← Ny184.out] at ho40)); have HO186 := Aside0.mk (Kd.R_lower ho40 (below_size (bZ HB))); replace BK180 := bB BK180 hb; replace HB := bS HB hb; clear hb ho40; have hcv41 := own_string (P := Tryz.prog) Tryz.underlying22 Tryz.underlying5 Tryz.underlying9 (Kd.own_of_R HO186.out)) | (go_at_call 55; (with_reducible refine (impl_Digest.calls ((strOfNums y184) ++ a0) t187 _ (Kp.Tab.below HT.out (bZ HB)) A5.out).mono ?_); rintro e w42 ⟨rfl, hb⟩; replace HO186 := Aside0.mk (Kd.R_below (rP HO186) hb); replace BK180 := bB BK180 hb; replace HB := bS HB hb; (try clear hb); obtain ⟨q7, hx7, qi7⟩ := sX t187 0 0; obtain ⟨q9, hx9, qi9⟩ := sX t187 1 1; obtain ⟨q11, hx11, qi11⟩ := sX t187 2 2; obtain ⟨q13, hx13, qi13⟩ := sX t187 3 3) | (go_at_call 56; (with_reducible refine (impl_FpOf.calls (Go.bits .or .i64 (Go.bits .or .i64 (Go.bits .or .i64 (wrap64 ((wrap64 (bt t187 0)) * 16777216)) (wrap64 ((wrap64 (bt t187 1)) * 65536))) (wrap64 ((wrap64 (bt t187 2)) * 256))) (wrap64 (bt t187 3))) t188 _ A14.out).mono ?_); rintro e w' ⟨rfl, ⟨nd, rfl⟩⟩; (try exact tD)) | (go_at_call 58; (with_reducible refine (impl_curveAt.calls t188 t189 _ A15.out).mono ?_); rintro e w' ⟨rfl, ⟨nd, rfl⟩⟩; (try exact tD)) | (go_at_call 57; (with_reducible refine (impl_FpRoot.calls k1 t189 t190 false _ A16.out).mono ?_); rintro e w43 ⟨rfl, hb⟩; replace HO186 := Aside0.mk (Kd.R_below (rP HO186) hb); replace BK180 := bB BK180 hb; replace HB := bS HB hb; (try clear hb))); try go_wp2_with (first | ((with_reducible refine gate_dst (N := 14) rfl ?_); refine Kd.R_lit (Kd.int .u8) _ 5 ?hg (N := 14) ?hd (xs := ([(x9_1) % 256] : List Int)) (inner := [.int .u8 ((x9_1) % 256)]) (ok := fun _ => True) (okp := fun _ => True) ?hr ?hp (fun _ hk => hk) trivial (Below.refl _ _) (Nat.le_refl _) (by simp) ?_; (case hd => rfl); (case hg => rfl); (case hr => first | (go_simp; done) | (go_simp; rfl)); (case hp => exact (Reps.one (show Kd.M (Kd.int .u8) _ _ _ ((x9_1) % 256) [.int .u8 ((x9_1) % 256)] from rfl) (Reps.none _ _))); intro v185 w39 ho40 hb hg_ hnew_; clear hg_ hnew_; (first | rw [← Ny184.out] at ho40 | (simp only [Int.reduceToNat] at ho40; rw [← Ny184.out] at ho40)); have HO186 := Aside0.mk (Kd.R_lower ho40 (below_size (bZ HB))); replace BK180 := bB BK180 hb; replace HB := bS HB hb; clear hb ho40; have hcv41 := own_string (P := Tryz.prog) Tryz.underlying22 Tryz.underlying5 Tryz.underlying9 (Kd.own_of_R HO186.out)) | (go_at_call 55; (with_reducible refine (impl_Digest.calls ((strOfNums y184) ++ a0) t187 _ (Kp.Tab.below HT.out (bZ HB)) A5.out).mono ?_); rintro e w42 ⟨rfl, hb⟩; replace HO186 := Aside0.mk (Kd.R_below (rP HO186) hb); replace BK180 := bB BK180 hb; replace HB := bS HB hb; (try clear hb); obtain ⟨q7, hx7, qi7⟩ := sX t187 0 0; obtain ⟨q9, hx9, qi9⟩ := sX t187 1 1; obtain ⟨q11, hx11, qi11⟩ := sX t187 2 2; obtain ⟨q13, hx13, qi13⟩ := sX t187 3 3) | (go_at_call 56; (with_reducible refine (impl_FpOf.calls (Go.bits .or .i64 (Go.bits .or .i64 (Go.bits .or .i64 (wrap64 ((wrap64 (bt t187 0)) * 16777216)) (wrap64 ((wrap64 (bt t187 1)) * 65536))) (wrap64 ((wrap64 (bt t187 2)) * 256))) (wrap64 (bt t187 3))) t188 _ A14.out).mono ?_); rintro e w' ⟨rfl, ⟨nd, rfl⟩⟩; (try exact tD)) | (go_at_call 58; (with_reducible refine (impl_curveAt.calls t188 t189 _ A15.out).mono ?_); rintro e w' ⟨rfl, ⟨nd, rfl⟩⟩; (try exact tD)) | (go_at_call 57; (with_reducible refine (impl_FpRoot.calls k1 t189 t190 false _ A16.out).mono ?_); rintro e w43 ⟨rfl, hb⟩; replace HO186 := Aside0.mk (Kd.R_below (rP HO186) hb); replace BK180 := bB BK180 hb; replace HB := bS HB hb; (try clear hb))))
          go_roundg k1
          case measure => have := HK1.out; omega
          case rel => exact ⟨(wrap64 (x9_1 + 1)), (x181000_1), (x181001_1), (x181002_1), rS, H', ⟨by have := HK1.out; omega⟩, ⟨bP BK180⟩, ⟨bZ HB⟩⟩
        ·rw [if_neg c12] at H
         exact absurd H (by simp)
       ·rw [if_neg c10] at H
        exact absurd H (by simp)
      ·rw [if_neg c8] at H
       exact absurd H (by simp)
     ·rw [if_neg c6] at H
      exact absurd H (by simp)
    ·rw [if_neg c4] at H
     exact absurd H (by simp)
   ·rw [if_neg c3] at H
    have c3b0 := decide_eq_false c3
    clear c3
    obtain ⟨⟨t181, t182, t183⟩, A44, H⟩ := oB H
    simp only [Option.some.injEq, Prod.mk.injEq] at H
    obtain ⟨rfl, rfl, rfl⟩ := H
    go_wp2_with (first | (go_at_call 20; (with_reducible refine (impl_Base.calls  t181 t182 t183 _ A44.out).mono ?_); rintro e w45 ⟨rfl, hb⟩; replace BK180 := bB BK180 hb; replace HB := bS HB hb; (try clear hb); obtain ⟨hcz46_0, hcz46_1, hcz46_2, hfz46_0, hfz46_1, hfz46_2⟩ := bK3 (w := w45) BK180))
    repeat (go_quiet (first | (go_at_call 20; (with_reducible refine (impl_Base.calls  t181 t182 t183 _ A44.out).mono ?_); rintro e w45 ⟨rfl, hb⟩; replace BK180 := bB BK180 hb; replace HB := bS HB hb; (try clear hb); obtain ⟨hcz46_0, hcz46_1, hcz46_2, hfz46_0, hfz46_1, hfz46_2⟩ := bK3 (w := w45) BK180)); try go_wp2_with (first | (go_at_call 20; (with_reducible refine (impl_Base.calls  t181 t182 t183 _ A44.out).mono ?_); rintro e w45 ⟨rfl, hb⟩; replace BK180 := bB BK180 hb; replace HB := bS HB hb; (try clear hb); obtain ⟨hcz46_0, hcz46_1, hcz46_2, hfz46_0, hfz46_1, hfz46_2⟩ := bK3 (w := w45) BK180)))
    refine rC gb180 28 #[.int .i64 t181, .int .i64 t182, .bool t183] (bU BK180) Tryz.underlying28 ?_
    exact ⟨rR, bZ HB⟩
def impl_SignWith.f (k : Nat) (a0 : Int) (a1 : ByteArray) : Option (Int × Int × Bool) := (impl_ScOf.f a0).bind fun t197 => ((impl_HashPoint.f k a1).bind fun bt198 => ((impl_PointTimes.f k t197 bt198.1 bt198.2.1 bt198.2.2).bind fun bt201 => (some (bt201.1, bt201.2.1, bt201.2.2))))
theorem impl_SignWith.calls (k : Nat) (a0 : Int) (a1 : ByteArray) (r1 : Int) (r2 : Int) (r3 : Bool) (w : World) (hT : Kp.Tab w) (h : impl_SignWith.f k a0 a1 = some (r1, r2, r3)) :
  Calls Tryz.prog 10 #[.int .i64 a0, .string a1] w fun e w' => e = .returned (.agg #[.int .i64 r1, .int .i64 r2, .bool r3]) ∧ Below w.heap.size w w' := by
 have HT := Aside0.mk hT
 clear hT
 have hu28 := Tryz.underlying28
 have HB := Aside0.mk (Below.refl w.heap.size w)
 unfold impl_SignWith.f at h
 have H := h
 clear h
 obtain ⟨t197, A3, H⟩ := oB H
 obtain ⟨⟨t198, t199, t200⟩, A4, H⟩ := oB H
 obtain ⟨⟨t201, t202, t203⟩, A5, H⟩ := oB H
 simp only [Option.some.injEq, Prod.mk.injEq] at H
 obtain ⟨rfl, rfl, rfl⟩ := H
 go_enter Tryz.func10, Tryz.ntmps10
 go_wp2_with (first | (refine gB 4 #[.int .i64 0, .int .i64 0, .bool false] 28 ?_; intro gb196 hg w6 BK196 hb; have GW196 := bG HB hg; replace HB := bS HB hb; clear hb hg) | (refine gC (some 6) Tryz.func46 #[.int .i64 a0] ?_; (with_reducible refine (impl_ScOf.calls a0 t197 _ A3.out).mono ?_); rintro e w' ⟨rfl, ⟨nd, rfl⟩⟩; refine ⟨_, rfl, ?_⟩; (try simp only [World.drewN_drewN]); (try (rw [drewN_self w6]; generalize hq_ : World.drewN w6 _ = w6; replace BK196 : Aside0 (w6.heap[gb196]? = some (.cells #[.int .i64 0, .int .i64 0, .bool false] 28 (0, 0))) := ⟨by rw [← hq_]; exact (bP BK196)⟩; replace HB : Aside0 (Below w.heap.size w w6) := ⟨by rw [← hq_]; exact (bZ HB)⟩; clear hq_))) | (refine gC (some 8) Tryz.func17 #[.string a1] ?_; (with_reducible refine (impl_HashPoint.calls k a1 t198 t199 t200 _ (Kp.Tab.below HT.out (bZ HB)) A4.out).mono ?_); rintro e w7 ⟨rfl, hb⟩; refine ⟨_, rfl, ?_⟩; replace BK196 := bB BK196 hb; replace HB := bS HB hb; (try clear hb)) | (refine gC (some 9) Tryz.func45 #[.int .i64 t197, .agg #[.int .i64 t198, .int .i64 t199, .bool t200]] ?_; (with_reducible refine (impl_PointTimes.calls k t197 t198 t199 t200 t201 t202 t203 _ A5.out).mono ?_); rintro e w8 ⟨rfl, hb⟩; refine ⟨_, rfl, ?_⟩; replace BK196 := bB BK196 hb; replace HB := bS HB hb; (try clear hb); obtain ⟨hcz9_0, hcz9_1, hcz9_2, hfz9_0, hfz9_1, hfz9_2⟩ := bK3 (w := w8) BK196))
 refine rC gb196 28 #[.int .i64 t201, .int .i64 t202, .bool t203] (bU BK196) Tryz.underlying28 ?_
 exact ⟨rR, bZ HB⟩
def impl_SignBits.l0 : Nat → Int → ByteArray → List Int → Int → Int → Int → Int → Bool → Option (Int × Int × Bool)
 | 0, _, _, _, _, _, _, _, _ => none
 | k + 1, x1, x2, x16, x17, x18, x1109000, x1109001, x1109002 => if x18 < x17 then (if 0 ≤ x18 then (if x18 < (x16.length : Int) then (if 0 ≤ (IntKind.u64.wrap (x18)) then (if (Go.bits .and .i64 (shr .i64 x1 (IntKind.u64.wrap (x18))) 1) = 1 then ((impl_SignWith.f k (rd x16 x18) x2).bind fun bt1114 => ((impl_PointAdd.f k x1109000 x1109001 x1109002 bt1114.1 bt1114.2.1 bt1114.2.2).bind fun bt1117 => (impl_SignBits.l0 k x1 x2 x16 x17 (wrap64 (x18 + 1)) bt1117.1 bt1117.2.1 bt1117.2.2))) else (impl_SignBits.l0 k x1 x2 x16 x17 (wrap64 (x18 + 1)) x1109000 x1109001 x1109002)) else (none)) else (none)) else (none)) else (some (x1109000, x1109001, x1109002))
def impl_SignBits.f (k : Nat) (a0 : Int) (a1 : Int) (a2 : ByteArray) : Option (Int × Int × Bool) := (impl_isBits.f a1).bind fun t1109 => (if t1109 = true then ((impl_SecretsOf.f k a0).bind fun t1110 => (impl_SignBits.l0 k a1 a2 t1110 (t1110.length : Int) 0 0 0 true)) else (some (0, 0, true)))
theorem impl_SignBits.calls (k : Nat) (a0 : Int) (a1 : Int) (a2 : ByteArray) (r1 : Int) (r2 : Int) (r3 : Bool) (w : World) (hT : Kp.Tab w) (h : impl_SignBits.f k a0 a1 a2 = some (r1, r2, r3)) :
  Calls Tryz.prog 35 #[.int .i64 a0, .int .i64 a1, .string a2] w fun e w' => e = .returned (.agg #[.int .i64 r1, .int .i64 r2, .bool r3]) ∧ Below w.heap.size w w' := by
 have HT := Aside0.mk hT
 clear hT
 have hu28 := Tryz.underlying28
 have HB := Aside0.mk (Below.refl w.heap.size w)
 unfold impl_SignBits.f at h
 have H := h
 clear h
 obtain ⟨t1109, A4, H⟩ := oB H
 by_cases c5 : t1109 = true
 ·subst c5
  rw [if_pos rfl] at H
  obtain ⟨t1110, A6, H⟩ := oB H
  have H' := Aside0.mk H
  clear H
  go_enter Tryz.func35, Tryz.ntmps35
  go_wp2_with (first | (refine gB 6 #[.int .i64 0, .int .i64 0, .bool false] 28 ?_; intro gb1107 hg w7 BK1107 hb; have GW1107 := bG HB hg; replace HB := bS HB hb; clear hb hg) | (refine gB 7 #[.int .i64 0, .int .i64 0, .bool false] 28 ?_; intro gb1108 hg w8 BK1108 hb; have GW1108 := bG HB hg; replace HB := bS HB hb; obtain ⟨NB1107_1108, NB1108_1107⟩ := bN BK1107 hg; replace BK1107 := bB BK1107 hb; clear hb hg; obtain ⟨hnb9, hnc9⟩ := nB NB1108_1107; obtain ⟨hcz10_0, hcz10_1, hcz10_2, hfz10_0, hfz10_1, hfz10_2⟩ := bK3 (w := w8) BK1108) | (refine gC (some 12) Tryz.func78 #[.int .i64 a1] ?_; (with_reducible refine (impl_isBits.calls a1 true _ A4.out).mono ?_); rintro e w' ⟨rfl, ⟨nd, rfl⟩⟩; refine ⟨_, rfl, ?_⟩) | (refine gC (some 16) Tryz.func80 #[.int .i64 a0] ?_; (with_reducible refine (impl_SecretsOf.calls k a0 t1110 _ A6.out).mono ?_); rintro e w11 ⟨v1111, rfl, ho0, hb⟩; refine ⟨_, rfl, ?_⟩; have HO1112 := Aside0.mk (Kd.R_lower ho0 (below_size (bZ HB))); replace BK1107 := bB BK1107 hb; replace BK1108 := bV 28 #[.int .i64 0, .int .i64 0, .bool true] BK1108 hb; replace HB := bS HB hb; (try clear hb); (try clear ho0); obtain ⟨Ao12, co12, eo12⟩ := Kd.R_slice HO1112.out; subst eo12))
  go_loopg [18] k (fun kq v18 w' => ∃ (x18_1 : Int) (x1109000_1 : Int) (x1109001_1 : Int) (x1109002_1 : Bool), v18 = .int .i64 x18_1 ∧ Aside0 (impl_SignBits.l0 kq a1 a2 t1110 (t1110.length : Int) x18_1 x1109000_1 x1109001_1 x1109002_1 = some (r1, r2, r3)) ∧ Aside0 (kq ≤ k) ∧ Aside0 (Kd.R (Kd.int .i64) 3 w' w.heap.size (fun _ => True) (.slice Ao12 t1110.length co12) t1110) ∧ Aside0 (w'.heap[gb1107]? = some (.cells #[.int .i64 0, .int .i64 0, .bool false] 28 (0, 0))) ∧ Aside0 (w'.heap[gb1108]? = some (.cells #[.int .i64 x1109000_1, .int .i64 x1109001_1, .bool x1109002_1] 28 (0, 0))) ∧ Aside0 (Below w.heap.size w w'))
  case atStart => exact ⟨(0), (0), (0), (true), rS, H', ⟨Nat.le_refl _⟩, ⟨rP HO1112⟩, ⟨bP BK1107⟩, ⟨bP BK1108⟩, ⟨bZ HB⟩⟩
  case round =>
   clear H'
   try clear p2
   try clear c3
   try clear c5
   try clear c7
   try clear c8
   try clear c9
   try clear hcz10_0
   try clear hcz10_1
   try clear hcz10_2
   try clear hfz10_0
   try clear hfz10_1
   try clear hfz10_2
   obtain ⟨x18_1, x1109000_1, x1109001_1, x1109002_1, rfl, HA, HK1, HO_16, BK1107, BK1108, HB⟩ := hrel
   cases gk with
   | zero => exact absurd HA.out (by simp [impl_SignBits.l0])
   | succ k1 =>
    have H := HA.out
    clear HA
    simp only [impl_SignBits.l0] at H
    by_cases c13 : x18_1 < (t1110.length : Int)
    ·rw [if_pos c13] at H
     have c13b0 := decide_eq_true c13
     clear c13
     by_cases c14 : 0 ≤ x18_1
     ·rw [if_pos c14] at H
      have c14b0 := decide_eq_true c14
      clear c14
      by_cases c15 : x18_1 < (t1110.length : Int)
      ·rw [if_pos c15] at H
       have c15b0 := decide_eq_true c15
       clear c15
       obtain ⟨ji16, hji16⟩ : ∃ j_ : Int, (IntKind.u64.wrap (x18_1)) = j_ := ⟨_, rfl⟩
       replace H : (if 0 ≤ (ji16) then (if (Go.bits .and .i64 (shr .i64 a1 (ji16)) 1) = 1 then ((impl_SignWith.f k1 (rd t1110 x18_1) a2).bind fun bt1114 => ((impl_PointAdd.f k1 x1109000_1 x1109001_1 x1109002_1 bt1114.1 bt1114.2.1 bt1114.2.2).bind fun bt1117 => (impl_SignBits.l0 k1 a1 a2 t1110 (t1110.length : Int) (wrap64 (x18_1 + 1)) bt1117.1 bt1117.2.1 bt1117.2.2))) else (impl_SignBits.l0 k1 a1 a2 t1110 (t1110.length : Int) (wrap64 (x18_1 + 1)) x1109000_1 x1109001_1 x1109002_1)) else (none)) = some (r1, r2, r3) := jR hji16 H
       by_cases c17 : 0 ≤ (ji16)
       ·rw [if_pos c17] at H
        have c17b0 := eq_true c17
        have c17b1 := decide_eq_true c17
        clear c17
        obtain ⟨ji18, hji18⟩ : ∃ j_ : Int, (shr .i64 a1 (ji16)) = j_ := ⟨_, rfl⟩
        replace H : (if (Go.bits .and .i64 (ji18) 1) = 1 then ((impl_SignWith.f k1 (rd t1110 x18_1) a2).bind fun bt1114 => ((impl_PointAdd.f k1 x1109000_1 x1109001_1 x1109002_1 bt1114.1 bt1114.2.1 bt1114.2.2).bind fun bt1117 => (impl_SignBits.l0 k1 a1 a2 t1110 (t1110.length : Int) (wrap64 (x18_1 + 1)) bt1117.1 bt1117.2.1 bt1117.2.2))) else (impl_SignBits.l0 k1 a1 a2 t1110 (t1110.length : Int) (wrap64 (x18_1 + 1)) x1109000_1 x1109001_1 x1109002_1)) = some (r1, r2, r3) := jR hji18 H
        have hji18_ : (a1 / 2 ^ min (ji16).toNat 64) = ji18 := hji18
        have hji18z : (ji16) ≤ 64 → (a1 / 2 ^ (ji16).toNat) = ji18 := shr_small hji18
        by_cases c19 : (Go.bits .and .i64 (ji18) 1) = 1
        ·rw [if_pos c19] at H
         have c19b0 : ((Go.bits .and .i64 (ji18) 1) == 1) = true := beq_iff_eq.mpr c19
         have c19b1 : ((Go.bits .and .i64 (ji18) 1) != 1) = false := bne_eq_false_iff_eq.mpr c19
         clear c19
         obtain ⟨⟨t1114, t1115, t1116⟩, A20, H⟩ := oB H
         obtain ⟨⟨t1117, t1118, t1119⟩, A21, H⟩ := oB H
         have H' := Aside0.mk H
         clear H
         have p1113 : 0 ≤ (x18_1 : Int) := aQ
         have q1113 : x18_1 < (t1110.length : Int) := aQ
         obtain ⟨ad1113, e1113, hx1113_0⟩ := Kd.at_int (Kd.R_reads' HO_16.out).2.2 x18_1 p1113 q1113
         cases e1113
         replace p1113 := eq_true p1113
         replace q1113 := eq_true q1113
         try go_wp2
         replace HO_16 := Aside0.mk (Kd.R_drew HO_16.out)
         replace BK1107 := Aside0.mk (blk_drew BK1107.out)
         replace BK1108 := Aside0.mk (blk_drew BK1108.out)
         replace HB := Aside0.mk (below_drew1 HB.out)
         refine start_ (n := 6) (S := fun w' => SQ3 w' gb1108 (.int .i64 x1109000_1) (.int .i64 x1109001_1) (.bool x1109002_1)) (ds := [5]) #[false, false, false, false, false, false] (by kernel_rfl) rfl rfl (bT3 BK1108) (fun hHeld => ?_)
         generalize wr.drew = w22 at HO_16 BK1107 BK1108 HB hHeld ⊢
         refine pJ 1 (some 30) ?_
         refine pJ 2 (some 31) ?_
         refine tJ 0 (some 29) hHeld ?_
         refine one_ (i := 3) (N := some 32) #[true, true, true, true, false, false] rfl rfl (by kernel_rfl) (by decide) (fun K hK => ?_)
         refine gO Tryz.func10 #[.int .i64 (rd t1110 x18_1), .string a2] ?_
         with_reducible refine (impl_SignWith.calls k1 (rd t1110 x18_1) a2 t1114 t1115 t1116 _ (Kp.Tab.below HT.out (bZ HB)) A20.out).mono ?_
         rintro e w23 ⟨rfl, hb⟩
         refine ⟨_, rfl, ?_⟩
         replace HO_16 := Aside0.mk (Kd.R_below (rP HO_16) hb)
         replace BK1107 := bB BK1107 hb
         replace BK1108 := bB BK1108 hb
         replace HB := bS HB hb
         (try clear hb)
         refine hK.out _ _ (bT3 BK1108) (fun hHeld => ?_)
         clear hK K
         refine nO (some 32) ?_
         refine one_ (i := 4) (N := some 33) #[true, true, true, true, true, false] rfl rfl (by kernel_rfl) (by decide) (fun K hK => ?_)
         refine gO Tryz.func9 #[.agg #[.int .i64 x1109000_1, .int .i64 x1109001_1, .bool x1109002_1], .agg #[.int .i64 t1114, .int .i64 t1115, .bool t1116]] ?_
         with_reducible refine (impl_PointAdd.calls k1 x1109000_1 x1109001_1 x1109002_1 t1114 t1115 t1116 t1117 t1118 t1119 _ A21.out).mono ?_
         rintro e w24 ⟨rfl, hb⟩
         refine ⟨_, rfl, ?_⟩
         replace HO_16 := Aside0.mk (Kd.R_below (rP HO_16) hb)
         replace BK1107 := bB BK1107 hb
         replace BK1108 := bB BK1108 hb
         replace HB := bS HB hb
         (try clear hb)
         refine hK.out _ _ (bT3 BK1108) (fun hHeld => ?_)
         clear hK K
         refine nO (some 33) ?_
         refine last_ (i := 5) (N := none) #[true, true, true, true, true, true] rfl rfl (by kernel_rfl) (by decide) (fun K hK => ?_)
         have hs25 : w24.cell? ⟨gb1108, 0, none⟩ = some (.int .i64 x1109000_1) := bc BK1108 0
         have hfs25 := blk_frozen BK1108.out 0
         obtain ⟨hns25_0, hms25_0⟩ := nB NB1107_1108
         have hs26 : w24.cell? ⟨gb1108, 1, none⟩ = some (.int .i64 x1109001_1) := bc BK1108 1
         have hfs26 := blk_frozen BK1108.out 1
         obtain ⟨hns26_0, hms26_0⟩ := nB NB1107_1108
         have hs27 : w24.cell? ⟨gb1108, 2, none⟩ = some (.bool x1109002_1) := bc BK1108 2
         have hfs27 := blk_frozen BK1108.out 2
         obtain ⟨hns27_0, hms27_0⟩ := nB NB1107_1108
         refine skip_ (w1 := ?_) (by rfl) rfl ?_ ?_
         rotate_left
         ·go_simp
          rfl
         refine hK.out _ _ ?_
         clear hK K
         refine done_ (by kernel_rfl) ?_
         try go_wp2
         go_roundg k1
         case measure => have := HK1.out; omega
         case rel => exact ⟨(wrap64 (x18_1 + 1)), (t1117), (t1118), (t1119), rS, H', ⟨by have := HK1.out; omega⟩, ⟨by (with_reducible repeat (first | apply Kd.R_alloc | apply Kd.R_drewN | apply Kd.R_drew)); exact Kd.R_mono (Kd.R_far (p := ⟨gb1108, 2, none⟩) (Kd.R_far (p := ⟨gb1108, 1, none⟩) (Kd.R_far (p := ⟨gb1108, 0, none⟩) (Kd.R_types HO_16.out BK1108.out (by decide)) (fun _ hk => hk.2) (.int .i64 t1117)) (fun _ hk => hk.2) (.int .i64 t1118)) (fun _ hk => hk.2) (.bool t1119)) (fun _ hk => trivial)⟩, ⟨bP BK1107⟩, ⟨bU BK1108⟩, ⟨bZ HB⟩⟩
        ·rw [if_neg c19] at H
         have c19b0 : ((Go.bits .and .i64 (ji18) 1) == 1) = false := beq_eq_false_iff_ne.mpr c19
         have c19b1 : ((Go.bits .and .i64 (ji18) 1) != 1) = true := bne_iff_ne.mpr c19
         have H' := Aside0.mk H
         clear H
         have p1113 : 0 ≤ (x18_1 : Int) := aQ
         have q1113 : x18_1 < (t1110.length : Int) := aQ
         obtain ⟨ad1113, e1113, hx1113_0⟩ := Kd.at_int (Kd.R_reads' HO_16.out).2.2 x18_1 p1113 q1113
         cases e1113
         replace p1113 := eq_true p1113
         replace q1113 := eq_true q1113
         go_wp2
         go_roundg k1
         case measure => have := HK1.out; omega
         case rel => exact ⟨(wrap64 (x18_1 + 1)), (x1109000_1), (x1109001_1), (x1109002_1), rS, H', ⟨by have := HK1.out; omega⟩, ⟨rP HO_16⟩, ⟨bP BK1107⟩, ⟨bP BK1108⟩, ⟨bZ HB⟩⟩
       ·rw [if_neg c17] at H
        exact absurd H (by simp)
      ·rw [if_neg c15] at H
       exact absurd H (by simp)
     ·rw [if_neg c14] at H
      exact absurd H (by simp)
    ·rw [if_neg c13] at H
     have c13b0 := decide_eq_false c13
     clear c13
     simp only [Option.some.injEq, Prod.mk.injEq] at H
     obtain ⟨rfl, rfl, rfl⟩ := H
     obtain ⟨hnb28, hnc28⟩ := nB NB1108_1107
     obtain ⟨hcz29_0, hcz29_1, hcz29_2, hfz29_0, hfz29_1, hfz29_2⟩ := bK3 (w := wr) BK1108
     obtain ⟨hcz30_0, hcz30_1, hcz30_2, hfz30_0, hfz30_1, hfz30_2⟩ := bK3 (w := wr) BK1107
     go_wp2
     refine rC gb1107 28 #[.int .i64 x1109000_1, .int .i64 x1109001_1, .bool x1109002_1] (bU BK1107) Tryz.underlying28 ?_
     exact ⟨rR, bZ HB⟩
 ·replace c5 := Bool.eq_false_iff.mpr c5
  subst c5
  rw [if_neg (show ¬ (false = true) by decide)] at H
  simp only [Option.some.injEq, Prod.mk.injEq] at H
  obtain ⟨rfl, rfl, rfl⟩ := H
  go_enter Tryz.func35, Tryz.ntmps35
  go_wp2_with (first | (refine gB 6 #[.int .i64 0, .int .i64 0, .bool false] 28 ?_; intro gb1107 hg w31 BK1107 hb; have GW1107 := bG HB hg; replace HB := bS HB hb; clear hb hg) | (refine gB 7 #[.int .i64 0, .int .i64 0, .bool false] 28 ?_; intro gb1108 hg w32 BK1108 hb; have GW1108 := bG HB hg; replace HB := bS HB hb; obtain ⟨NB1107_1108, NB1108_1107⟩ := bN BK1107 hg; replace BK1107 := bB BK1107 hb; clear hb hg; obtain ⟨hnb33, hnc33⟩ := nB NB1108_1107; obtain ⟨hcz34_0, hcz34_1, hcz34_2, hfz34_0, hfz34_1, hfz34_2⟩ := bK3 (w := w32) BK1108) | (refine gC (some 12) Tryz.func78 #[.int .i64 a1] ?_; (with_reducible refine (impl_isBits.calls a1 false _ A4.out).mono ?_); rintro e w' ⟨rfl, ⟨nd, rfl⟩⟩; refine ⟨_, rfl, ?_⟩; obtain ⟨hcz35_0, hcz35_1, hcz35_2, hfz35_0, hfz35_1, hfz35_2⟩ := bK3 (w := w32) BK1107))
  refine rC gb1107 28 #[.int .i64 0, .int .i64 0, .bool true] (bU BK1107) Tryz.underlying28 ?_
  exact ⟨rR, bZ HB⟩
def spec_HashPoint.l0 : Nat → ByteArray → Int → Option (Int × Int × Bool)
 | 0, _, _ => none
 | k + 1, x0, x3 => if x3 < 64 then ((some (([(x3) % 256] : List Int) : List Int)).bind fun y353 => (if (strOfNums y353).size + x0.size ≤ 9223372036854775807 then ((spec_Digest.f ((strOfNums y353) ++ x0)).bind fun t356 => (if 0 < (t356.size : Int) then (if 1 < (t356.size : Int) then (if 2 < (t356.size : Int) then (if 3 < (t356.size : Int) then ((spec_FpOf.f (Go.bits .or .i64 (Go.bits .or .i64 (Go.bits .or .i64 (wrap64 ((wrap64 (bt t356 0)) * 16777216)) (wrap64 ((wrap64 (bt t356 1)) * 65536))) (wrap64 ((wrap64 (bt t356 2)) * 256))) (wrap64 (bt t356 3)))).bind fun t357 => ((spec_l07Right.f t357).bind fun t358 => ((spec_FpRoot.f k t358).bind fun bt359 => ((spec_PointTimes.f k 12 t357 bt359.1 false).bind fun bt361 => (if bt359.2 = true then (if bt361.2.2 = true then (spec_HashPoint.l0 k x0 (wrap64 (x3 + 1))) else (some (bt361.1, bt361.2.1, bt361.2.2))) else (spec_HashPoint.l0 k x0 (wrap64 (x3 + 1)))))))) else (none)) else (none)) else (none)) else (none))) else (none))) else ((spec_Base.f).bind fun bt350 => (some (bt350.1, bt350.2.1, bt350.2.2)))
def spec_HashPoint.f (k : Nat) (a0 : ByteArray) : Option (Int × Int × Bool) := spec_HashPoint.l0 k a0 0
theorem spec_HashPoint.calls (k : Nat) (a0 : ByteArray) (r1 : Int) (r2 : Int) (r3 : Bool) (w : World) (h : spec_HashPoint.f k a0 = some (r1, r2, r3)) :
  Calls Tryz.prog 22 #[.string a0] w fun e w' => e = .returned (.agg #[.int .i64 r1, .int .i64 r2, .bool r3]) ∧ Below w.heap.size w w' := by
 have hu28 := Tryz.underlying28
 have HB := Aside0.mk (Below.refl w.heap.size w)
 have H : (spec_HashPoint.l0 k a0 0) = some (r1, r2, r3) := h
 clear h
 have H' := Aside0.mk H
 clear H
 go_enter Tryz.func22, Tryz.ntmps22
 go_wp2_with (first | (refine gB 2 #[.int .i64 0, .int .i64 0, .bool false] 28 ?_; intro gb349 hg w2 BK349 hb; have GW349 := bG HB hg; replace HB := bS HB hb; clear hb hg))
 repeat (go_quiet (first | (refine gB 2 #[.int .i64 0, .int .i64 0, .bool false] 28 ?_; intro gb349 hg w2 BK349 hb; have GW349 := bG HB hg; replace HB := bS HB hb; clear hb hg)); try go_wp2_with (first | (refine gB 2 #[.int .i64 0, .int .i64 0, .bool false] 28 ?_; intro gb349 hg w2 BK349 hb; have GW349 := bG HB hg; replace HB := bS HB hb; clear hb hg)))
 go_loopg [3] k (fun kq v3 w' => ∃ (x3_1 : Int) (x350000_1 : Int) (x350001_1 : Int) (x350002_1 : Bool), v3 = .int .i64 x3_1 ∧ Aside0 (spec_HashPoint.l0 kq a0 x3_1 = some (r1, r2, r3)) ∧ Aside0 (kq ≤ k) ∧ Aside0 (w'.heap[gb349]? = some (.cells #[.int .i64 x350000_1, .int .i64 x350001_1, .bool x350002_1] 28 (0, 0))) ∧ Aside0 (Below w.heap.size w w'))
 case atStart => exact ⟨(0), (0), (0), (false), rS, H', ⟨Nat.le_refl _⟩, ⟨bP BK349⟩, ⟨bZ HB⟩⟩
 case round =>
  clear H'
  try clear c2
  try clear p2
  obtain ⟨x3_1, x350000_1, x350001_1, x350002_1, rfl, HA, HK1, BK349, HB⟩ := hrel
  cases gk with
  | zero => exact absurd HA.out (by simp [spec_HashPoint.l0])
  | succ k1 =>
   have H := HA.out
   clear HA
   simp only [spec_HashPoint.l0] at H
   by_cases c3 : x3_1 < 64
   ·rw [if_pos c3] at H
    have c3b0 := decide_eq_true c3
    clear c3
    obtain ⟨y353, hy353⟩ : ∃ y_ : List Int, y_ = (([(x3_1) % 256] : List Int)) := ⟨_, rfl⟩
    replace H : (if (strOfNums y353).size + a0.size ≤ 9223372036854775807 then ((spec_Digest.f ((strOfNums y353) ++ a0)).bind fun t356 => (if 0 < (t356.size : Int) then (if 1 < (t356.size : Int) then (if 2 < (t356.size : Int) then (if 3 < (t356.size : Int) then ((spec_FpOf.f (Go.bits .or .i64 (Go.bits .or .i64 (Go.bits .or .i64 (wrap64 ((wrap64 (bt t356 0)) * 16777216)) (wrap64 ((wrap64 (bt t356 1)) * 65536))) (wrap64 ((wrap64 (bt t356 2)) * 256))) (wrap64 (bt t356 3)))).bind fun t357 => ((spec_l07Right.f t357).bind fun t358 => ((spec_FpRoot.f k1 t358).bind fun bt359 => ((spec_PointTimes.f k1 12 t357 bt359.1 false).bind fun bt361 => (if bt359.2 = true then (if bt361.2.2 = true then (spec_HashPoint.l0 k1 a0 (wrap64 (x3_1 + 1))) else (some (bt361.1, bt361.2.1, bt361.2.2))) else (spec_HashPoint.l0 k1 a0 (wrap64 (x3_1 + 1)))))))) else (none)) else (none)) else (none)) else (none))) else (none)) = some (r1, r2, r3) := yR hy353 H
    have Ny353 := Aside0.mk hy353
    clear hy353
    by_cases c4 : (strOfNums y353).size + a0.size ≤ 9223372036854775807
    ·rw [if_pos c4] at H
     have c4b0 := eq_true c4
     have c4b1 := decide_eq_true c4
     try have c4b2 : (9223372036854775807 < (strOfNums y353).size + a0.size) = False := eq_false (Nat.not_lt.2 c4)
     try simp only [ByteArray.size_append] at c4b2
     obtain ⟨t356, A5, H⟩ := oB H
     by_cases c6 : 0 < (t356.size : Int)
     ·rw [if_pos c6] at H
      have c6b0 := decide_eq_true c6
      have c6b1 : decide (0 < t356.size) = true := decide_eq_true (by omega)
      clear c6
      by_cases c8 : 1 < (t356.size : Int)
      ·rw [if_pos c8] at H
       have c8b0 := decide_eq_true c8
       have c8b1 : decide (1 < t356.size) = true := decide_eq_true (by omega)
       clear c8
       by_cases c10 : 2 < (t356.size : Int)
       ·rw [if_pos c10] at H
        have c10b0 := decide_eq_true c10
        have c10b1 : decide (2 < t356.size) = true := decide_eq_true (by omega)
        clear c10
        by_cases c12 : 3 < (t356.size : Int)
        ·rw [if_pos c12] at H
         have c12b0 := decide_eq_true c12
         have c12b1 : decide (3 < t356.size) = true := decide_eq_true (by omega)
         clear c12
         obtain ⟨t357, A14, H⟩ := oB H
         obtain ⟨t358, A15, H⟩ := oB H
         obtain ⟨⟨t359, t360⟩, A16, H⟩ := oB H
         obtain ⟨⟨t361, t362, t363⟩, A17, H⟩ := oB H
         by_cases c18 : t360 = true
         ·subst c18
          rw [if_pos rfl] at H
          by_cases c19 : t363 = true
          ·subst c19
           rw [if_pos rfl] at H
           have H' := Aside0.mk H
           clear H
           go_wp2_with (first | ((with_reducible refine gate_dst (N := 15) rfl ?_); refine Kd.R_lit (Kd.int .u8) _ 5 ?hg (N := 15) ?hd (xs := ([(x3_1) % 256] : List Int)) (inner := [.int .u8 ((x3_1) % 256)]) (ok := fun _ => True) (okp := fun _ => True) ?hr ?hp (fun _ hk => hk) trivial (Below.refl _ _) (Nat.le_refl _) (by simp) ?_; (case hd => rfl); (case hg => rfl); (case hr => first | (go_simp; done) | (go_simp; rfl)); (case hp => exact (Reps.one (show Kd.M (Kd.int .u8) _ _ _ ((x3_1) % 256) [.int .u8 ((x3_1) % 256)] from rfl) (Reps.none _ _))); intro v354 w20 ho21 hb hg_ hnew_; clear hg_ hnew_; (first | rw [← Ny353.out] at ho21 | (simp only [Int.reduceToNat] at ho21; rw [← Ny353.out] at ho21)); have HO355 := Aside0.mk (Kd.R_lower ho21 (below_size (bZ HB))); replace BK349 := bB BK349 hb; replace HB := bS HB hb; clear hb ho21; have hcv22 := own_string (P := Tryz.prog) Tryz.underlying22 Tryz.underlying5 Tryz.underlying9 (Kd.own_of_R HO355.out)) | (go_at_call 61; (with_reducible refine (spec_Digest.calls ((strOfNums y353) ++ a0) t356 _ A5.out).mono ?_); rintro e w23 ⟨rfl, hb⟩; replace HO355 := Aside0.mk (Kd.R_below (rP HO355) hb); replace BK349 := bB BK349 hb; replace HB := bS HB hb; (try clear hb); obtain ⟨q7, hx7, qi7⟩ := sX t356 0 0; obtain ⟨q9, hx9, qi9⟩ := sX t356 1 1; obtain ⟨q11, hx11, qi11⟩ := sX t356 2 2; obtain ⟨q13, hx13, qi13⟩ := sX t356 3 3) | (go_at_call 62; (with_reducible refine (spec_FpOf.calls (Go.bits .or .i64 (Go.bits .or .i64 (Go.bits .or .i64 (wrap64 ((wrap64 (bt t356 0)) * 16777216)) (wrap64 ((wrap64 (bt t356 1)) * 65536))) (wrap64 ((wrap64 (bt t356 2)) * 256))) (wrap64 (bt t356 3))) t357 _ A14.out).mono ?_); rintro e w' ⟨rfl, ⟨nd, rfl⟩⟩; (try exact tD)) | (go_at_call 64; (with_reducible refine (spec_l07Right.calls t357 t358 _ A15.out).mono ?_); rintro e w' ⟨rfl, ⟨nd, rfl⟩⟩; (try exact tD)) | (go_at_call 63; (with_reducible refine (spec_FpRoot.calls k1 t358 t359 true _ A16.out).mono ?_); rintro e w' ⟨rfl, ⟨nd, rfl⟩⟩; (try exact tD)) | (go_at_call 65; (with_reducible refine (spec_PointTimes.calls k1 12 t357 t359 false t361 t362 true _ A17.out).mono ?_); rintro e w24 ⟨rfl, hb⟩; replace HO355 := Aside0.mk (Kd.R_below (rP HO355) hb); replace BK349 := bB BK349 hb; replace HB := bS HB hb; (try clear hb)) | ((with_reducible refine gate_dst (N := 8) rfl ?_); refine bE 8 #[.int .i64 0, .int .i64 0, .bool false] 28 ?_; intro gb364 hg w25 hbox hb; replace HO355 := Aside0.mk (Kd.R_below (rP HO355) hb); have BK364 := Aside0.mk (hbox); have GW364 := bG HB hg; replace HB := bS HB hb; obtain ⟨NB349_364, NB364_349⟩ := bN BK349 hg; replace BK349 := bB BK349 hb; clear hb hbox hg; obtain ⟨hnb26, hnc26⟩ := nB NB364_349; obtain ⟨hcz27_0, hcz27_1, hcz27_2, hfz27_0, hfz27_1, hfz27_2⟩ := bK3 (w := w25) BK364))
           repeat (go_quiet (first | ((with_reducible refine gate_dst (N := 15) rfl ?_); refine Kd.R_lit (Kd.int .u8) _ 5 ?hg (N := 15) ?hd (xs := ([(x3_1) % 256] : List Int)) (inner := [.int .u8 ((x3_1) % 256)]) (ok := fun _ => True) (okp := fun _ => True) ?hr ?hp (fun _ hk => hk) trivial (Below.refl _ _) (Nat.le_refl _) (by simp) ?_; (case hd => rfl); (case hg => rfl); (case hr => first | (go_simp; done) | (go_simp; rfl)); (case hp => exact (Reps.one (show Kd.M (Kd.int .u8) _ _ _ ((x3_1) % 256) [.int .u8 ((x3_1) % 256)] from rfl) (Reps.none _ _))); intro v354 w20 ho21 hb hg_ hnew_; clear hg_ hnew_; (first | rw [← Ny353.out] at ho21 | (simp only [Int.reduceToNat] at ho21; rw [← Ny353.out] at ho21)); have HO355 := Aside0.mk (Kd.R_lower ho21 (below_size (bZ HB))); replace BK349 := bB BK349 hb; replace HB := bS HB hb; clear hb ho21; have hcv22 := own_string (P := Tryz.prog) Tryz.underlying22 Tryz.underlying5 Tryz.underlying9 (Kd.own_of_R HO355.out)) | (go_at_call 61; (with_reducible refine (spec_Digest.calls ((strOfNums y353) ++ a0) t356 _ A5.out).mono ?_); rintro e w23 ⟨rfl, hb⟩; replace HO355 := Aside0.mk (Kd.R_below (rP HO355) hb); replace BK349 := bB BK349 hb; replace HB := bS HB hb; (try clear hb); obtain ⟨q7, hx7, qi7⟩ := sX t356 0 0; obtain ⟨q9, hx9, qi9⟩ := sX t356 1 1; obtain ⟨q11, hx11, qi11⟩ := sX t356 2 2; obtain ⟨q13, hx13, qi13⟩ := sX t356 3 3) | (go_at_call 62; (with_reducible refine (spec_FpOf.calls (Go.bits .or .i64 (Go.bits .or .i64 (Go.bits .or .i64 (wrap64 ((wrap64 (bt t356 0)) * 16777216)) (wrap64 ((wrap64 (bt t356 1)) * 65536))) (wrap64 ((wrap64 (bt t356 2)) * 256))) (wrap64 (bt t356 3))) t357 _ A14.out).mono ?_); rintro e w' ⟨rfl, ⟨nd, rfl⟩⟩; (try exact tD)) | (go_at_call 64; (with_reducible refine (spec_l07Right.calls t357 t358 _ A15.out).mono ?_); rintro e w' ⟨rfl, ⟨nd, rfl⟩⟩; (try exact tD)) | (go_at_call 63; (with_reducible refine (spec_FpRoot.calls k1 t358 t359 true _ A16.out).mono ?_); rintro e w' ⟨rfl, ⟨nd, rfl⟩⟩; (try exact tD)) | (go_at_call 65; (with_reducible refine (spec_PointTimes.calls k1 12 t357 t359 false t361 t362 true _ A17.out).mono ?_); rintro e w24 ⟨rfl, hb⟩; replace HO355 := Aside0.mk (Kd.R_below (rP HO355) hb); replace BK349 := bB BK349 hb; replace HB := bS HB hb; (try clear hb)) | ((with_reducible refine gate_dst (N := 8) rfl ?_); refine bE 8 #[.int .i64 0, .int .i64 0, .bool false] 28 ?_; intro gb364 hg w25 hbox hb; replace HO355 := Aside0.mk (Kd.R_below (rP HO355) hb); have BK364 := Aside0.mk (hbox); have GW364 := bG HB hg; replace HB := bS HB hb; obtain ⟨NB349_364, NB364_349⟩ := bN BK349 hg; replace BK349 := bB BK349 hb; clear hb hbox hg; obtain ⟨hnb26, hnc26⟩ := nB NB364_349; obtain ⟨hcz27_0, hcz27_1, hcz27_2, hfz27_0, hfz27_1, hfz27_2⟩ := bK3 (w := w25) BK364)); try go_wp2_with (first | ((with_reducible refine gate_dst (N := 15) rfl ?_); refine Kd.R_lit (Kd.int .u8) _ 5 ?hg (N := 15) ?hd (xs := ([(x3_1) % 256] : List Int)) (inner := [.int .u8 ((x3_1) % 256)]) (ok := fun _ => True) (okp := fun _ => True) ?hr ?hp (fun _ hk => hk) trivial (Below.refl _ _) (Nat.le_refl _) (by simp) ?_; (case hd => rfl); (case hg => rfl); (case hr => first | (go_simp; done) | (go_simp; rfl)); (case hp => exact (Reps.one (show Kd.M (Kd.int .u8) _ _ _ ((x3_1) % 256) [.int .u8 ((x3_1) % 256)] from rfl) (Reps.none _ _))); intro v354 w20 ho21 hb hg_ hnew_; clear hg_ hnew_; (first | rw [← Ny353.out] at ho21 | (simp only [Int.reduceToNat] at ho21; rw [← Ny353.out] at ho21)); have HO355 := Aside0.mk (Kd.R_lower ho21 (below_size (bZ HB))); replace BK349 := bB BK349 hb; replace HB := bS HB hb; clear hb ho21; have hcv22 := own_string (P := Tryz.prog) Tryz.underlying22 Tryz.underlying5 Tryz.underlying9 (Kd.own_of_R HO355.out)) | (go_at_call 61; (with_reducible refine (spec_Digest.calls ((strOfNums y353) ++ a0) t356 _ A5.out).mono ?_); rintro e w23 ⟨rfl, hb⟩; replace HO355 := Aside0.mk (Kd.R_below (rP HO355) hb); replace BK349 := bB BK349 hb; replace HB := bS HB hb; (try clear hb); obtain ⟨q7, hx7, qi7⟩ := sX t356 0 0; obtain ⟨q9, hx9, qi9⟩ := sX t356 1 1; obtain ⟨q11, hx11, qi11⟩ := sX t356 2 2; obtain ⟨q13, hx13, qi13⟩ := sX t356 3 3) | (go_at_call 62; (with_reducible refine (spec_FpOf.calls (Go.bits .or .i64 (Go.bits .or .i64 (Go.bits .or .i64 (wrap64 ((wrap64 (bt t356 0)) * 16777216)) (wrap64 ((wrap64 (bt t356 1)) * 65536))) (wrap64 ((wrap64 (bt t356 2)) * 256))) (wrap64 (bt t356 3))) t357 _ A14.out).mono ?_); rintro e w' ⟨rfl, ⟨nd, rfl⟩⟩; (try exact tD)) | (go_at_call 64; (with_reducible refine (spec_l07Right.calls t357 t358 _ A15.out).mono ?_); rintro e w' ⟨rfl, ⟨nd, rfl⟩⟩; (try exact tD)) | (go_at_call 63; (with_reducible refine (spec_FpRoot.calls k1 t358 t359 true _ A16.out).mono ?_); rintro e w' ⟨rfl, ⟨nd, rfl⟩⟩; (try exact tD)) | (go_at_call 65; (with_reducible refine (spec_PointTimes.calls k1 12 t357 t359 false t361 t362 true _ A17.out).mono ?_); rintro e w24 ⟨rfl, hb⟩; replace HO355 := Aside0.mk (Kd.R_below (rP HO355) hb); replace BK349 := bB BK349 hb; replace HB := bS HB hb; (try clear hb)) | ((with_reducible refine gate_dst (N := 8) rfl ?_); refine bE 8 #[.int .i64 0, .int .i64 0, .bool false] 28 ?_; intro gb364 hg w25 hbox hb; replace HO355 := Aside0.mk (Kd.R_below (rP HO355) hb); have BK364 := Aside0.mk (hbox); have GW364 := bG HB hg; replace HB := bS HB hb; obtain ⟨NB349_364, NB364_349⟩ := bN BK349 hg; replace BK349 := bB BK349 hb; clear hb hbox hg; obtain ⟨hnb26, hnc26⟩ := nB NB364_349; obtain ⟨hcz27_0, hcz27_1, hcz27_2, hfz27_0, hfz27_1, hfz27_2⟩ := bK3 (w := w25) BK364)))
           go_roundg k1
           case measure => have := HK1.out; omega
           case rel => exact ⟨(wrap64 (x3_1 + 1)), (x350000_1), (x350001_1), (x350002_1), rS, H', ⟨by have := HK1.out; omega⟩, ⟨bP BK349⟩, ⟨bZ HB⟩⟩
          ·replace c19 := Bool.eq_false_iff.mpr c19
           subst c19
           rw [if_neg (show ¬ (false = true) by decide)] at H
           simp only [Option.some.injEq, Prod.mk.injEq] at H
           obtain ⟨rfl, rfl, rfl⟩ := H
           go_wp2_with (first | ((with_reducible refine gate_dst (N := 15) rfl ?_); refine Kd.R_lit (Kd.int .u8) _ 5 ?hg (N := 15) ?hd (xs := ([(x3_1) % 256] : List Int)) (inner := [.int .u8 ((x3_1) % 256)]) (ok := fun _ => True) (okp := fun _ => True) ?hr ?hp (fun _ hk => hk) trivial (Below.refl _ _) (Nat.le_refl _) (by simp) ?_; (case hd => rfl); (case hg => rfl); (case hr => first | (go_simp; done) | (go_simp; rfl)); (case hp => exact (Reps.one (show Kd.M (Kd.int .u8) _ _ _ ((x3_1) % 256) [.int .u8 ((x3_1) % 256)] from rfl) (Reps.none _ _))); intro v354 w28 ho29 hb hg_ hnew_; clear hg_ hnew_; (first | rw [← Ny353.out] at ho29 | (simp only [Int.reduceToNat] at ho29; rw [← Ny353.out] at ho29)); have HO355 := Aside0.mk (Kd.R_lower ho29 (below_size (bZ HB))); replace BK349 := bB BK349 hb; replace HB := bS HB hb; clear hb ho29; have hcv30 := own_string (P := Tryz.prog) Tryz.underlying22 Tryz.underlying5 Tryz.underlying9 (Kd.own_of_R HO355.out)) | (go_at_call 61; (with_reducible refine (spec_Digest.calls ((strOfNums y353) ++ a0) t356 _ A5.out).mono ?_); rintro e w31 ⟨rfl, hb⟩; replace HO355 := Aside0.mk (Kd.R_below (rP HO355) hb); replace BK349 := bB BK349 hb; replace HB := bS HB hb; (try clear hb); obtain ⟨q7, hx7, qi7⟩ := sX t356 0 0; obtain ⟨q9, hx9, qi9⟩ := sX t356 1 1; obtain ⟨q11, hx11, qi11⟩ := sX t356 2 2; obtain ⟨q13, hx13, qi13⟩ := sX t356 3 3) | (go_at_call 62; (with_reducible refine (spec_FpOf.calls (Go.bits .or .i64 (Go.bits .or .i64 (Go.bits .or .i64 (wrap64 ((wrap64 (bt t356 0)) * 16777216)) (wrap64 ((wrap64 (bt t356 1)) * 65536))) (wrap64 ((wrap64 (bt t356 2)) * 256))) (wrap64 (bt t356 3))) t357 _ A14.out).mono ?_); rintro e w' ⟨rfl, ⟨nd, rfl⟩⟩; (try exact tD)) | (go_at_call 64; (with_reducible refine (spec_l07Right.calls t357 t358 _ A15.out).mono ?_); rintro e w' ⟨rfl, ⟨nd, rfl⟩⟩; (try exact tD)) | (go_at_call 63; (with_reducible refine (spec_FpRoot.calls k1 t358 t359 true _ A16.out).mono ?_); rintro e w' ⟨rfl, ⟨nd, rfl⟩⟩; (try exact tD)) | (go_at_call 65; (with_reducible refine (spec_PointTimes.calls k1 12 t357 t359 false t361 t362 false _ A17.out).mono ?_); rintro e w32 ⟨rfl, hb⟩; replace HO355 := Aside0.mk (Kd.R_below (rP HO355) hb); replace BK349 := bB BK349 hb; replace HB := bS HB hb; (try clear hb)) | ((with_reducible refine gate_dst (N := 8) rfl ?_); refine bE 8 #[.int .i64 0, .int .i64 0, .bool false] 28 ?_; intro gb364 hg w33 hbox hb; replace HO355 := Aside0.mk (Kd.R_below (rP HO355) hb); have BK364 := Aside0.mk (hbox); have GW364 := bG HB hg; replace HB := bS HB hb; obtain ⟨NB349_364, NB364_349⟩ := bN BK349 hg; replace BK349 := bB BK349 hb; clear hb hbox hg; obtain ⟨hnb34, hnc34⟩ := nB NB364_349; obtain ⟨hcz35_0, hcz35_1, hcz35_2, hfz35_0, hfz35_1, hfz35_2⟩ := bK3 (w := w33) BK364; obtain ⟨hcz36_0, hcz36_1, hcz36_2, hfz36_0, hfz36_1, hfz36_2⟩ := bK3 (w := w33) BK349))
           repeat (go_quiet (first | ((with_reducible refine gate_dst (N := 15) rfl ?_); refine Kd.R_lit (Kd.int .u8) _ 5 ?hg (N := 15) ?hd (xs := ([(x3_1) % 256] : List Int)) (inner := [.int .u8 ((x3_1) % 256)]) (ok := fun _ => True) (okp := fun _ => True) ?hr ?hp (fun _ hk => hk) trivial (Below.refl _ _) (Nat.le_refl _) (by simp) ?_; (case hd => rfl); (case hg => rfl); (case hr => first | (go_simp; done) | (go_simp; rfl)); (case hp => exact (Reps.one (show Kd.M (Kd.int .u8) _ _ _ ((x3_1) % 256) [.int .u8 ((x3_1) % 256)] from rfl) (Reps.none _ _))); intro v354 w28 ho29 hb hg_ hnew_; clear hg_ hnew_; (first | rw [← Ny353.out] at ho29 | (simp only [Int.reduceToNat] at ho29; rw [← Ny353.out] at ho29)); have HO355 := Aside0.mk (Kd.R_lower ho29 (below_size (bZ HB))); replace BK349 := bB BK349 hb; replace HB := bS HB hb; clear hb ho29; have hcv30 := own_string (P := Tryz.prog) Tryz.underlying22 Tryz.underlying5 Tryz.underlying9 (Kd.own_of_R HO355.out)) | (go_at_call 61; (with_reducible refine (spec_Digest.calls ((strOfNums y353) ++ a0) t356 _ A5.out).mono ?_); rintro e w31 ⟨rfl, hb⟩; replace HO355 := Aside0.mk (Kd.R_below (rP HO355) hb); replace BK349 := bB BK349 hb; replace HB := bS HB hb; (try clear hb); obtain ⟨q7, hx7, qi7⟩ := sX t356 0 0; obtain ⟨q9, hx9, qi9⟩ := sX t356 1 1; obtain ⟨q11, hx11, qi11⟩ := sX t356 2 2; obtain ⟨q13, hx13, qi13⟩ := sX t356 3 3) | (go_at_call 62; (with_reducible refine (spec_FpOf.calls (Go.bits .or .i64 (Go.bits .or .i64 (Go.bits .or .i64 (wrap64 ((wrap64 (bt t356 0)) * 16777216)) (wrap64 ((wrap64 (bt t356 1)) * 65536))) (wrap64 ((wrap64 (bt t356 2)) * 256))) (wrap64 (bt t356 3))) t357 _ A14.out).mono ?_); rintro e w' ⟨rfl, ⟨nd, rfl⟩⟩; (try exact tD)) | (go_at_call 64; (with_reducible refine (spec_l07Right.calls t357 t358 _ A15.out).mono ?_); rintro e w' ⟨rfl, ⟨nd, rfl⟩⟩; (try exact tD)) | (go_at_call 63; (with_reducible refine (spec_FpRoot.calls k1 t358 t359 true _ A16.out).mono ?_); rintro e w' ⟨rfl, ⟨nd, rfl⟩⟩; (try exact tD)) | (go_at_call 65; (with_reducible refine (spec_PointTimes.calls k1 12 t357 t359 false t361 t362 false _ A17.out).mono ?_); rintro e w32 ⟨rfl, hb⟩; replace HO355 := Aside0.mk (Kd.R_below (rP HO355) hb); replace BK349 := bB BK349 hb; replace HB := bS HB hb; (try clear hb)) | ((with_reducible refine gate_dst (N := 8) rfl ?_); refine bE 8 #[.int .i64 0, .int .i64 0, .bool false] 28 ?_; intro gb364 hg w33 hbox hb; replace HO355 := Aside0.mk (Kd.R_below (rP HO355) hb); have BK364 := Aside0.mk (hbox); have GW364 := bG HB hg; replace HB := bS HB hb; obtain ⟨NB349_364, NB364_349⟩ := bN BK349 hg; replace BK349 := bB BK349 hb; clear hb hbox hg; obtain ⟨hnb34, hnc34⟩ := nB NB364_349; obtain ⟨hcz35_0, hcz35_1, hcz35_2, hfz35_0, hfz35_1, hfz35_2⟩ := bK3 (w := w33) BK364; obtain ⟨hcz36_0, hcz36_1, hcz36_2, hfz36_0, hfz36_1, hfz36_2⟩ := bK3 (w := w33) BK349)); try go_wp2_with (first | ((with_reducible refine gate_dst (N := 15) rfl ?_); refine Kd.R_lit (Kd.int .u8) _ 5 ?hg (N := 15) ?hd (xs := ([(x3_1) % 256] : List Int)) (inner := [.int .u8 ((x3_1) % 256)]) (ok := fun _ => True) (okp := fun _ => True) ?hr ?hp (fun _ hk => hk) trivial (Below.refl _ _) (Nat.le_refl _) (by simp) ?_; (case hd => rfl); (case hg => rfl); (case hr => first | (go_simp; done) | (go_simp; rfl)); (case hp => exact (Reps.one (show Kd.M (Kd.int .u8) _ _ _ ((x3_1) % 256) [.int .u8 ((x3_1) % 256)] from rfl) (Reps.none _ _))); intro v354 w28 ho29 hb hg_ hnew_; clear hg_ hnew_; (first | rw [← Ny353.out] at ho29 | (simp only [Int.reduceToNat] at ho29; rw [← Ny353.out] at ho29)); have HO355 := Aside0.mk (Kd.R_lower ho29 (below_size (bZ HB))); replace BK349 := bB BK349 hb; replace HB := bS HB hb; clear hb ho29; have hcv30 := own_string (P := Tryz.prog) Tryz.underlying22 Tryz.underlying5 Tryz.underlying9 (Kd.own_of_R HO355.out)) | (go_at_call 61; (with_reducible refine (spec_Digest.calls ((strOfNums y353) ++ a0) t356 _ A5.out).mono ?_); rintro e w31 ⟨rfl, hb⟩; replace HO355 := Aside0.mk (Kd.R_below (rP HO355) hb); replace BK349 := bB BK349 hb; replace HB := bS HB hb; (try clear hb); obtain ⟨q7, hx7, qi7⟩ := sX t356 0 0; obtain ⟨q9, hx9, qi9⟩ := sX t356 1 1; obtain ⟨q11, hx11, qi11⟩ := sX t356 2 2; obtain ⟨q13, hx13, qi13⟩ := sX t356 3 3) | (go_at_call 62; (with_reducible refine (spec_FpOf.calls (Go.bits .or .i64 (Go.bits .or .i64 (Go.bits .or .i64 (wrap64 ((wrap64 (bt t356 0)) * 16777216)) (wrap64 ((wrap64 (bt t356 1)) * 65536))) (wrap64 ((wrap64 (bt t356 2)) * 256))) (wrap64 (bt t356 3))) t357 _ A14.out).mono ?_); rintro e w' ⟨rfl, ⟨nd, rfl⟩⟩; (try exact tD)) | (go_at_call 64; (with_reducible refine (spec_l07Right.calls t357 t358 _ A15.out).mono ?_); rintro e w' ⟨rfl, ⟨nd, rfl⟩⟩; (try exact tD)) | (go_at_call 63; (with_reducible refine (spec_FpRoot.calls k1 t358 t359 true _ A16.out).mono ?_); rintro e w' ⟨rfl, ⟨nd, rfl⟩⟩; (try exact tD)) | (go_at_call 65; (with_reducible refine (spec_PointTimes.calls k1 12 t357 t359 false t361 t362 false _ A17.out).mono ?_); rintro e w32 ⟨rfl, hb⟩; replace HO355 := Aside0.mk (Kd.R_below (rP HO355) hb); replace BK349 := bB BK349 hb; replace HB := bS HB hb; (try clear hb)) | ((with_reducible refine gate_dst (N := 8) rfl ?_); refine bE 8 #[.int .i64 0, .int .i64 0, .bool false] 28 ?_; intro gb364 hg w33 hbox hb; replace HO355 := Aside0.mk (Kd.R_below (rP HO355) hb); have BK364 := Aside0.mk (hbox); have GW364 := bG HB hg; replace HB := bS HB hb; obtain ⟨NB349_364, NB364_349⟩ := bN BK349 hg; replace BK349 := bB BK349 hb; clear hb hbox hg; obtain ⟨hnb34, hnc34⟩ := nB NB364_349; obtain ⟨hcz35_0, hcz35_1, hcz35_2, hfz35_0, hfz35_1, hfz35_2⟩ := bK3 (w := w33) BK364; obtain ⟨hcz36_0, hcz36_1, hcz36_2, hfz36_0, hfz36_1, hfz36_2⟩ := bK3 (w := w33) BK349)))
           refine rC gb349 28 #[.int .i64 t361, .int .i64 t362, .bool false] (bU BK349) Tryz.underlying28 ?_
           exact ⟨rR, bZ HB⟩
         ·replace c18 := Bool.eq_false_iff.mpr c18
          subst c18
          rw [if_neg (show ¬ (false = true) by decide)] at H
          have H' := Aside0.mk H
          clear H
          go_wp2_with (first | ((with_reducible refine gate_dst (N := 15) rfl ?_); refine Kd.R_lit (Kd.int .u8) _ 5 ?hg (N := 15) ?hd (xs := ([(x3_1) % 256] : List Int)) (inner := [.int .u8 ((x3_1) % 256)]) (ok := fun _ => True) (okp := fun _ => True) ?hr ?hp (fun _ hk => hk) trivial (Below.refl _ _) (Nat.le_refl _) (by simp) ?_; (case hd => rfl); (case hg => rfl); (case hr => first | (go_simp; done) | (go_simp; rfl)); (case hp => exact (Reps.one (show Kd.M (Kd.int .u8) _ _ _ ((x3_1) % 256) [.int .u8 ((x3_1) % 256)] from rfl) (Reps.none _ _))); intro v354 w37 ho38 hb hg_ hnew_; clear hg_ hnew_; (first | rw [← Ny353.out] at ho38 | (simp only [Int.reduceToNat] at ho38; rw [← Ny353.out] at ho38)); have HO355 := Aside0.mk (Kd.R_lower ho38 (below_size (bZ HB))); replace BK349 := bB BK349 hb; replace HB := bS HB hb; clear hb ho38; have hcv39 := own_string (P := Tryz.prog) Tryz.underlying22 Tryz.underlying5 Tryz.underlying9 (Kd.own_of_R HO355.out)) | (go_at_call 61; (with_reducible refine (spec_Digest.calls ((strOfNums y353) ++ a0) t356 _ A5.out).mono ?_); rintro e w40 ⟨rfl, hb⟩; replace HO355 := Aside0.mk (Kd.R_below (rP HO355) hb); replace BK349 := bB BK349 hb; replace HB := bS HB hb; (try clear hb); obtain ⟨q7, hx7, qi7⟩ := sX t356 0 0; obtain ⟨q9, hx9, qi9⟩ := sX t356 1 1; obtain ⟨q11, hx11, qi11⟩ := sX t356 2 2; obtain ⟨q13, hx13, qi13⟩ := sX t356 3 3) | (go_at_call 62; (with_reducible refine (spec_FpOf.calls (Go.bits .or .i64 (Go.bits .or .i64 (Go.bits .or .i64 (wrap64 ((wrap64 (bt t356 0)) * 16777216)) (wrap64 ((wrap64 (bt t356 1)) * 65536))) (wrap64 ((wrap64 (bt t356 2)) * 256))) (wrap64 (bt t356 3))) t357 _ A14.out).mono ?_); rintro e w' ⟨rfl, ⟨nd, rfl⟩⟩; (try exact tD)) | (go_at_call 64; (with_reducible refine (spec_l07Right.calls t357 t358 _ A15.out).mono ?_); rintro e w' ⟨rfl, ⟨nd, rfl⟩⟩; (try exact tD)) | (go_at_call 63; (with_reducible refine (spec_FpRoot.calls k1 t358 t359 false _ A16.out).mono ?_); rintro e w' ⟨rfl, ⟨nd, rfl⟩⟩; (try exact tD)) | (go_at_call 65; (with_reducible refine (spec_PointTimes.calls k1 12 t357 t359 false t361 t362 t363 _ A17.out).mono ?_); rintro e w41 ⟨rfl, hb⟩; replace HO355 := Aside0.mk (Kd.R_below (rP HO355) hb); replace BK349 := bB BK349 hb; replace HB := bS HB hb; (try clear hb)) | ((with_reducible refine gate_dst (N := 8) rfl ?_); refine bE 8 #[.int .i64 0, .int .i64 0, .bool false] 28 ?_; intro gb364 hg w42 hbox hb; replace HO355 := Aside0.mk (Kd.R_below (rP HO355) hb); have BK364 := Aside0.mk (hbox); have GW364 := bG HB hg; replace HB := bS HB hb; obtain ⟨NB349_364, NB364_349⟩ := bN BK349 hg; replace BK349 := bB BK349 hb; clear hb hbox hg; obtain ⟨hnb43, hnc43⟩ := nB NB364_349; obtain ⟨hcz44_0, hcz44_1, hcz44_2, hfz44_0, hfz44_1, hfz44_2⟩ := bK3 (w := w42) BK364))
          repeat (go_quiet (first | ((with_reducible refine gate_dst (N := 15) rfl ?_); refine Kd.R_lit (Kd.int .u8) _ 5 ?hg (N := 15) ?hd (xs := ([(x3_1) % 256] : List Int)) (inner := [.int .u8 ((x3_1) % 256)]) (ok := fun _ => True) (okp := fun _ => True) ?hr ?hp (fun _ hk => hk) trivial (Below.refl _ _) (Nat.le_refl _) (by simp) ?_; (case hd => rfl); (case hg => rfl); (case hr => first | (go_simp; done) | (go_simp; rfl)); (case hp => exact (Reps.one (show Kd.M (Kd.int .u8) _ _ _ ((x3_1) % 256) [.int .u8 ((x3_1) % 256)] from rfl) (Reps.none _ _))); intro v354 w37 ho38 hb hg_ hnew_; clear hg_ hnew_; (first | rw [← Ny353.out] at ho38 | (simp only [Int.reduceToNat] at ho38; rw [← Ny353.out] at ho38)); have HO355 := Aside0.mk (Kd.R_lower ho38 (below_size (bZ HB))); replace BK349 := bB BK349 hb; replace HB := bS HB hb; clear hb ho38; have hcv39 := own_string (P := Tryz.prog) Tryz.underlying22 Tryz.underlying5 Tryz.underlying9 (Kd.own_of_R HO355.out)) | (go_at_call 61; (with_reducible refine (spec_Digest.calls ((strOfNums y353) ++ a0) t356 _ A5.out).mono ?_); rintro e w40 ⟨rfl, hb⟩; replace HO355 := Aside0.mk (Kd.R_below (rP HO355) hb); replace BK349 := bB BK349 hb; replace HB := bS HB hb; (try clear hb); obtain ⟨q7, hx7, qi7⟩ := sX t356 0 0; obtain ⟨q9, hx9, qi9⟩ := sX t356 1 1; obtain ⟨q11, hx11, qi11⟩ := sX t356 2 2; obtain ⟨q13, hx13, qi13⟩ := sX t356 3 3) | (go_at_call 62; (with_reducible refine (spec_FpOf.calls (Go.bits .or .i64 (Go.bits .or .i64 (Go.bits .or .i64 (wrap64 ((wrap64 (bt t356 0)) * 16777216)) (wrap64 ((wrap64 (bt t356 1)) * 65536))) (wrap64 ((wrap64 (bt t356 2)) * 256))) (wrap64 (bt t356 3))) t357 _ A14.out).mono ?_); rintro e w' ⟨rfl, ⟨nd, rfl⟩⟩; (try exact tD)) | (go_at_call 64; (with_reducible refine (spec_l07Right.calls t357 t358 _ A15.out).mono ?_); rintro e w' ⟨rfl, ⟨nd, rfl⟩⟩; (try exact tD)) | (go_at_call 63; (with_reducible refine (spec_FpRoot.calls k1 t358 t359 false _ A16.out).mono ?_); rintro e w' ⟨rfl, ⟨nd, rfl⟩⟩; (try exact tD)) | (go_at_call 65; (with_reducible refine (spec_PointTimes.calls k1 12 t357 t359 false t361 t362 t363 _ A17.out).mono ?_); rintro e w41 ⟨rfl, hb⟩; replace HO355 := Aside0.mk (Kd.R_below (rP HO355) hb); replace BK349 := bB BK349 hb; replace HB := bS HB hb; (try clear hb)) | ((with_reducible refine gate_dst (N := 8) rfl ?_); refine bE 8 #[.int .i64 0, .int .i64 0, .bool false] 28 ?_; intro gb364 hg w42 hbox hb; replace HO355 := Aside0.mk (Kd.R_below (rP HO355) hb); have BK364 := Aside0.mk (hbox); have GW364 := bG HB hg; replace HB := bS HB hb; obtain ⟨NB349_364, NB364_349⟩ := bN BK349 hg; replace BK349 := bB BK349 hb; clear hb hbox hg; obtain ⟨hnb43, hnc43⟩ := nB NB364_349; obtain ⟨hcz44_0, hcz44_1, hcz44_2, hfz44_0, hfz44_1, hfz44_2⟩ := bK3 (w := w42) BK364)); try go_wp2_with (first | ((with_reducible refine gate_dst (N := 15) rfl ?_); refine Kd.R_lit (Kd.int .u8) _ 5 ?hg (N := 15) ?hd (xs := ([(x3_1) % 256] : List Int)) (inner := [.int .u8 ((x3_1) % 256)]) (ok := fun _ => True) (okp := fun _ => True) ?hr ?hp (fun _ hk => hk) trivial (Below.refl _ _) (Nat.le_refl _) (by simp) ?_; (case hd => rfl); (case hg => rfl); (case hr => first | (go_simp; done) | (go_simp; rfl)); (case hp => exact (Reps.one (show Kd.M (Kd.int .u8) _ _ _ ((x3_1) % 256) [.int .u8 ((x3_1) % 256)] from rfl) (Reps.none _ _))); intro v354 w37 ho38 hb hg_ hnew_; clear hg_ hnew_; (first | rw [← Ny353.out] at ho38 | (simp only [Int.reduceToNat] at ho38; rw [← Ny353.out] at ho38)); have HO355 := Aside0.mk (Kd.R_lower ho38 (below_size (bZ HB))); replace BK349 := bB BK349 hb; replace HB := bS HB hb; clear hb ho38; have hcv39 := own_string (P := Tryz.prog) Tryz.underlying22 Tryz.underlying5 Tryz.underlying9 (Kd.own_of_R HO355.out)) | (go_at_call 61; (with_reducible refine (spec_Digest.calls ((strOfNums y353) ++ a0) t356 _ A5.out).mono ?_); rintro e w40 ⟨rfl, hb⟩; replace HO355 := Aside0.mk (Kd.R_below (rP HO355) hb); replace BK349 := bB BK349 hb; replace HB := bS HB hb; (try clear hb); obtain ⟨q7, hx7, qi7⟩ := sX t356 0 0; obtain ⟨q9, hx9, qi9⟩ := sX t356 1 1; obtain ⟨q11, hx11, qi11⟩ := sX t356 2 2; obtain ⟨q13, hx13, qi13⟩ := sX t356 3 3) | (go_at_call 62; (with_reducible refine (spec_FpOf.calls (Go.bits .or .i64 (Go.bits .or .i64 (Go.bits .or .i64 (wrap64 ((wrap64 (bt t356 0)) * 16777216)) (wrap64 ((wrap64 (bt t356 1)) * 65536))) (wrap64 ((wrap64 (bt t356 2)) * 256))) (wrap64 (bt t356 3))) t357 _ A14.out).mono ?_); rintro e w' ⟨rfl, ⟨nd, rfl⟩⟩; (try exact tD)) | (go_at_call 64; (with_reducible refine (spec_l07Right.calls t357 t358 _ A15.out).mono ?_); rintro e w' ⟨rfl, ⟨nd, rfl⟩⟩; (try exact tD)) | (go_at_call 63; (with_reducible refine (spec_FpRoot.calls k1 t358 t359 false _ A16.out).mono ?_); rintro e w' ⟨rfl, ⟨nd, rfl⟩⟩; (try exact tD)) | (go_at_call 65; (with_reducible refine (spec_PointTimes.calls k1 12 t357 t359 false t361 t362 t363 _ A17.out).mono ?_); rintro e w41 ⟨rfl, hb⟩; replace HO355 := Aside0.mk (Kd.R_below (rP HO355) hb); replace BK349 := bB BK349 hb; replace HB := bS HB hb; (try clear hb)) | ((with_reducible refine gate_dst (N := 8) rfl ?_); refine bE 8 #[.int .i64 0, .int .i64 0, .bool false] 28 ?_; intro gb364 hg w42 hbox hb; replace HO355 := Aside0.mk (Kd.R_below (rP HO355) hb); have BK364 := Aside0.mk (hbox); have GW364 := bG HB hg; replace HB := bS HB hb; obtain ⟨NB349_364, NB364_349⟩ := bN BK349 hg; replace BK349 := bB BK349 hb; clear hb hbox hg; obtain ⟨hnb43, hnc43⟩ := nB NB364_349; obtain ⟨hcz44_0, hcz44_1, hcz44_2, hfz44_0, hfz44_1, hfz44_2⟩ := bK3 (w := w42) BK364)))
          go_roundg k1
          case measure => have := HK1.out; omega
          case rel => exact ⟨(wrap64 (x3_1 + 1)), (x350000_1), (x350001_1), (x350002_1), rS, H', ⟨by have := HK1.out; omega⟩, ⟨bP BK349⟩, ⟨bZ HB⟩⟩
        ·rw [if_neg c12] at H
         exact absurd H (by simp)
       ·rw [if_neg c10] at H
        exact absurd H (by simp)
      ·rw [if_neg c8] at H
       exact absurd H (by simp)
     ·rw [if_neg c6] at H
      exact absurd H (by simp)
    ·rw [if_neg c4] at H
     exact absurd H (by simp)
   ·rw [if_neg c3] at H
    have c3b0 := decide_eq_false c3
    clear c3
    obtain ⟨⟨t350, t351, t352⟩, A45, H⟩ := oB H
    simp only [Option.some.injEq, Prod.mk.injEq] at H
    obtain ⟨rfl, rfl, rfl⟩ := H
    go_wp2_with (first | (go_at_call 66; (with_reducible refine (spec_Base.calls  t350 t351 t352 _ A45.out).mono ?_); rintro e w46 ⟨rfl, hb⟩; replace BK349 := bB BK349 hb; replace HB := bS HB hb; (try clear hb); obtain ⟨hcz47_0, hcz47_1, hcz47_2, hfz47_0, hfz47_1, hfz47_2⟩ := bK3 (w := w46) BK349))
    repeat (go_quiet (first | (go_at_call 66; (with_reducible refine (spec_Base.calls  t350 t351 t352 _ A45.out).mono ?_); rintro e w46 ⟨rfl, hb⟩; replace BK349 := bB BK349 hb; replace HB := bS HB hb; (try clear hb); obtain ⟨hcz47_0, hcz47_1, hcz47_2, hfz47_0, hfz47_1, hfz47_2⟩ := bK3 (w := w46) BK349)); try go_wp2_with (first | (go_at_call 66; (with_reducible refine (spec_Base.calls  t350 t351 t352 _ A45.out).mono ?_); rintro e w46 ⟨rfl, hb⟩; replace BK349 := bB BK349 hb; replace HB := bS HB hb; (try clear hb); obtain ⟨hcz47_0, hcz47_1, hcz47_2, hfz47_0, hfz47_1, hfz47_2⟩ := bK3 (w := w46) BK349)))
    refine rC gb349 28 #[.int .i64 t350, .int .i64 t351, .bool t352] (bU BK349) Tryz.underlying28 ?_
    exact ⟨rR, bZ HB⟩
def spec_SignWith.f (k : Nat) (a0 : Int) (a1 : ByteArray) : Option (Int × Int × Bool) := (spec_ScOf.f a0).bind fun t366 => ((spec_HashPoint.f k a1).bind fun bt367 => ((spec_PointTimes.f k t366 bt367.1 bt367.2.1 bt367.2.2).bind fun bt370 => (some (bt370.1, bt370.2.1, bt370.2.2))))
theorem spec_SignWith.calls (k : Nat) (a0 : Int) (a1 : ByteArray) (r1 : Int) (r2 : Int) (r3 : Bool) (w : World) (h : spec_SignWith.f k a0 a1 = some (r1, r2, r3)) :
  Calls Tryz.prog 52 #[.int .i64 a0, .string a1] w fun e w' => e = .returned (.agg #[.int .i64 r1, .int .i64 r2, .bool r3]) ∧ Below w.heap.size w w' := by
 have hu28 := Tryz.underlying28
 have HB := Aside0.mk (Below.refl w.heap.size w)
 unfold spec_SignWith.f at h
 have H := h
 clear h
 obtain ⟨t366, A3, H⟩ := oB H
 obtain ⟨⟨t367, t368, t369⟩, A4, H⟩ := oB H
 obtain ⟨⟨t370, t371, t372⟩, A5, H⟩ := oB H
 simp only [Option.some.injEq, Prod.mk.injEq] at H
 obtain ⟨rfl, rfl, rfl⟩ := H
 go_enter Tryz.func52, Tryz.ntmps52
 go_wp2_with (first | (refine gB 4 #[.int .i64 0, .int .i64 0, .bool false] 28 ?_; intro gb365 hg w6 BK365 hb; have GW365 := bG HB hg; replace HB := bS HB hb; clear hb hg) | (refine gC (some 6) Tryz.func16 #[.int .i64 a0] ?_; (with_reducible refine (spec_ScOf.calls a0 t366 _ A3.out).mono ?_); rintro e w' ⟨rfl, ⟨nd, rfl⟩⟩; refine ⟨_, rfl, ?_⟩; (try simp only [World.drewN_drewN]); (try (rw [drewN_self w6]; generalize hq_ : World.drewN w6 _ = w6; replace BK365 : Aside0 (w6.heap[gb365]? = some (.cells #[.int .i64 0, .int .i64 0, .bool false] 28 (0, 0))) := ⟨by rw [← hq_]; exact (bP BK365)⟩; replace HB : Aside0 (Below w.heap.size w w6) := ⟨by rw [← hq_]; exact (bZ HB)⟩; clear hq_))) | (refine gC (some 8) Tryz.func22 #[.string a1] ?_; (with_reducible refine (spec_HashPoint.calls k a1 t367 t368 t369 _ A4.out).mono ?_); rintro e w7 ⟨rfl, hb⟩; refine ⟨_, rfl, ?_⟩; replace BK365 := bB BK365 hb; replace HB := bS HB hb; (try clear hb)) | (refine gC (some 9) Tryz.func65 #[.int .i64 t366, .agg #[.int .i64 t367, .int .i64 t368, .bool t369]] ?_; (with_reducible refine (spec_PointTimes.calls k t366 t367 t368 t369 t370 t371 t372 _ A5.out).mono ?_); rintro e w8 ⟨rfl, hb⟩; refine ⟨_, rfl, ?_⟩; replace BK365 := bB BK365 hb; replace HB := bS HB hb; (try clear hb); obtain ⟨hcz9_0, hcz9_1, hcz9_2, hfz9_0, hfz9_1, hfz9_2⟩ := bK3 (w := w8) BK365))
 refine rC gb365 28 #[.int .i64 t370, .int .i64 t371, .bool t372] (bU BK365) Tryz.underlying28 ?_
 exact ⟨rR, bZ HB⟩
def spec_SignBits.l0 : Nat → Int → ByteArray → List Int → Int → Int → Option (Int × Int × Bool)
 | 0, _, _, _, _, _ => none
 | k + 1, x1, x2, x7, x8, x9 => if x9 < (x7.length : Int) then (if 0 ≤ (IntKind.u64.wrap (x9)) then (if (Int.tmod (shr .i64 x1 (IntKind.u64.wrap (x9))) 2) = 1 then (if 0 ≤ x9 then ((spec_ScAdd.f x8 (rd x7 x9)).bind fun t1129 => (spec_SignBits.l0 k x1 x2 x7 t1129 (wrap64 (x9 + 1)))) else (none)) else (spec_SignBits.l0 k x1 x2 x7 x8 (wrap64 (x9 + 1)))) else (none)) else ((spec_SignWith.f k x8 x2).bind fun bt1130 => (some (bt1130.1, bt1130.2.1, bt1130.2.2)))
def spec_SignBits.f (k : Nat) (a0 : Int) (a1 : Int) (a2 : ByteArray) : Option (Int × Int × Bool) := (spec_l01In.f a1 0 255).bind fun t1121 => (if t1121 = true then ((spec_SecretsOf.f k a0).bind fun t1125 => (spec_SignBits.l0 k a1 a2 t1125 0 0)) else ((spec_l07Zero.f).bind fun bt1122 => (some (bt1122.1, bt1122.2.1, bt1122.2.2))))
theorem spec_SignBits.calls (k : Nat) (a0 : Int) (a1 : Int) (a2 : ByteArray) (r1 : Int) (r2 : Int) (r3 : Bool) (w : World) (h : spec_SignBits.f k a0 a1 a2 = some (r1, r2, r3)) :
  Calls Tryz.prog 36 #[.int .i64 a0, .int .i64 a1, .string a2] w fun e w' => e = .returned (.agg #[.int .i64 r1, .int .i64 r2, .bool r3]) ∧ Below w.heap.size w w' := by
 have hu28 := Tryz.underlying28
 have HB := Aside0.mk (Below.refl w.heap.size w)
 unfold spec_SignBits.f at h
 have H := h
 clear h
 obtain ⟨t1121, A4, H⟩ := oB H
 by_cases c5 : t1121 = true
 ·subst c5
  rw [if_pos rfl] at H
  obtain ⟨t1125, A6, H⟩ := oB H
  have H' := Aside0.mk H
  clear H
  go_enter Tryz.func36, Tryz.ntmps36
  go_wp2_with (first | (refine gB 6 #[.int .i64 0, .int .i64 0, .bool false] 28 ?_; intro gb1120 hg w7 BK1120 hb; have GW1120 := bG HB hg; replace HB := bS HB hb; clear hb hg) | (refine gC (some 11) Tryz.func79 #[.int .i64 a1, .int .i64 0, .int .i64 255] ?_; (with_reducible refine (spec_l01In.calls a1 0 255 true _ A4.out).mono ?_); rintro e w' ⟨rfl, ⟨nd, rfl⟩⟩; refine ⟨_, rfl, ?_⟩) | (refine gC (some 15) Tryz.func82 #[.int .i64 a0] ?_; (with_reducible refine (spec_SecretsOf.calls k a0 t1125 _ A6.out).mono ?_); rintro e w8 ⟨v1126, rfl, ho0, hb⟩; refine ⟨_, rfl, ?_⟩; have HO1127 := Aside0.mk (Kd.R_lower ho0 (below_size (bZ HB))); replace BK1120 := bB BK1120 hb; replace HB := bS HB hb; (try clear hb); (try clear ho0)))
  go_loopg [8, 9] k (fun kq v8 v9 w' => ∃ (x8_1 : Int) (x9_1 : Int), v8 = .int .i64 x8_1 ∧ v9 = .int .i64 x9_1 ∧ Aside0 (spec_SignBits.l0 kq a1 a2 t1125 x8_1 x9_1 = some (r1, r2, r3)) ∧ Aside0 (kq ≤ k) ∧ Aside0 (Kd.R (Kd.int .i64) 3 w' w.heap.size (fun _ => True) v1126 t1125) ∧ Aside0 (w'.heap[gb1120]? = some (.cells #[.int .i64 0, .int .i64 0, .bool false] 28 (0, 0))) ∧ Aside0 (Below w.heap.size w w'))
  case atStart => exact ⟨(0), (0), rS, rS, H', ⟨Nat.le_refl _⟩, ⟨rP HO1127⟩, ⟨bP BK1120⟩, ⟨bZ HB⟩⟩
  case round =>
   clear H'
   try clear p2
   try clear c3
   try clear c5
   try clear c7
   try clear c8
   obtain ⟨x8_1, x9_1, rfl, rfl, HA, HK1, HO_7, BK1120, HB⟩ := hrel
   cases gk with
   | zero => exact absurd HA.out (by simp [spec_SignBits.l0])
   | succ k1 =>
    have H := HA.out
    clear HA
    simp only [spec_SignBits.l0] at H
    by_cases c9 : x9_1 < (t1125.length : Int)
    ·rw [if_pos c9] at H
     have c9b0 := decide_eq_true c9
     clear c9
     obtain ⟨ji10, hji10⟩ : ∃ j_ : Int, (IntKind.u64.wrap (x9_1)) = j_ := ⟨_, rfl⟩
     replace H : (if 0 ≤ (ji10) then (if (Int.tmod (shr .i64 a1 (ji10)) 2) = 1 then (if 0 ≤ x9_1 then ((spec_ScAdd.f x8_1 (rd t1125 x9_1)).bind fun t1129 => (spec_SignBits.l0 k1 a1 a2 t1125 t1129 (wrap64 (x9_1 + 1)))) else (none)) else (spec_SignBits.l0 k1 a1 a2 t1125 x8_1 (wrap64 (x9_1 + 1)))) else (none)) = some (r1, r2, r3) := jR hji10 H
     by_cases c11 : 0 ≤ (ji10)
     ·rw [if_pos c11] at H
      have c11b0 := eq_true c11
      have c11b1 := decide_eq_true c11
      clear c11
      obtain ⟨ji12, hji12⟩ : ∃ j_ : Int, (shr .i64 a1 (ji10)) = j_ := ⟨_, rfl⟩
      replace H : (if (Int.tmod (ji12) 2) = 1 then (if 0 ≤ x9_1 then ((spec_ScAdd.f x8_1 (rd t1125 x9_1)).bind fun t1129 => (spec_SignBits.l0 k1 a1 a2 t1125 t1129 (wrap64 (x9_1 + 1)))) else (none)) else (spec_SignBits.l0 k1 a1 a2 t1125 x8_1 (wrap64 (x9_1 + 1)))) = some (r1, r2, r3) := jR hji12 H
      have hji12_ : (a1 / 2 ^ min (ji10).toNat 64) = ji12 := hji12
      have hji12z : (ji10) ≤ 64 → (a1 / 2 ^ (ji10).toNat) = ji12 := shr_small hji12
      by_cases c13 : (Int.tmod (ji12) 2) = 1
      ·rw [if_pos c13] at H
       have c13b0 : ((Int.tmod (ji12) 2) == 1) = true := beq_iff_eq.mpr c13
       have c13b1 : ((Int.tmod (ji12) 2) != 1) = false := bne_eq_false_iff_eq.mpr c13
       clear c13
       by_cases c14 : 0 ≤ x9_1
       ·rw [if_pos c14] at H
        have c14b0 := decide_eq_true c14
        clear c14
        obtain ⟨t1129, A15, H⟩ := oB H
        have H' := Aside0.mk H
        clear H
        obtain ⟨Ao16, co16, eo16⟩ := Kd.R_slice HO_7.out
        subst eo16
        have p1128 : 0 ≤ (x9_1 : Int) := aQ
        have q1128 : x9_1 < (t1125.length : Int) := aQ
        obtain ⟨ad1128, e1128, hx1128_0⟩ := Kd.at_int (Kd.R_reads' HO_7.out).2.2 x9_1 p1128 q1128
        cases e1128
        replace p1128 := eq_true p1128
        replace q1128 := eq_true q1128
        go_wp2_with (first | (refine gC (some 33) Tryz.func11 #[.int .i64 x8_1, .int .i64 (rd t1125 x9_1)] ?_; (with_reducible refine (spec_ScAdd.calls x8_1 (rd t1125 x9_1) t1129 _ A15.out).mono ?_); rintro e w' ⟨rfl, ⟨nd, rfl⟩⟩; refine ⟨_, rfl, ?_⟩))
        go_roundg k1
        case measure => have := HK1.out; omega
        case rel => exact ⟨(t1129), (wrap64 (x9_1 + 1)), rS, rS, H', ⟨by have := HK1.out; omega⟩, ⟨rP HO_7⟩, ⟨bP BK1120⟩, ⟨bZ HB⟩⟩
       ·rw [if_neg c14] at H
        exact absurd H (by simp)
      ·rw [if_neg c13] at H
       have c13b0 : ((Int.tmod (ji12) 2) == 1) = false := beq_eq_false_iff_ne.mpr c13
       have c13b1 : ((Int.tmod (ji12) 2) != 1) = true := bne_iff_ne.mpr c13
       have H' := Aside0.mk H
       clear H
       obtain ⟨Ao17, co17, eo17⟩ := Kd.R_slice HO_7.out
       subst eo17
       go_wp2
       go_roundg k1
       case measure => have := HK1.out; omega
       case rel => exact ⟨(x8_1), (wrap64 (x9_1 + 1)), rS, rS, H', ⟨by have := HK1.out; omega⟩, ⟨rP HO_7⟩, ⟨bP BK1120⟩, ⟨bZ HB⟩⟩
     ·rw [if_neg c11] at H
      exact absurd H (by simp)
    ·rw [if_neg c9] at H
     have c9b0 := decide_eq_false c9
     clear c9
     obtain ⟨⟨t1130, t1131, t1132⟩, A18, H⟩ := oB H
     simp only [Option.some.injEq, Prod.mk.injEq] at H
     obtain ⟨rfl, rfl, rfl⟩ := H
     obtain ⟨Ao19, co19, eo19⟩ := Kd.R_slice HO_7.out
     subst eo19
     go_wp2_with (first | (refine gC (some 36) Tryz.func52 #[.int .i64 x8_1, .string a2] ?_; (with_reducible refine (spec_SignWith.calls k1 x8_1 a2 t1130 t1131 t1132 _ A18.out).mono ?_); rintro e w20 ⟨rfl, hb⟩; refine ⟨_, rfl, ?_⟩; replace HO_7 := Aside0.mk (Kd.R_below (rP HO_7) hb); replace BK1120 := bB BK1120 hb; replace HB := bS HB hb; (try clear hb); obtain ⟨hcz21_0, hcz21_1, hcz21_2, hfz21_0, hfz21_1, hfz21_2⟩ := bK3 (w := w20) BK1120))
     refine rC gb1120 28 #[.int .i64 t1130, .int .i64 t1131, .bool t1132] (bU BK1120) Tryz.underlying28 ?_
     exact ⟨rR, bZ HB⟩
 ·replace c5 := Bool.eq_false_iff.mpr c5
  subst c5
  rw [if_neg (show ¬ (false = true) by decide)] at H
  obtain ⟨⟨t1122, t1123, t1124⟩, A22, H⟩ := oB H
  simp only [Option.some.injEq, Prod.mk.injEq] at H
  obtain ⟨rfl, rfl, rfl⟩ := H
  go_enter Tryz.func36, Tryz.ntmps36
  go_wp2_with (first | (refine gB 6 #[.int .i64 0, .int .i64 0, .bool false] 28 ?_; intro gb1120 hg w23 BK1120 hb; have GW1120 := bG HB hg; replace HB := bS HB hb; clear hb hg) | (refine gC (some 11) Tryz.func79 #[.int .i64 a1, .int .i64 0, .int .i64 255] ?_; (with_reducible refine (spec_l01In.calls a1 0 255 false _ A4.out).mono ?_); rintro e w' ⟨rfl, ⟨nd, rfl⟩⟩; refine ⟨_, rfl, ?_⟩; (try simp only [World.drewN_drewN]); (try (rw [drewN_self w23]; generalize hq_ : World.drewN w23 _ = w23; replace BK1120 : Aside0 (w23.heap[gb1120]? = some (.cells #[.int .i64 0, .int .i64 0, .bool false] 28 (0, 0))) := ⟨by rw [← hq_]; exact (bP BK1120)⟩; replace HB : Aside0 (Below w.heap.size w w23) := ⟨by rw [← hq_]; exact (bZ HB)⟩; clear hq_))) | (refine gC (some 13) Tryz.func81 #[] ?_; (with_reducible refine (spec_l07Zero.calls  t1122 t1123 t1124 _ A22.out).mono ?_); rintro e w24 ⟨rfl, hb⟩; refine ⟨_, rfl, ?_⟩; replace BK1120 := bB BK1120 hb; replace HB := bS HB hb; (try clear hb); obtain ⟨hcz25_0, hcz25_1, hcz25_2, hfz25_0, hfz25_1, hfz25_2⟩ := bK3 (w := w24) BK1120))
  refine rC gb1120 28 #[.int .i64 t1122, .int .i64 t1123, .bool t1124] (bU BK1120) Tryz.underlying28 ?_
  exact ⟨rR, bZ HB⟩
def impl_DigestPair.f (a0 : ByteArray) (a1 : ByteArray) : Option (ByteArray) := if a0.size + a1.size ≤ 9223372036854775807 then ((impl_Digest.f (a0 ++ a1)).bind fun t1133 => (some t1133)) else (none)
theorem impl_DigestPair.calls (a0 : ByteArray) (a1 : ByteArray) (r : ByteArray) (w : World) (hT : Kp.Tab w) (h : impl_DigestPair.f a0 a1 = some r) :
  Calls Tryz.prog 143 #[.string a0, .string a1] w fun e w' => e = .returned (.string r) ∧ Below w.heap.size w w' := by
 have HT := Aside0.mk hT
 clear hT
 have HB := Aside0.mk (Below.refl w.heap.size w)
 unfold impl_DigestPair.f at h
 have H := h
 clear h
 by_cases c3 : a0.size + a1.size ≤ 9223372036854775807
 ·rw [if_pos c3] at H
  have c3b0 := eq_true c3
  have c3b1 := decide_eq_true c3
  try have c3b2 : (9223372036854775807 < a0.size + a1.size) = False := eq_false (Nat.not_lt.2 c3)
  try simp only [ByteArray.size_append] at c3b2
  obtain ⟨t1133, A4, H⟩ := oB H
  obtain rfl := Option.some.inj H
  go_enter Tryz.func143, Tryz.ntmps143
  go_wp2_with (first | (refine gC (some 8) Tryz.func55 #[.string (a0 ++ a1)] ?_; (with_reducible refine (impl_Digest.calls (a0 ++ a1) t1133 _ (Kp.Tab.below HT.out (bZ HB)) A4.out).mono ?_); rintro e w5 ⟨rfl, hb⟩; refine ⟨_, rfl, ?_⟩; replace HB := bS HB hb; (try clear hb)))
  go_ret
  exact ⟨rR, bZ HB⟩
 ·rw [if_neg c3] at H
  exact absurd H (by simp)
end Go.Proofs.YtkdmplfldfagnaaGreatDoor.Pf
end
section
namespace Go.Proofs.YtkdmplfldfagnaaGreatDoor.Pf
open Go.RowKit Go.Proofs.YtkdmplfldfagnaaGreatDoorW.PrintWords Go.Proofs.YtkdmplfldfagnaaGreatDoorW.PrintLast Go.Proofs.YtkdmplfldfagnaaGreatDoorW.PrintMore
attribute [local go_sem] max2_int min2_int max_two min_two max_three min_three max_four min_four   -- for this text's walks alone
set_option linter.unusedVariables false
set_option linter.unusedSimpArgs false
set_option maxHeartbeats 8000000
set_option maxRecDepth 100000
theorem one_rep {R : List ByteArray → List Value → Prop} {x : List ByteArray} {v : Value} (h : R x [v]) : Reps R 1 [x] [v] := by
  refine ⟨rfl, fun j p hj => ?_⟩
  match j, hj with
  | 0, hj => cases hj; exact h
theorem S_one {α : Type} {d : Kd α} {e : Nat} {w : World} {base : Nat} {ok : Nat → Prop} {v : Value} {x : α} (h : d.R e w base ok v [x]) : Kd.S d e w base ok v [x] := by
  obtain ⟨h0, inner, ho, hr⟩ := h
  refine ⟨fun _ => 0, h0, inner, ho, hr.1, fun j p hj => ?_⟩
  match j, hj with
  | 0, hj => cases hj; exact d.M_mono (fun k hk => ⟨hk, rfl⟩) (hr.2 0 x rfl)
mutual
def impl_levelsOfTree.l0 : Nat → List ByteArray → List ByteArray → Int → Int → Option (List (List ByteArray))
 | 0, _, _, _, _ => none
 | k + 1, x3, x9, x10, x11 => if x11 < x10 then (if 0 ≤ x11 then (if x11 < (x9.length : Int) then ((impl_Digest.f (rdOf ByteArray.empty x9 x11)).bind fun t718 => (if x3.length < 8796093022208 then (impl_levelsOfTree.l0 k (x3 ++ [t718]) x9 x10 (wrap64 (x11 + 1))) else (none))) else (none)) else (none)) else (impl_levelsOfTree.l1 k x3)
def impl_levelsOfTree.l1 : Nat → List ByteArray → Option (List (List ByteArray))
 | 0, _ => none
 | k + 1, x3 => if (x3.length : Int) = 0 then ((impl_Digest.f (⟨#[]⟩ : ByteArray)).bind fun t722 => (if x3.length < 8796093022208 then (impl_levelsOfTree.l1 k (x3 ++ [t722])) else (none))) else (if (Go.bits .and .i64 (x3.length : Int) (wrap64 ((x3.length : Int) - 1))) = 0 then (impl_levelsOfTree.l2 k [x3] x3) else ((impl_Digest.f (⟨#[]⟩ : ByteArray)).bind fun t726 => (if x3.length < 8796093022208 then (impl_levelsOfTree.l1 k (x3 ++ [t726])) else (none))))
def impl_levelsOfTree.l2 : Nat → List (List ByteArray) → List ByteArray → Option (List (List ByteArray))
 | 0, _, _ => none
 | k + 1, x6, x3 => if (x3.length : Int) > 1 then (impl_levelsOfTree.l3 k x6 x3 ([] : List ByteArray) 0) else (some x6)
def impl_levelsOfTree.l3 : Nat → List (List ByteArray) → List ByteArray → List ByteArray → Int → Option (List (List ByteArray))
 | 0, _, _, _, _ => none
 | k + 1, x6, x3, x7, x8 => if x8 < (x3.length : Int) then (if 0 ≤ x8 then (if 0 ≤ (wrap64 (x8 + 1)) then (if (wrap64 (x8 + 1)) < (x3.length : Int) then ((impl_DigestPair.f (rdOf ByteArray.empty x3 x8) (rdOf ByteArray.empty x3 (wrap64 (x8 + 1)))).bind fun t732 => (if x7.length < 8796093022208 then (impl_levelsOfTree.l3 k x6 x3 (x7 ++ [t732]) (wrap64 (x8 + 2))) else (none))) else (none)) else (none)) else (none)) else (if x6.length < 5000000000000 then (impl_levelsOfTree.l2 k (x6 ++ [x7]) x7) else (none))
end
def impl_levelsOfTree.f (k : Nat) (l0 : List ByteArray) : Option (List (List ByteArray)) := impl_levelsOfTree.l0 k ([] : List ByteArray) l0 (l0.length : Int) 0
def impl_levelsOfTree.T15 : Bool × List (List Nat × List Nat) := (true, [([], []), ([], []), ([], []), ([1, 2], [1, 2]), ([3], [3]), ([], []), ([], []), ([6], [6]), ([5, 7], [5, 7]), ([8], [8]), ([4, 9], [4, 9]), ([10], [10]), ([0, 11, 10], [0, 11]), ([12, 12, 0, 1, 2, 3, 4, 5, 6, 7, 8, 9, 10, 11, 12], [0, 12])])
def impl_levelsOfTree.B15 : List Nat := [0, 0, 0, 6, 14, 0, 0, 64, 224, 480, 1022, 2046, 4095, 8191]
theorem impl_levelsOfTree.tab15 : rtab .any (opsOf Tryz.f126 15) = impl_levelsOfTree.T15 := by kernel_rfl
theorem impl_levelsOfTree.bits15 : waitsOk impl_levelsOfTree.T15.2 impl_levelsOfTree.B15 = true := by kernel_rfl
theorem impl_levelsOfTree.calls (k : Nat) (A0 : Option Addr) (c0 : Nat) (l0 : List ByteArray) (r : List (List ByteArray)) (w : World) (hr0 : Kd.C Kd.string w A0 l0.length l0) (hc0 : l0.length ≤ c0) (hT : Kp.Tab w) (h : impl_levelsOfTree.f k l0 = some r) :
  Calls Tryz.prog 126 #[.slice A0 l0.length c0] w fun e w' => ∃ v0_ : Value, e = .returned (v0_) ∧ Kd.S (Kd.slice 9 Kd.string) 78 w' w.heap.size (fun _ => True) v0_ r ∧ Below w.heap.size w w' := by
 have HT := Aside0.mk hT
 clear hT
 have HR0 := Aside0.mk hr0
 have HC0 := Aside0.mk hc0
 clear hr0 hc0
 have HB := Aside0.mk (Below.refl w.heap.size w)
 unfold impl_levelsOfTree.f at h
 have H := h
 clear h
 have H' := Aside0.mk H
 clear H
 go_enter Tryz.func126, Tryz.ntmps126
 go_wp2
 go_loopg [3, 11] k (fun kq v3 v11 w' => ∃ (x3_1 : List ByteArray) (x11_1 : Int), v11 = .int .i64 x11_1 ∧ Aside0 (impl_levelsOfTree.l0 kq x3_1 l0 (l0.length : Int) x11_1 = some r) ∧ Aside0 (kq ≤ k) ∧ Aside0 (Kd.R Kd.string 9 w' w.heap.size (fun _ => True) v3 x3_1) ∧ Aside0 (Below w.heap.size w w'))
 case atStart => exact ⟨(([] : List ByteArray)), (0), rS, H', ⟨Nat.le_refl _⟩, ⟨by first | exact Kd.R_nil _ _ _ _ _ | exact Kd.N_nil _ _ _ _ _ | exact Kd.V_nil _ _ _ _ _ | exact Kd.Q_nil _ _ _ _ _ | exact Kd.S_nil _ _ _ _ _⟩, ⟨bZ HB⟩⟩
 case round =>
  clear H'
  try clear c1
  obtain ⟨x3_1, x11_1, rfl, HA, HK1, HO_3, HB⟩ := hrel
  cases gk with
  | zero => exact absurd HA.out (by simp [impl_levelsOfTree.l0])
  | succ k1 =>
   have H := HA.out
   clear HA
   simp only [impl_levelsOfTree.l0] at H
   by_cases c2 : x11_1 < (l0.length : Int)
   ·rw [if_pos c2] at H
    have c2b0 := decide_eq_true c2
    clear c2
    by_cases c3 : 0 ≤ x11_1
    ·rw [if_pos c3] at H
     have c3b0 := decide_eq_true c3
     clear c3
     by_cases c4 : x11_1 < (l0.length : Int)
     ·rw [if_pos c4] at H
      have c4b0 := decide_eq_true c4
      clear c4
      obtain ⟨t718, A5, H⟩ := oB H
      by_cases c6 : x3_1.length < 8796093022208
      ·rw [if_pos c6] at H
       have LMc6 := Aside0.mk c6
       clear c6
       obtain ⟨y719, hy719⟩ : ∃ y_ : List ByteArray, y_ = (x3_1 ++ [t718]) := ⟨_, rfl⟩
       replace H : (impl_levelsOfTree.l0 k1 y719 l0 (l0.length : Int) (wrap64 (x11_1 + 1))) = some r := yR hy719 H
       have Ny719 := Aside0.mk hy719
       clear hy719
       have H' := Aside0.mk H
       clear H
       have p717 : 0 ≤ (x11_1 : Int) := aQ
       have q717 : x11_1 < (l0.length : Int) := aQ
       obtain ⟨ad717, e717, hx717_0⟩ := Kd.at_string HR0.out x11_1 p717 q717
       cases e717
       replace hx717_0 := (hC HB hx717_0 :)
       replace p717 := eq_true p717
       replace q717 := eq_true q717
       go_wp2_with (first | (refine gC (some 17) Tryz.func55 #[.string (rdOf ByteArray.empty l0 x11_1)] ?_; (with_reducible refine (impl_Digest.calls (rdOf ByteArray.empty l0 x11_1) t718 _ (Kp.Tab.below HT.out (bZ HB)) A5.out).mono ?_); rintro e w7 ⟨rfl, hb⟩; refine ⟨_, rfl, ?_⟩; replace HO_3 := Aside0.mk (Kd.R_below (rP HO_3) hb); replace HB := bS HB hb; (try clear hb)) | ((with_reducible refine gate_builtin (b := .append) (xs := #[.tmp 15, .tmp 18]) rfl ?_); (try (refine gate_guard (by rfl) ?_; dsimp only)); at_builtin; refine Kd.R_append Kd.string (w0 := w) w.heap.size rfl (.tmp 15) (.tmp 18) 78 9 (.string ⟨#[]⟩) 16 rfl Tryz.underlying78 info9 rfl (by decide) (by omega) u3 x3_1 t718 [.string t718] (fun _ => True) (fun _ => False) rfl rfl ?aP (fun _ hk => hk.elim) ?aF ?aO ?aB ?aS ?aL ?_; (case aP => exact rfl); (case aB => exact (bZ HB)); (case aF => exact (fun _ _ => trivial)); (case aO => exact (rP HO_3)); (case aS => exact (below_size (bZ HB))); (case aL => have := LMc6.out; omega); intro v720 w8 ho hb hg hat; rw [← Ny719.out] at ho; replace HB := Aside0.mk (hb); have HO721 := Aside0.mk (ho); clear HO_3; clear ho hb hg hat))
       go_roundg k1
       case measure => have := HK1.out; omega
       case rel => exact ⟨(y719), (wrap64 (x11_1 + 1)), rS, H', ⟨by have := HK1.out; omega⟩, ⟨rP HO721⟩, ⟨bZ HB⟩⟩
      ·rw [if_neg c6] at H
       exact absurd H (by simp)
     ·rw [if_neg c4] at H
      exact absurd H (by simp)
    ·rw [if_neg c3] at H
     exact absurd H (by simp)
   ·rw [if_neg c2] at H
    have c2b0 := decide_eq_false c2
    clear c2
    have H' := Aside0.mk H
    clear H
    go_wp2
    go_loopg [3] k1 (fun kq v3 w' => ∃ (x3_2 : List ByteArray), Aside0 (impl_levelsOfTree.l1 kq x3_2 = some r) ∧ Aside0 (kq ≤ k1) ∧ Aside0 (Kd.R Kd.string 9 w' w.heap.size (fun _ => True) v3 x3_2) ∧ Aside0 (Below w.heap.size w w'))
    case atStart => exact ⟨(x3_1), H', ⟨Nat.le_refl _⟩, ⟨rP HO_3⟩, ⟨bZ HB⟩⟩
    case round =>
     clear H'
     try clear c1
     try clear c2
     try clear c2b0
     try clear p2
     try clear c3
     try clear c3b0
     try clear c4
     try clear c4b0
     try clear c5
     try clear c6
     try clear p6
     try clear p7
     try clear q7
     try clear hx7
     try clear hx717_0
     try clear p717
     try clear q717
     obtain ⟨x3_2, HA, HK2, HO_3, HB⟩ := hrel
     cases gk with
     | zero => exact absurd HA.out (by simp [impl_levelsOfTree.l1])
     | succ k2 =>
      have H := HA.out
      clear HA
      simp only [impl_levelsOfTree.l1] at H
      by_cases c9 : (x3_2.length : Int) = 0
      ·rw [if_pos c9] at H
       have c9b0 : ((x3_2.length : Int) == 0) = true := beq_iff_eq.mpr c9
       have c9b1 : ((x3_2.length : Int) != 0) = false := bne_eq_false_iff_eq.mpr c9
       clear c9
       obtain ⟨t722, A10, H⟩ := oB H
       by_cases c11 : x3_2.length < 8796093022208
       ·rw [if_pos c11] at H
        have LMc11 := Aside0.mk c11
        clear c11
        obtain ⟨y723, hy723⟩ : ∃ y_ : List ByteArray, y_ = (x3_2 ++ [t722]) := ⟨_, rfl⟩
        replace H : (impl_levelsOfTree.l1 k2 y723) = some r := yR hy723 H
        have Ny723 := Aside0.mk hy723
        clear hy723
        have H' := Aside0.mk H
        clear H
        obtain ⟨Ao12, co12, eo12⟩ := Kd.R_slice HO_3.out
        subst eo12
        go_wp2_with (first | (refine gC (some 34) Tryz.func55 #[.string (⟨#[]⟩ : ByteArray)] ?_; (with_reducible refine (impl_Digest.calls (⟨#[]⟩ : ByteArray) t722 _ (Kp.Tab.below HT.out (bZ HB)) A10.out).mono ?_); rintro e w13 ⟨rfl, hb⟩; refine ⟨_, rfl, ?_⟩; replace HO_3 := Aside0.mk (Kd.R_below (rP HO_3) hb); replace HB := bS HB hb; (try clear hb)) | ((with_reducible refine gate_builtin (b := .append) (xs := #[.tmp 33, .tmp 35]) rfl ?_); (try (refine gate_guard (by rfl) ?_; dsimp only)); at_builtin; refine Kd.R_append Kd.string (w0 := w) w.heap.size rfl (.tmp 33) (.tmp 35) 78 9 (.string ⟨#[]⟩) 16 rfl Tryz.underlying78 info9 rfl (by decide) (by omega) (.slice Ao12 x3_2.length co12) x3_2 t722 [.string t722] (fun _ => True) (fun _ => False) rfl rfl ?aP (fun _ hk => hk.elim) ?aF ?aO ?aB ?aS ?aL ?_; (case aP => exact rfl); (case aB => exact (bZ HB)); (case aF => exact (fun _ _ => trivial)); (case aO => exact (rP HO_3)); (case aS => exact (below_size (bZ HB))); (case aL => have := LMc11.out; omega); intro v724 w14 ho hb hg hat; rw [← Ny723.out] at ho; replace HB := Aside0.mk (hb); have HO725 := Aside0.mk (ho); clear HO_3; clear ho hb hg hat))
        go_roundg k2
        case measure => have := HK1.out; have := HK2.out; omega
        case rel => exact ⟨(y723), H', ⟨by have := HK1.out; have := HK2.out; omega⟩, ⟨rP HO725⟩, ⟨bZ HB⟩⟩
       ·rw [if_neg c11] at H
        exact absurd H (by simp)
      ·rw [if_neg c9] at H
       have c9b0 : ((x3_2.length : Int) == 0) = false := beq_eq_false_iff_ne.mpr c9
       have c9b1 : ((x3_2.length : Int) != 0) = true := bne_iff_ne.mpr c9
       have c9b2 : ¬ (x3_2 = []) := fun h_ => c9 (by rw [h_]; rfl)
       by_cases c15 : (Go.bits .and .i64 (x3_2.length : Int) (wrap64 ((x3_2.length : Int) - 1))) = 0
       ·rw [if_pos c15] at H
        have c15b0 : ((Go.bits .and .i64 (x3_2.length : Int) (wrap64 ((x3_2.length : Int) - 1))) == 0) = true := beq_iff_eq.mpr c15
        have c15b1 : ((Go.bits .and .i64 (x3_2.length : Int) (wrap64 ((x3_2.length : Int) - 1))) != 0) = false := bne_eq_false_iff_eq.mpr c15
        clear c15
        have H' := Aside0.mk H
        clear H
        obtain ⟨Ao16, co16, eo16⟩ := Kd.R_slice HO_3.out
        subst eo16
        go_wp2_with (first | ((with_reducible refine gate_dst (N := 38) rfl ?_); refine Kd.R_lit (Kd.slice 9 Kd.string) (w0 := w) w.heap.size 78 ?hg (N := 38) ?hd (xs := [x3_2]) (inner := [.slice Ao16 x3_2.length co16]) (ok := fun _ => True) (okp := fun _ => True) ?hr ?hp (fun _ hk => hk) trivial (bZ HB) (below_size (bZ HB)) (by simp) ?_; (case hd => rfl); (case hg => rfl); (case hr => first | (go_simp; done) | (go_simp; rfl)); (case hp => exact one_rep (Kd.M_row (rP HO_3))); intro v990 w99 ho6 hb hg_ hnew_; replace HO_3 := Aside0.mk (Kd.R_grown (rP HO_3) hg_ (fun k_ _ e_ => by cases e_)); clear hg_ hnew_; clear HB; have HO_6 := Aside0.mk (S_one ho6); have HB := Aside0.mk hb; clear hb ho6))
        go_loopg [3, 6] k2 (fun kq v3 v6 w' => ∃ (x3_3 : List ByteArray) (x6_3 : List (List ByteArray)), Aside0 (impl_levelsOfTree.l2 kq x6_3 x3_3 = some r) ∧ Aside0 (kq ≤ k2) ∧ Aside0 (Kd.R Kd.string 9 w' w.heap.size (fun _ => True) v3 x3_3) ∧ Aside0 (Kd.S (Kd.slice 9 Kd.string) 78 w' w.heap.size (fun _ => True) v6 x6_3) ∧ Aside0 (Below w.heap.size w w'))
        case atStart => exact ⟨(x3_2), ([x3_2]), H', ⟨Nat.le_refl _⟩, ⟨rP HO_3⟩, ⟨by (with_reducible repeat (first | apply Kd.S_alloc | apply Kd.S_drewN | apply Kd.S_drew)); exact HO_6.out⟩, ⟨bZ HB⟩⟩
        case round =>
         clear H'
         try clear c1
         try clear c2
         try clear c2b0
         try clear p2
         try clear c3
         try clear c3b0
         try clear c4
         try clear c4b0
         try clear c5
         try clear c6
         try clear p6
         try clear p7
         try clear q7
         try clear hx7
         try clear c9
         try clear c9b0
         try clear c9b1
         try clear c9b2
         try clear c11
         try clear c12
         try clear c15
         try clear c15b0
         try clear c15b1
         try clear hx717_0
         try clear p2
         try clear p6
         try clear p7
         try clear p717
         try clear q7
         try clear q717
         clear HO_3 HO_6
         obtain ⟨x3_3, x6_3, HA, HK3, HO_3, HO_6, HB⟩ := hrel
         cases gk with
         | zero => exact absurd HA.out (by simp [impl_levelsOfTree.l2])
         | succ k3 =>
          have H := HA.out
          clear HA
          simp only [impl_levelsOfTree.l2] at H
          by_cases c17 : (x3_3.length : Int) > 1
          ·rw [if_pos c17] at H
           have c17b0 := decide_eq_true c17
           have c17b1 : decide (1 < x3_3.length) = true := decide_eq_true (by omega)
           clear c17
           have H' := Aside0.mk H
           clear H
           obtain ⟨Ao18, co18, eo18⟩ := Kd.R_slice HO_3.out
           subst eo18
           go_wp2
           go_loopg [7, 8] k3 (fun kq v7 v8 w' => ∃ (x7_4 : List ByteArray) (x8_4 : Int), v8 = .int .i64 x8_4 ∧ Aside0 (impl_levelsOfTree.l3 kq x6_3 x3_3 x7_4 x8_4 = some r) ∧ Aside0 (kq ≤ k3) ∧ Aside0 (Kd.R Kd.string 9 w' w.heap.size (fun k_ => some k_ ≠ (v7 : Value).ownBlock) (.slice Ao18 x3_3.length co18) x3_3) ∧ Aside0 (Kd.R Kd.string 9 w' w.heap.size (fun k_ => some k_ ≠ ((.slice Ao18 x3_3.length co18) : Value).ownBlock) v7 x7_4) ∧ Aside0 (Kd.S (Kd.slice 9 Kd.string) 78 w' w.heap.size (fun k_ => some k_ ≠ (v7 : Value).ownBlock) u6 x6_3) ∧ Aside0 (Below w.heap.size w w'))
           case atStart => exact ⟨(([] : List ByteArray)), (0), rS, H', ⟨Nat.le_refl _⟩, ⟨by (with_reducible repeat (first | apply Kd.R_alloc | apply Kd.R_drewN | apply Kd.R_drew)); exact Kd.R_mono HO_3.out (fun _ hk => (by simp [Value.ownBlock]))⟩, ⟨by first | exact Kd.R_nil _ _ _ _ _ | exact Kd.N_nil _ _ _ _ _ | exact Kd.V_nil _ _ _ _ _ | exact Kd.Q_nil _ _ _ _ _ | exact Kd.S_nil _ _ _ _ _⟩, ⟨by (with_reducible repeat (first | apply Kd.S_alloc | apply Kd.S_drewN | apply Kd.S_drew)); exact Kd.S_mono HO_6.out (fun _ hk => (by simp [Value.ownBlock]))⟩, ⟨bZ HB⟩⟩
           case round =>
            clear H'
            try clear c1
            try clear c2
            try clear c2b0
            try clear p2
            try clear c3
            try clear c3b0
            try clear c4
            try clear c4b0
            try clear c5
            try clear c6
            try clear p6
            try clear p7
            try clear q7
            try clear hx7
            try clear c9
            try clear c9b0
            try clear c9b1
            try clear c9b2
            try clear c11
            try clear c12
            try clear c15
            try clear c15b0
            try clear c15b1
            try clear c17
            try clear c17b0
            try clear c17b1
            try clear hx717_0
            try clear p2
            try clear p6
            try clear p7
            try clear p717
            try clear q7
            try clear q717
            clear HO_6
            obtain ⟨x7_4, x8_4, rfl, HA, HK4, HO_3, HO_7, HO_6, HB⟩ := hrel
            cases gk with
            | zero => exact absurd HA.out (by simp [impl_levelsOfTree.l3])
            | succ k4 =>
             have H := HA.out
             clear HA
             simp only [impl_levelsOfTree.l3] at H
             by_cases c19 : x8_4 < (x3_3.length : Int)
             ·rw [if_pos c19] at H
              have c19b0 := decide_eq_true c19
              clear c19
              by_cases c20 : 0 ≤ x8_4
              ·rw [if_pos c20] at H
               have c20b0 := decide_eq_true c20
               clear c20
               obtain ⟨ji21, hji21⟩ : ∃ j_ : Int, (wrap64 (x8_4 + 1)) = j_ := ⟨_, rfl⟩
               replace H : (if 0 ≤ (ji21) then (if (ji21) < (x3_3.length : Int) then ((impl_DigestPair.f (rdOf ByteArray.empty x3_3 x8_4) (rdOf ByteArray.empty x3_3 (ji21))).bind fun t732 => (if x7_4.length < 8796093022208 then (impl_levelsOfTree.l3 k4 x6_3 x3_3 (x7_4 ++ [t732]) (wrap64 (x8_4 + 2))) else (none))) else (none)) else (none)) = some r := jR hji21 H
               have hji21w : (IntKind.i64.wrap (x8_4 + 1)) = ji21 := (i64_w _).trans hji21
               by_cases c22 : 0 ≤ (ji21)
               ·rw [if_pos c22] at H
                have c22b0 := decide_eq_true c22
                clear c22
                by_cases c23 : (ji21) < (x3_3.length : Int)
                ·rw [if_pos c23] at H
                 have c23b0 := decide_eq_true c23
                 clear c23
                 obtain ⟨t732, A24, H⟩ := oB H
                 by_cases c25 : x7_4.length < 8796093022208
                 ·rw [if_pos c25] at H
                  have LMc25 := Aside0.mk c25
                  clear c25
                  obtain ⟨y733, hy733⟩ : ∃ y_ : List ByteArray, y_ = (x7_4 ++ [t732]) := ⟨_, rfl⟩
                  replace H : (impl_levelsOfTree.l3 k4 x6_3 x3_3 y733 (wrap64 (x8_4 + 2))) = some r := yR hy733 H
                  have Ny733 := Aside0.mk hy733
                  clear hy733
                  have H' := Aside0.mk H
                  clear H
                  try go_wp2
                  replace HO_3 := Aside0.mk (Kd.R_drew HO_3.out)
                  replace HO_7 := Aside0.mk (Kd.R_drew HO_7.out)
                  replace HO_6 := Aside0.mk (Kd.S_drew HO_6.out)
                  replace HB := Aside0.mk (below_drew1 HB.out)
                  have p730 : 0 ≤ (x8_4 : Int) := aQ
                  have q730 : x8_4 < (x3_3.length : Int) := aQ
                  obtain ⟨ad730, e730, hx730_0⟩ := Kd.at_string (Kd.R_reads' HO_3.out).2.2 x8_4 p730 q730
                  cases e730
                  replace p730 := eq_true p730
                  replace q730 := eq_true q730
                  have p731 : 0 ≤ ((ji21) : Int) := aQ
                  have q731 : (ji21) < (x3_3.length : Int) := aQ
                  obtain ⟨ad731, e731, hx731_0⟩ := Kd.at_string (Kd.R_reads' HO_3.out).2.2 (ji21) p731 q731
                  obtain rfl : ad730 = ad731 := (by injection e731)
                  replace p731 := eq_true p731
                  replace q731 := eq_true q731
                  refine start_ (n := 14) (S := fun w' => w'.cell? (ad730.add (x8_4).toNat) = some (.string (rdOf ByteArray.empty x3_3 x8_4)) ∧ w'.cell? (ad730.add ((ji21)).toNat) = some (.string (rdOf ByteArray.empty x3_3 (ji21)))) (ds := [11, 12]) #[false, false, false, false, false, false, false, false, false, false, false, false, false, false] (by kernel_rfl) rfl rfl ⟨hx730_0, hx731_0⟩ (fun hHeld => ?_); refine with_tabW impl_levelsOfTree.tab15 impl_levelsOfTree.bits15 (fun HT_ HW_ => ?_)
                  generalize wr.drew = w26 at HO_3 HO_7 HO_6 HB hx730_0 hx731_0 hHeld ⊢
                  refine pI 0 (some 48) HT_.out ?_
                  refine pI 1 (some 49) HT_.out ?_
                  refine pI 2 (some 50) HT_.out ?_
                  refine pI 3 (some 51) HT_.out ?_
                  refine pI 5 (some 53) HT_.out ?_
                  refine pI 6 (some 54) HT_.out ?_
                  refine pI 7 (some 55) HT_.out ?_
                  refine pI 8 (some 56) HT_.out ?_
                  refine tI2 4 (some 52) HT_.out HW_.out hHeld ?_
                  refine tI2 9 (some 57) HT_.out HW_.out hHeld ?_
                  refine oI 10 (some 58) HT_.out (fun K hK => ?_)
                  refine goes_ Tryz.func143 (by kernel_rfl) rfl #[.string (rdOf ByteArray.empty x3_3 x8_4), .string (rdOf ByteArray.empty x3_3 (ji21))] (by rfl) rfl rfl (by (try simp only [List.map_toArray, List.map_cons, List.map_nil]); first | done | (simp only [hji21]; rfl) | rfl | (simp only [List.length_drop, List.length_take]; rfl)) ?_
                  with_reducible refine (impl_DigestPair.calls (rdOf ByteArray.empty x3_3 x8_4) (rdOf ByteArray.empty x3_3 (ji21)) t732 _ (Kp.Tab.below HT.out (bZ HB)) A24.out).mono ?_
                  rintro e w27 ⟨rfl, hb⟩
                  have HS0_ := (hb.cell (World.block_lt_of_cell? _ _ (hHeld.1))).trans (hHeld.1)
                  have HS1_ := (hb.cell (World.block_lt_of_cell? _ _ (hHeld.2))).trans (hHeld.2)
                  refine ⟨_, rfl, ?_⟩
                  replace HO_3 := Aside0.mk (Kd.R_below (rP HO_3) hb)
                  replace HO_7 := Aside0.mk (Kd.R_below (rP HO_7) hb)
                  replace HO_6 := Aside0.mk (Kd.S_below (by (with_reducible repeat (first | apply Kd.S_alloc | apply Kd.S_drewN | apply Kd.S_drew)); exact HO_6.out) hb)
                  replace HB := bS HB hb
                  (try clear hb)
                  refine hK.out _ _ ⟨HS0_, HS1_⟩ (fun hHeld => ?_)
                  clear hK K
                  refine nO (some 58) ?_
                  refine last_ (i := 11) (N := some 59) #[true, true, true, true, true, true, true, true, true, true, true, true, false, false] rfl rfl (one_of HT_.out (by kernel_rfl)) (by decide) (fun K hK => ?_)
                  refine value_ (w1 := ?_) (v := ?_) (by rfl) rfl ?_ ?_
                  rotate_left 2
                  ·go_simp
                   constructor
                   ·rfl
                   ·rfl
                  refine hK.out _ _ ?_
                  clear hK K
                  refine nO (some 59) ?_
                  refine last_ (i := 12) (N := some 60) #[true, true, true, true, true, true, true, true, true, true, true, true, true, false] rfl rfl (one_of HT_.out (by kernel_rfl)) (by decide) (fun K hK => ?_)
                  refine Kd.R_append_step Kd.string (w0 := w) w.heap.size (by rfl) (.tmp 48) (.tmp 59) 78 9 (.string ⟨#[]⟩) 16 rfl Tryz.underlying78 info9 rfl (by decide) (by omega) u7 x7_4 t732 [.string t732] (fun k_ => some k_ ≠ (.slice (some ad730) x3_3.length co18 : Value).ownBlock) (fun _ => False) rfl rfl ?aP (fun _ hk => hk.elim) ?aF ?aO ?aB ?aS ?aL ?_
                  (case aP => exact rfl)
                  (case aB => exact (bZ HB))
                  (case aF => exact (fun k_ hk => Kd.fresh' (Kd.R_lt (rP HO_3)) k_ hk))
                  (case aO => exact (rP HO_7))
                  (case aS => exact (below_size (bZ HB)))
                  (case aL => have := LMc25.out; omega)
                  intro v734 w28 ho hb hg hat
                  rw [← Ny733.out] at ho
                  replace HO_3 := Aside0.mk (Kd.R_after (ok := (fun _ => True)) (by (with_reducible repeat (first | apply Kd.R_alloc | apply Kd.R_drewN | apply Kd.R_drew)); exact Kd.R_mono HO_3.out (fun _ hk => ⟨trivial, hk⟩)) hg hat)
                  replace HO_6 := Aside0.mk (Kd.S_after (ok := (fun _ => True)) (by (with_reducible repeat (first | apply Kd.S_alloc | apply Kd.S_drewN | apply Kd.S_drew)); exact Kd.S_mono HO_6.out (fun _ hk => ⟨trivial, hk⟩)) hg hat)
                  replace HB := Aside0.mk (hb)
                  have HO735 := Aside0.mk (ho)
                  clear HO_7
                  clear ho hb hg hat
                  refine hK.out _ _ ?_
                  clear hK K
                  refine nO (some 60) ?_
                  refine pI 13 (some 7) HT_.out ?_
                  refine done_ (done_of HT_.out (by kernel_rfl)) ?_
                  try go_wp2
                  go_roundg k4
                  case measure => have := HK1.out; have := HK2.out; have := HK3.out; have := HK4.out; omega
                  case rel => exact ⟨(y733), (wrap64 (x8_4 + 2)), rS, H', ⟨by simp only [aI] at *; omega⟩, ⟨by (with_reducible repeat (first | apply Kd.R_alloc | apply Kd.R_drewN | apply Kd.R_drew)); exact Kd.R_mono HO_3.out (fun _ hk => hk.2)⟩, ⟨rP HO735⟩, ⟨by (with_reducible repeat (first | apply Kd.S_alloc | apply Kd.S_drewN | apply Kd.S_drew)); exact Kd.S_mono HO_6.out (fun _ hk => hk.2)⟩, ⟨bZ HB⟩⟩
                 ·rw [if_neg c25] at H
                  exact absurd H (by simp)
                ·rw [if_neg c23] at H
                 exact absurd H (by simp)
               ·rw [if_neg c22] at H
                exact absurd H (by simp)
              ·rw [if_neg c20] at H
               exact absurd H (by simp)
             ·rw [if_neg c19] at H
              have c19b0 := decide_eq_false c19
              clear c19
              by_cases c991 : x6_3.length < 5000000000000
              case neg => rw [if_neg c991] at H; exact absurd H (by simp)
              rw [if_pos c991] at H
              have LMc991 := Aside0.mk c991
              clear c991
              obtain ⟨Ao993, co993, eo993⟩ := Kd.R_slice HO_7.out
              subst eo993
              have HO_77 : Aside0 (Kd.R Kd.string 9 wr w.heap.size (fun k_ => some k_ ≠ (u6 : Value).ownBlock) (.slice Ao993 x7_4.length co993) x7_4) := ⟨Kd.R_mono (Kd.R_apartR HO_7.out (Kd.S_R HO_6.out) (by decide)) (fun _ hk => hk.2)⟩
              have H' := Aside0.mk H
              clear H
              go_wp2_with (first | ((with_reducible refine gate_builtin (b := .append) (xs := #[.tmp 61, .tmp 63]) rfl ?_); (try (refine gate_guard (by rfl) ?_; dsimp only)); at_builtin; refine Kd.S_append (Kd.slice 9 Kd.string) (w0 := w) w.heap.size rfl (.tmp 61) (.tmp 63) 106 78 (.slice none 0 0) 24 rfl Tryz.underlying106 info78 rfl (by decide) (by omega) u6 x6_3 x7_4 [(.slice Ao993 x7_4.length co993)] (fun _ => True) (fun k_ => some k_ = ((.slice Ao993 x7_4.length co993) : Value).ownBlock) rfl rfl ?aP ?aK ?aF ?aO ?aB ?aS ?aL ?_; (case aP => exact Kd.M_row (Kd.R_tight rfl (rP HO_7))); (case aK => exact fun k_ e_ => ⟨trivial, HO_77.out.1 k_ e_.symm⟩); (case aF => exact (fun _ _ => trivial)); (case aO => exact (by (with_reducible repeat (first | apply Kd.S_alloc | apply Kd.S_drewN | apply Kd.S_drew)); exact Kd.S_mono HO_6.out (fun _ hk => ⟨trivial, hk⟩))); (case aB => exact (bZ HB)); (case aS => exact (below_size (bZ HB))); (case aL => have := LMc991.out; omega); intro v992 w992 ho hb hg hat; have n0_ := Aside0.mk (Kd.R_grown (ok := fun k_ => some k_ ≠ (u6 : Value).ownBlock) (rP HO_77) hg (fun _ hk => hk)); clear HO_3 HO_7 HO_77 HO_6; clear HB; have HO_7 := Aside0.mk (Kd.R_mono (ok' := fun _ => True) n0_.out (fun _ _ => trivial)); have HO_6 := Aside0.mk ho; have HB := Aside0.mk hb; clear n0_; clear ho hb hg hat))
              go_roundg k4
              case measure => have := HK1.out; have := HK2.out; have := HK3.out; have := HK4.out; omega
              case rel => exact ⟨(x7_4), (x6_3 ++ [x7_4]), H', ⟨by simp only [aI] at *; omega⟩, ⟨by (with_reducible repeat (first | apply Kd.R_alloc | apply Kd.R_drewN | apply Kd.R_drew)); exact Kd.R_mono HO_7.out (fun _ hk => trivial)⟩, ⟨by (with_reducible repeat (first | apply Kd.S_alloc | apply Kd.S_drewN | apply Kd.S_drew)); exact HO_6.out⟩, ⟨bZ HB⟩⟩
          ·rw [if_neg c17] at H
           have c17b0 := decide_eq_false c17
           have c17b1 : decide (1 < x3_3.length) = false := decide_eq_false (by omega)
           clear c17
           obtain rfl := Option.some.inj H
           obtain ⟨Ao29, co29, eo29⟩ := Kd.R_slice HO_3.out
           subst eo29
           go_wp2
           go_ret
           exact ⟨_, by first | rfl | (simp [errW_none, errW_some] <;> rfl) | (simp [*, errW_none, errW_some] <;> rfl), by (with_reducible repeat (first | apply Kd.S_alloc | apply Kd.S_drewN | apply Kd.S_drew)); exact HO_6.out, bZ HB⟩
       ·rw [if_neg c15] at H
        have c15b0 : ((Go.bits .and .i64 (x3_2.length : Int) (wrap64 ((x3_2.length : Int) - 1))) == 0) = false := beq_eq_false_iff_ne.mpr c15
        have c15b1 : ((Go.bits .and .i64 (x3_2.length : Int) (wrap64 ((x3_2.length : Int) - 1))) != 0) = true := bne_iff_ne.mpr c15
        obtain ⟨t726, A30, H⟩ := oB H
        by_cases c31 : x3_2.length < 8796093022208
        ·rw [if_pos c31] at H
         have LMc31 := Aside0.mk c31
         clear c31
         obtain ⟨y727, hy727⟩ : ∃ y_ : List ByteArray, y_ = (x3_2 ++ [t726]) := ⟨_, rfl⟩
         replace H : (impl_levelsOfTree.l1 k2 y727) = some r := yR hy727 H
         have Ny727 := Aside0.mk hy727
         clear hy727
         have H' := Aside0.mk H
         clear H
         obtain ⟨Ao32, co32, eo32⟩ := Kd.R_slice HO_3.out
         subst eo32
         go_wp2_with (first | (refine gC (some 34) Tryz.func55 #[.string (⟨#[]⟩ : ByteArray)] ?_; (with_reducible refine (impl_Digest.calls (⟨#[]⟩ : ByteArray) t726 _ (Kp.Tab.below HT.out (bZ HB)) A30.out).mono ?_); rintro e w33 ⟨rfl, hb⟩; refine ⟨_, rfl, ?_⟩; replace HO_3 := Aside0.mk (Kd.R_below (rP HO_3) hb); replace HB := bS HB hb; (try clear hb)) | ((with_reducible refine gate_builtin (b := .append) (xs := #[.tmp 33, .tmp 35]) rfl ?_); (try (refine gate_guard (by rfl) ?_; dsimp only)); at_builtin; refine Kd.R_append Kd.string (w0 := w) w.heap.size rfl (.tmp 33) (.tmp 35) 78 9 (.string ⟨#[]⟩) 16 rfl Tryz.underlying78 info9 rfl (by decide) (by omega) (.slice Ao32 x3_2.length co32) x3_2 t726 [.string t726] (fun _ => True) (fun _ => False) rfl rfl ?aP (fun _ hk => hk.elim) ?aF ?aO ?aB ?aS ?aL ?_; (case aP => exact rfl); (case aB => exact (bZ HB)); (case aF => exact (fun _ _ => trivial)); (case aO => exact (rP HO_3)); (case aS => exact (below_size (bZ HB))); (case aL => have := LMc31.out; omega); intro v728 w34 ho hb hg hat; rw [← Ny727.out] at ho; replace HB := Aside0.mk (hb); have HO729 := Aside0.mk (ho); clear HO_3; clear ho hb hg hat))
         go_roundg k2
         case measure => have := HK1.out; have := HK2.out; omega
         case rel => exact ⟨(y727), H', ⟨by have := HK1.out; have := HK2.out; omega⟩, ⟨rP HO729⟩, ⟨bZ HB⟩⟩
        ·rw [if_neg c31] at H
         exact absurd H (by simp)
end Go.Proofs.YtkdmplfldfagnaaGreatDoor.Pf
end
section
namespace Go.Proofs.YtkdmplfldfagnaaGreatDoor.Pf
open Go.RowKit Go.Proofs.YtkdmplfldfagnaaGreatDoorW.PrintWords Go.Proofs.YtkdmplfldfagnaaGreatDoorW.PrintLast Go.Proofs.YtkdmplfldfagnaaGreatDoorW.PrintMore
attribute [local go_sem] max2_int min2_int max_two min_two max_three min_three max_four min_four   -- for this text's walks alone
set_option linter.unusedVariables false
set_option linter.unusedSimpArgs false
set_option maxHeartbeats 8000000
set_option maxRecDepth 100000
def impl_RootOf.f (k : Nat) (l0 : List ByteArray) : Option (ByteArray) := if (l0.length : Int) > 32 then (some (⟨#[]⟩ : ByteArray)) else ((impl_levelsOfTree.f k l0).bind fun t1134 => (if 0 ≤ (wrap64 ((t1134.length : Int) - 1)) then (if (wrap64 ((t1134.length : Int) - 1)) < (t1134.length : Int) then (if 0 < ((rd_L6 t1134 (wrap64 ((t1134.length : Int) - 1))).length : Int) then (some (rdOf ByteArray.empty (rd_L6 t1134 (wrap64 ((t1134.length : Int) - 1))) 0)) else (none)) else (none)) else (none)))
theorem impl_RootOf.calls (k : Nat) (A0 : Option Addr) (c0 : Nat) (l0 : List ByteArray) (r : ByteArray) (w : World) (hr0 : Kd.C Kd.string w A0 l0.length l0) (hc0 : l0.length ≤ c0) (hT : Kp.Tab w) (h : impl_RootOf.f k l0 = some r) :
  Calls Tryz.prog 83 #[.slice A0 l0.length c0] w fun e w' => e = .returned (.string r) ∧ Below w.heap.size w w' := by
 have HT := Aside0.mk hT
 clear hT
 have HR0 := Aside0.mk hr0
 have HC0 := Aside0.mk hc0
 clear hr0 hc0
 have HB := Aside0.mk (Below.refl w.heap.size w)
 unfold impl_RootOf.f at h
 have H := h
 clear h
 by_cases c2 : (l0.length : Int) > 32
 ·rw [if_pos c2] at H
  have c2b0 := decide_eq_true c2
  have c2b1 : decide (32 < l0.length) = true := decide_eq_true (by omega)
  clear c2
  obtain rfl := Option.some.inj H
  go_enter Tryz.func83, Tryz.ntmps83
  go_wp2
  go_ret
  exact ⟨rR, bZ HB⟩
 ·rw [if_neg c2] at H
  have c2b0 := decide_eq_false c2
  have c2b1 : decide (32 < l0.length) = false := decide_eq_false (by omega)
  clear c2
  obtain ⟨t1134, A3, H⟩ := oB H
  obtain ⟨ji4, hji4⟩ : ∃ j_ : Int, (wrap64 ((t1134.length : Int) - 1)) = j_ := ⟨_, rfl⟩
  replace H : (if 0 ≤ (ji4) then (if (ji4) < (t1134.length : Int) then (if 0 < ((rd_L6 t1134 (ji4)).length : Int) then (some (rdOf ByteArray.empty (rd_L6 t1134 (ji4)) 0)) else (none)) else (none)) else (none)) = some r := jR hji4 H
  (try rw [hji4] at A3)
  have hji4w : (IntKind.i64.wrap ((t1134.length : Int) - 1)) = ji4 := (i64_w _).trans hji4
  by_cases c5 : 0 ≤ (ji4)
  ·rw [if_pos c5] at H
   have c5b0 := decide_eq_true c5
   clear c5
   by_cases c6 : (ji4) < (t1134.length : Int)
   ·rw [if_pos c6] at H
    have c6b0 := decide_eq_true c6
    clear c6
    by_cases c7 : 0 < ((rd_L6 t1134 (ji4)).length : Int)
    ·rw [if_pos c7] at H
     have c7b0 := decide_eq_true c7
     have c7b1 : decide (0 < (rd_L6 t1134 (ji4)).length) = true := decide_eq_true (by omega)
     clear c7
     obtain rfl := Option.some.inj H
     go_enter Tryz.func83, Tryz.ntmps83
     go_wp2_with (first | (refine gC (some 8) Tryz.func126 #[.slice A0 l0.length c0] ?_; (with_reducible refine (impl_levelsOfTree.calls k _ _ l0 t1134 _ ?side1 ?side2 (Kp.Tab.below HT.out (bZ HB)) A3.out).mono ?_); (case side1 => exact cP HR0.out); (case side2 => exact HC0.out); rintro e w8 ⟨v1135, rfl, ho0, hb⟩; refine ⟨_, rfl, ?_⟩; have HO1136 := Aside0.mk (Kd.S_lower ho0 (below_size (bZ HB))); replace HB := bS HB hb; (try clear hb); (try clear ho0); obtain ⟨Ao9, co9, eo9⟩ := Kd.S_slice HO1136.out; subst eo9; have p1137 : 0 ≤ ((ji4) : Int) := aQ; have q1137 : (ji4) < (t1134.length : Int) := aQ; obtain ⟨ad1137, A1137_0, c1137_0, e1137, hx1137_0, hl1137_0, hi1137_0⟩ := at_L6 (Kd.S_reads' HO1136.out).2.2 (ji4) p1137 q1137; cases e1137; obtain ⟨ce1137, hce1137, hMe1137, hcc1137⟩ := Kd.S_get HO1136.out [] (ji4) p1137 (by first | exact q1137 | exact aQ | (have e_ := (Kd.S_reads' HO1136.out).1; omega)); obtain ⟨ve1137_0, rfl, ge1137_0⟩ := hMe1137; have hv1137_0 := hcc1137 0 _ rfl; rw [Nat.add_zero, show ((Kd.slice 9 Kd.string)).sz = 1 from rfl, Nat.mul_one] at hv1137_0; replace hv1137_0 := Option.some.inj (hv1137_0.symm.trans hx1137_0); rw [hv1137_0] at ge1137_0; have HL1137_0 := Aside0.mk (show Kd.R Kd.string 9 _ _ _ _ (rd_L6 t1134 (ji4)) from ge1137_0); clear hv1137_0 ge1137_0; clear hcc1137 hce1137; have HR1137_0 := Aside0.mk hi1137_0; have HC1137_0 := Aside0.mk hl1137_0; clear hi1137_0 hl1137_0; replace p1137 := eq_true p1137; replace q1137 := eq_true q1137; have p1138 : 0 ≤ (0 : Int) := (by omega); have q1138 : 0 < ((rd_L6 t1134 (ji4)).length : Int) := aQ; obtain ⟨ad1138, e1138, hx1138_0⟩ := Kd.at_string (by repeat (first | (with_reducible exact HR1137_0.out) | (with_reducible refine Kd.C_alloc ?_ _) | (with_reducible refine Kd.C_drewN ?_ _) | (with_reducible refine Kd.C_drew ?_) | exact HR1137_0.out)) 0 p1138 q1138; cases e1138; have qi1138 : (0 < (rd_L6 t1134 (ji4)).length) = True := eq_true (by omega); (try rw [show ((0 : Int)).toNat = 0 from rfl] at hx1138_0); (try rw [Addr.add_zero'] at hx1138_0); replace p1138 := eq_true p1138; replace q1138 := eq_true q1138))
     go_ret
     exact ⟨by first | rfl | (simp [errW_none, errW_some] <;> rfl) | (simp only [← hji4]; first | rfl | (simp [errW_none, errW_some] <;> rfl)) | (simp [*, errW_none, errW_some] <;> rfl), bZ HB⟩
    ·rw [if_neg c7] at H
     exact absurd H (by simp)
   ·rw [if_neg c6] at H
    exact absurd H (by simp)
  ·rw [if_neg c5] at H
   exact absurd H (by simp)
def impl_CommitteeRoot.f (k : Nat) (l0_0 : List (S28)) : Option (ByteArray) := (impl_CommitteeOk.f k l0_0).bind fun t1140 => (if t1140 = true then ((impl_keyTexts.f k l0_0).bind fun t1141 => ((impl_RootOf.f k t1141).bind fun t1144 => (some t1144))) else (some (⟨#[]⟩ : ByteArray)))
theorem impl_CommitteeRoot.calls (k : Nat) (A0_0 : Option Addr) (c0_0 : Nat) (l0_0 : List (S28)) (r : ByteArray) (w : World) (hr0_0 : Kd.C k28 w A0_0 l0_0.length l0_0) (hc0_0 : l0_0.length ≤ c0_0) (hT : Kp.Tab w) (h : impl_CommitteeRoot.f k l0_0 = some r) :
  Calls Tryz.prog 37 #[.agg #[.slice A0_0 l0_0.length c0_0]] w fun e w' => e = .returned (.string r) ∧ Below w.heap.size w w' := by
 have HT := Aside0.mk hT
 clear hT
 have hu46 := Tryz.underlying46
 have HR0_0 := Aside0.mk hr0_0
 have HC0_0 := Aside0.mk hc0_0
 clear hr0_0 hc0_0
 have HB := Aside0.mk (Below.refl w.heap.size w)
 unfold impl_CommitteeRoot.f at h
 have H := h
 clear h
 obtain ⟨t1140, A2, H⟩ := oB H
 by_cases c3 : t1140 = true
 ·subst c3
  rw [if_pos rfl] at H
  obtain ⟨t1141, A4, H⟩ := oB H
  obtain ⟨t1144, A5, H⟩ := oB H
  obtain rfl := Option.some.inj H
  go_enter Tryz.func37, Tryz.ntmps37
  go_wp2_with (first | (refine gB 1 #[.slice A0_0 l0_0.length c0_0] 46 ?_; intro gb1139 hg w6 BK1139 hb; have GW1139 := bG HB hg; replace HB := bS HB hb; clear hb hg; obtain ⟨hcz7_0, hfz7_0⟩ := bK1 (w := w6) BK1139) | (refine gC (some 4) Tryz.func39 #[.agg #[.slice A0_0 l0_0.length c0_0]] ?_; (with_reducible refine (impl_CommitteeOk.calls k _ _ l0_0 true _ ?side1 ?side2 A2.out).mono ?_); (case side1 => exact cP (Kd.C_below HR0_0.out HB.out)); (case side2 => exact HC0_0.out); rintro e w8 ⟨rfl, hb⟩; refine ⟨_, rfl, ?_⟩; replace BK1139 := bB BK1139 hb; replace HB := bS HB hb; (try clear hb); obtain ⟨hcz9_0, hfz9_0⟩ := bK1 (w := w8) BK1139) | (refine gC (some 7) Tryz.func70 #[.agg #[.slice A0_0 l0_0.length c0_0]] ?_; (with_reducible refine (impl_keyTexts.calls k _ _ l0_0 t1141 _ ?side1 ?side2 A4.out).mono ?_); (case side1 => exact cP (Kd.C_below HR0_0.out HB.out)); (case side2 => exact HC0_0.out); rintro e w10 ⟨v1142, rfl, ho0, hb⟩; refine ⟨_, rfl, ?_⟩; have HO1143 := Aside0.mk (Kd.R_lower ho0 (below_size (bZ HB))); replace BK1139 := bB BK1139 hb; replace HB := bS HB hb; (try clear hb); (try clear ho0); obtain ⟨Ao11, co11, eo11⟩ := Kd.R_slice HO1143.out; subst eo11) | (refine gC (some 8) Tryz.func83 #[.slice Ao11 t1141.length co11] ?_; (with_reducible refine (impl_RootOf.calls k _ _ t1141 t1144 _ ?side1 ?side2 (Kp.Tab.below HT.out (bZ HB)) A5.out).mono ?_); (case side1 => exact cP ((Kd.R_reads' HO1143.out).2.2)); (case side2 => exact (Kd.R_reads' HO1143.out).2.1); rintro e w12 ⟨rfl, hb⟩; refine ⟨_, rfl, ?_⟩; replace HO1143 := Aside0.mk (Kd.R_below (rP HO1143) hb); replace BK1139 := bB BK1139 hb; replace HB := bS HB hb; (try clear hb)))
  go_ret
  exact ⟨rR, bZ HB⟩
 ·replace c3 := Bool.eq_false_iff.mpr c3
  subst c3
  rw [if_neg (show ¬ (false = true) by decide)] at H
  obtain rfl := Option.some.inj H
  go_enter Tryz.func37, Tryz.ntmps37
  go_wp2_with (first | (refine gB 1 #[.slice A0_0 l0_0.length c0_0] 46 ?_; intro gb1139 hg w13 BK1139 hb; have GW1139 := bG HB hg; replace HB := bS HB hb; clear hb hg; obtain ⟨hcz14_0, hfz14_0⟩ := bK1 (w := w13) BK1139) | (refine gC (some 4) Tryz.func39 #[.agg #[.slice A0_0 l0_0.length c0_0]] ?_; (with_reducible refine (impl_CommitteeOk.calls k _ _ l0_0 false _ ?side1 ?side2 A2.out).mono ?_); (case side1 => exact cP (Kd.C_below HR0_0.out HB.out)); (case side2 => exact HC0_0.out); rintro e w15 ⟨rfl, hb⟩; refine ⟨_, rfl, ?_⟩; replace BK1139 := bB BK1139 hb; replace HB := bS HB hb; (try clear hb)))
  go_ret
  exact ⟨rR, bZ HB⟩
end Go.Proofs.YtkdmplfldfagnaaGreatDoor.Pf
end
