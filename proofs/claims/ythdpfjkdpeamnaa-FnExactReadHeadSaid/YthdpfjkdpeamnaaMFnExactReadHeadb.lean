/- What is proved here: part 2 of 2 of the proof of the given statement FnExactReadHead: the contracts of the Go functions that it reaches, the plain facts on lists and numbers, and (in the last part) the statement itself. No conditions beyond the given ones. -/
import Derived.Test.YthdpfjkdpeamnaaMFnExactReadHeada
import Derived.Test.YthdpfjkdpeamnaaRows
import Derived.WalkKit
import Derived.ProofKit
import Derived.OpenShut
import Derived.ShutString
import Derived.ChangeOld
import Derived.Below
import Derived.SizedLaws

section
namespace Go.Proofs.Ythdpfjkdpeamnaa.Pf
open Go.RowKit Go.Proofs.YthdpfjkdpeamnaaW.PrintWords Go.Proofs.YthdpfjkdpeamnaaW.PrintLast Go.Proofs.YthdpfjkdpeamnaaW.PrintMore
attribute [local go_sem] max2_int min2_int max_two min_two max_three min_three max_four min_four   -- for this text's walks alone
set_option linter.unusedVariables false
set_option linter.unusedSimpArgs false
/-! ### impl_ReadHead: function 33 -/
theorem impl_ReadHead.bP {w W : World} {g : Nat} {o : Obj} (B : Aside0 (w.heap[g]? = some o)) (h : Aside0 (w.heap[g]? = some o) → W.heap[g]? = some o := by intro hh_; (with_reducible repeat (first | exact hh_.out | refine blk_drewN ?_ _ | refine blk_drew ?_ | refine blk_alloc ?_ _ | refine blk_far ?_ (by refine Aside0.out ?_; assumption) _)); done) : W.heap[g]? = some o := h B
theorem impl_ReadHead.bZ {w W0 W : World} (B : Aside0 (Below w.heap.size w W0)) (h : Aside0 (Below w.heap.size w W0) → Below w.heap.size w W := by intro hh_; repeat (first | (with_reducible first | exact hh_.out | apply below_alloc | apply pw_below_drewN | apply below_drew1 | refine below_set ?_ (by refine Aside0.out ?_; assumption)) | exact hh_.out)) : Below w.heap.size w W := h B
theorem impl_ReadHead.bB {w w1 w2 : World} {g : Nat} {o : Obj} (B : Aside0 (w.heap[g]? = some o)) (hb : Below w1.heap.size w1 w2) (h : Aside0 (w.heap[g]? = some o) → w1.heap[g]? = some o := by intro hh_; (with_reducible repeat (first | exact hh_.out | refine blk_drewN ?_ _ | refine blk_drew ?_ | refine blk_alloc ?_ _ | refine blk_far ?_ (by refine Aside0.out ?_; assumption) _)); done) : Aside0 (w2.heap[g]? = some o) := ⟨blk_below (h B) hb⟩
theorem impl_ReadHead.bS {w W0 W w2 : World} (B : Aside0 (Below w.heap.size w W0)) (hb : Below W.heap.size W w2) (h : Aside0 (Below w.heap.size w W0) → Below w.heap.size w W := by intro hh_; repeat (first | (with_reducible first | exact hh_.out | apply below_alloc | apply pw_below_drewN | apply below_drew1 | refine below_set ?_ (by refine Aside0.out ?_; assumption)) | exact hh_.out)) : Aside0 (Below w.heap.size w w2) := ⟨below_step (h B) hb⟩
theorem impl_ReadHead.bG {w W0 W : World} {g : Nat} (B : Aside0 (Below w.heap.size w W0)) (hg : g = W.heap.size) (h : Aside0 (Below w.heap.size w W0) → Below w.heap.size w W := by intro hh_; repeat (first | (with_reducible first | exact hh_.out | apply below_alloc | apply pw_below_drewN | apply below_drew1 | refine below_set ?_ (by refine Aside0.out ?_; assumption)) | exact hh_.out)) : Aside0 (w.heap.size ≤ g) := ⟨by rw [hg]; exact below_size (h B)⟩
theorem impl_ReadHead.bL {w W : World} {g g' : Nat} {o : Obj} (B : Aside0 (w.heap[g]? = some o)) (hg : g' = W.heap.size) (h : Aside0 (w.heap[g]? = some o) → W.heap[g]? = some o := by intro hh_; (with_reducible repeat (first | exact hh_.out | refine blk_drewN ?_ _ | refine blk_drew ?_ | refine blk_alloc ?_ _ | refine blk_far ?_ (by refine Aside0.out ?_; assumption) _)); done) : Aside0 (g ≠ g') := ⟨by rw [hg]; exact Nat.ne_of_lt (blk_lt (h B))⟩
theorem impl_ReadHead.bR {w W : World} {g g' : Nat} {o : Obj} (B : Aside0 (w.heap[g]? = some o)) (hg : g' = W.heap.size) (h : Aside0 (w.heap[g]? = some o) → W.heap[g]? = some o := by intro hh_; (with_reducible repeat (first | exact hh_.out | refine blk_drewN ?_ _ | refine blk_drew ?_ | refine blk_alloc ?_ _ | refine blk_far ?_ (by refine Aside0.out ?_; assumption) _)); done) : Aside0 (g' ≠ g) := ⟨by rw [hg]; exact Nat.ne_of_gt (blk_lt (h B))⟩
theorem impl_ReadHead.bc {w : World} {g : Nat} {t : TypeId} {cs : Array Value} (B : Aside0 (w.heap[g]? = some (.cells cs t (0, 0)))) (i : Nat) {v : Value} (h : cs[i]? = some v := by rfl) : w.cell? ⟨g, i, none⟩ = some v := (blk_cell B.out i).trans h
def impl_ReadHead.f (k : Nat) (a0 : ByteArray) : Option (Int × ByteArray × ByteArray × ByteArray × Bool) := (impl_scanner_head.f k a0 0 false).bind fun s_ => ((impl_scanner_done.f s_.2.2.2.2.1 s_.2.2.2.2.2.1 s_.2.2.2.2.2.2).bind fun d_ => (if d_.1 = true then ((impl_HeadOk.f s_.1 s_.2.1 s_.2.2.1 s_.2.2.2.1).bind fun t_ => (if t_ = true then (some (s_.1, s_.2.1, s_.2.2.1, s_.2.2.2.1, true)) else (some (0, (⟨#[]⟩ : ByteArray), (⟨#[]⟩ : ByteArray), (⟨#[]⟩ : ByteArray), false)))) else (some (0, (⟨#[]⟩ : ByteArray), (⟨#[]⟩ : ByteArray), (⟨#[]⟩ : ByteArray), false))))
theorem impl_ReadHead.mono : ∀ a0 k, LeO (impl_ReadHead.f k a0) (impl_ReadHead.f (k + 1) a0) := by
  intro a0 k
  unfold impl_ReadHead.f
  refine LeO.bind (impl_scanner_head.mono _ _ _ _) (fun _ => LeO.refl _)
set_option maxHeartbeats 8000000 in
set_option maxRecDepth 100000 in
theorem impl_ReadHead.calls (k : Nat) (a0 : ByteArray) (r1 : Int) (r2 r3 r4 : ByteArray) (r5 : Bool) (w : World) (h : impl_ReadHead.f k a0 = some (r1, r2, r3, r4, r5)) :
    Calls Try.prog 33 #[.string a0] w fun e w' => e = .returned (.tuple #[.agg #[.int .i64 r1, .string r2, .string r3, .string r4], .bool r5]) ∧ Below w.heap.size w w' := by
  have hu28 := Try.underlying28
  have hu71 := Try.underlying71
  have HB := Aside0.mk (Below.refl w.heap.size w)
  unfold impl_ReadHead.f at h
  replace h := Option.bind_eq_some_iff.mp h
  obtain ⟨⟨t1, t2, t3, t4, t5, t6, t7⟩, A10, h⟩ := h
  replace h := Option.bind_eq_some_iff.mp h
  obtain ⟨⟨d1, d2, d3, d4⟩, A20, h⟩ := h
  have A1 := Aside0.mk A10
  have A2 := Aside0.mk A20
  clear A10 A20
  dsimp only at A2 h
  by_cases c : d1 = true
  · rw [if_pos c] at h
    subst c
    replace h := Option.bind_eq_some_iff.mp h
    obtain ⟨ok, A30, h⟩ := h
    have A3 := Aside0.mk A30
    clear A30
    by_cases c2 : ok = true
    · rw [if_pos c2] at h
      subst c2
      simp only [Option.some.injEq, Prod.mk.injEq] at h
      obtain ⟨rfl, rfl, rfl, rfl, rfl⟩ := h
      go_enter Try.func33, Try.ntmps33
      go_wp2_with (first | ((with_reducible refine gate_dst (N := 2) rfl ?_); refine box_event ?hg (N := 2) ?hd (cs := #[.int .i64 0, .string (⟨#[]⟩ : ByteArray), .string (⟨#[]⟩ : ByteArray), .string (⟨#[]⟩ : ByteArray)]) (t := 28) ?hr ?_; (case hd => rfl); (case hg => rfl); (case hr => first | (go_simp; done) | (go_simp; rfl)); intro gA hg w1 hbox hb; have BKA := Aside0.mk hbox; have GEA := impl_ReadHead.bG HB hg; replace HB := impl_ReadHead.bS HB hb; clear hb hbox hg) | ((with_reducible refine gate_dst (N := 4) rfl ?_); refine box_event ?hg (N := 4) ?hd (cs := #[.string (⟨#[]⟩ : ByteArray), .int .i64 0, .bool false]) (t := 71) ?hr ?_; (case hd => rfl); (case hg => rfl); (case hr => first | (go_simp; done) | (go_simp; rfl)); intro gS hg w2 hbox hb; have BKS := Aside0.mk hbox; have GES := impl_ReadHead.bG HB hg; have NBAS := impl_ReadHead.bL BKA hg; have NBSA := impl_ReadHead.bR BKA hg; replace BKA := impl_ReadHead.bB BKA hb; replace HB := impl_ReadHead.bS HB hb; have hzS0 := blk_frozen BKS.out 0; have hzS1 := blk_frozen BKS.out 1; have hzS2 := blk_frozen BKS.out 2; have hcS0 : w2.cell? ⟨gS, 0, none⟩ = some (.string (⟨#[]⟩ : ByteArray)) := impl_ReadHead.bc BKS 0; have hcS1 : w2.cell? ⟨gS, 1, none⟩ = some (.int .i64 0) := impl_ReadHead.bc BKS 1; have hcS2 : w2.cell? ⟨gS, 2, none⟩ = some (.bool false) := impl_ReadHead.bc BKS 2; clear hb hbox hg) | ((with_reducible refine gate_callee (f := 63) rfl ?_); refine goesL_ (some 8) rfl rfl Try.func63 (by kernel_rfl) rfl #[.pointer (some ⟨gS, 0, none⟩)] rfl (by (try simp only [List.map_toArray, List.map_cons, List.map_nil]); first | done | rfl) ?_; (with_reducible refine (impl_scanner_head.calls k gS a0 0 false t1 t2 t3 t4 t5 t6 t7 w _ ?side1 ?side2 A1.out).mono ?_); (case side1 => exact ⟨by (with_reducible repeat (first | refine blk_drewN ?_ _ | refine blk_drew ?_ | refine blk_alloc ?_ _)); refine blk_put (cs := #[.string a0, .int .i64 0, .bool false]) ?_ 2 _ rfl; (with_reducible repeat (first | refine blk_drewN ?_ _ | refine blk_drew ?_ | refine blk_alloc ?_ _)); refine blk_put (cs := #[.string a0, .int .i64 0, .bool false]) ?_ 1 _ rfl; (with_reducible repeat (first | refine blk_drewN ?_ _ | refine blk_drew ?_ | refine blk_alloc ?_ _)); refine blk_put (cs := #[.string (⟨#[]⟩ : ByteArray), .int .i64 0, .bool false]) ?_ 0 _ rfl; (with_reducible repeat (first | refine blk_drewN ?_ _ | refine blk_drew ?_ | refine blk_alloc ?_ _)); exact BKS.out, GES.out⟩); (case side2 => exact impl_ReadHead.bZ HB); rintro e w3 ⟨rfl, hI, hb2, hk⟩; refine ⟨_, rfl, ?_⟩; have HI := Aside0.mk hI; replace BKA := Aside0.mk ((hk.2 gA (blk_lt (impl_ReadHead.bP BKA)) NBAS.out (by simp)).trans (impl_ReadHead.bP BKA)); replace HB := Aside0.mk hb2; clear hI hk hb2) | ((with_reducible refine gate_dst (N := 5) rfl ?_); refine box_event ?hg (N := 5) ?hd (cs := #[.int .i64 0, .string (⟨#[]⟩ : ByteArray), .string (⟨#[]⟩ : ByteArray), .string (⟨#[]⟩ : ByteArray)]) (t := 28) ?hr ?_; (case hd => rfl); (case hg => rfl); (case hr => first | (go_simp; done) | (go_simp; rfl)); intro gH hg w4 hbox hb; have BKH := Aside0.mk hbox; have GEH := impl_ReadHead.bG HB hg; have NBAH := impl_ReadHead.bL BKA hg; have NBHA := impl_ReadHead.bR BKA hg; have NBSH := Aside0.mk (show gS ≠ gH by rw [hg]; exact Nat.ne_of_lt (IsS71.lt (by repeat (first | (with_reducible first | exact HI.out | apply IsS71.drewN | apply IsS71.drew) | exact HI.out)))); have NBHS := Aside0.mk (show gH ≠ gS from fun e_ => NBSH.out e_.symm); replace HI := Aside0.mk (IsS71.below (by repeat (first | (with_reducible first | exact HI.out | apply IsS71.drewN | apply IsS71.drew) | exact HI.out)) hb); replace BKA := impl_ReadHead.bB BKA hb; replace HB := impl_ReadHead.bS HB hb; have hzH0 := blk_frozen BKH.out 0; have hcH0 : w4.cell? ⟨gH, 0, none⟩ = some (.int .i64 0) := impl_ReadHead.bc BKH 0; have hzH1 := blk_frozen BKH.out 1; have hcH1 : w4.cell? ⟨gH, 1, none⟩ = some (.string (⟨#[]⟩ : ByteArray)) := impl_ReadHead.bc BKH 1; have hzH2 := blk_frozen BKH.out 2; have hcH2 : w4.cell? ⟨gH, 2, none⟩ = some (.string (⟨#[]⟩ : ByteArray)) := impl_ReadHead.bc BKH 2; have hzH3 := blk_frozen BKH.out 3; have hcH3 : w4.cell? ⟨gH, 3, none⟩ = some (.string (⟨#[]⟩ : ByteArray)) := impl_ReadHead.bc BKH 3; clear hb hbox hg) | ((with_reducible refine gate_callee (f := 64) rfl ?_); refine goesL_ (some 9) rfl rfl Try.func64 (by kernel_rfl) rfl #[.pointer (some ⟨gS, 0, none⟩)] rfl (by (try simp only [List.map_toArray, List.map_cons, List.map_nil]); first | done | rfl) ?_; (with_reducible refine (impl_scanner_done.calls gS t5 t6 t7 true d2 d3 d4 w _ ?side1 ?side2 A2.out).mono ?_); (case side1 => repeat (first | (with_reducible first | exact HI.out | apply IsS71.drewN | apply IsS71.drew | refine IsS71.far ?_ NBSH.out _) | exact HI.out)); (case side2 => exact impl_ReadHead.bZ HB); rintro e w5 ⟨rfl, hI, hb2, hk⟩; refine ⟨_, rfl, ?_⟩; replace BKA := Aside0.mk ((hk.2 gA (blk_lt (impl_ReadHead.bP BKA)) NBAS.out (by simp)).trans (impl_ReadHead.bP BKA)); replace BKH : Aside0 (w5.heap[gH]? = some (.cells #[.int .i64 t1, .string t2, .string t3, .string t4] 28 (0, 0))) := Aside0.mk ((hk.2 gH (blk_lt (o := .cells #[.int .i64 t1, .string t2, .string t3, .string t4] 28 (0, 0)) (by (with_reducible repeat (first | refine blk_drewN ?_ _ | refine blk_drew ?_ | refine blk_alloc ?_ _)); refine blk_put (cs := #[.int .i64 t1, .string t2, .string t3, .string (⟨#[]⟩ : ByteArray)]) ?_ 3 _ rfl; (with_reducible repeat (first | refine blk_drewN ?_ _ | refine blk_drew ?_ | refine blk_alloc ?_ _)); refine blk_put (cs := #[.int .i64 t1, .string t2, .string (⟨#[]⟩ : ByteArray), .string (⟨#[]⟩ : ByteArray)]) ?_ 2 _ rfl; (with_reducible repeat (first | refine blk_drewN ?_ _ | refine blk_drew ?_ | refine blk_alloc ?_ _)); refine blk_put (cs := #[.int .i64 t1, .string (⟨#[]⟩ : ByteArray), .string (⟨#[]⟩ : ByteArray), .string (⟨#[]⟩ : ByteArray)]) ?_ 1 _ rfl; (with_reducible repeat (first | refine blk_drewN ?_ _ | refine blk_drew ?_ | refine blk_alloc ?_ _)); refine blk_put (cs := #[.int .i64 0, .string (⟨#[]⟩ : ByteArray), .string (⟨#[]⟩ : ByteArray), .string (⟨#[]⟩ : ByteArray)]) ?_ 0 _ rfl; (with_reducible repeat (first | refine blk_drewN ?_ _ | refine blk_drew ?_ | refine blk_alloc ?_ _)); exact BKH.out)) NBHS.out (by simp)).trans (by (with_reducible repeat (first | refine blk_drewN ?_ _ | refine blk_drew ?_ | refine blk_alloc ?_ _)); refine blk_put (cs := #[.int .i64 t1, .string t2, .string t3, .string (⟨#[]⟩ : ByteArray)]) ?_ 3 _ rfl; (with_reducible repeat (first | refine blk_drewN ?_ _ | refine blk_drew ?_ | refine blk_alloc ?_ _)); refine blk_put (cs := #[.int .i64 t1, .string t2, .string (⟨#[]⟩ : ByteArray), .string (⟨#[]⟩ : ByteArray)]) ?_ 2 _ rfl; (with_reducible repeat (first | refine blk_drewN ?_ _ | refine blk_drew ?_ | refine blk_alloc ?_ _)); refine blk_put (cs := #[.int .i64 t1, .string (⟨#[]⟩ : ByteArray), .string (⟨#[]⟩ : ByteArray), .string (⟨#[]⟩ : ByteArray)]) ?_ 1 _ rfl; (with_reducible repeat (first | refine blk_drewN ?_ _ | refine blk_drew ?_ | refine blk_alloc ?_ _)); refine blk_put (cs := #[.int .i64 0, .string (⟨#[]⟩ : ByteArray), .string (⟨#[]⟩ : ByteArray), .string (⟨#[]⟩ : ByteArray)]) ?_ 0 _ rfl; (with_reducible repeat (first | refine blk_drewN ?_ _ | refine blk_drew ?_ | refine blk_alloc ?_ _)); exact BKH.out)); replace HB := Aside0.mk hb2; clear hI hk hb2; have hcq0 : w5.cell? ⟨gH, 0, none⟩ = some (.int .i64 t1) := impl_ReadHead.bc BKH 0; have hcq1 : w5.cell? ⟨gH, 1, none⟩ = some (.string t2) := impl_ReadHead.bc BKH 1; have hcq2 : w5.cell? ⟨gH, 2, none⟩ = some (.string t3) := impl_ReadHead.bc BKH 2; have hcq3 : w5.cell? ⟨gH, 3, none⟩ = some (.string t4) := impl_ReadHead.bc BKH 3; have hcp0 : w5.cell? ⟨gA, 0, none⟩ = some (.int .i64 0) := impl_ReadHead.bc BKA 0; have hzp0 := blk_frozen BKA.out 0; have hcp1 : w5.cell? ⟨gA, 1, none⟩ = some (.string (⟨#[]⟩ : ByteArray)) := impl_ReadHead.bc BKA 1; have hzp1 := blk_frozen BKA.out 1; have hcp2 : w5.cell? ⟨gA, 2, none⟩ = some (.string (⟨#[]⟩ : ByteArray)) := impl_ReadHead.bc BKA 2; have hzp2 := blk_frozen BKA.out 2; have hcp3 : w5.cell? ⟨gA, 3, none⟩ = some (.string (⟨#[]⟩ : ByteArray)) := impl_ReadHead.bc BKA 3; have hzp3 := blk_frozen BKA.out 3) | ((with_reducible refine (impl_HeadOk.calls t1 t2 t3 t4 true _ A3.out).mono ?_); rintro e w6 ⟨rfl, hb⟩; replace BKA := impl_ReadHead.bB BKA hb; replace BKH := impl_ReadHead.bB BKH hb; replace HB := impl_ReadHead.bS HB hb; clear hb; have hcr0 : w6.cell? ⟨gH, 0, none⟩ = some (.int .i64 t1) := impl_ReadHead.bc BKH 0; have hcr1 : w6.cell? ⟨gH, 1, none⟩ = some (.string t2) := impl_ReadHead.bc BKH 1; have hcr2 : w6.cell? ⟨gH, 2, none⟩ = some (.string t3) := impl_ReadHead.bc BKH 2; have hcr3 : w6.cell? ⟨gH, 3, none⟩ = some (.string t4) := impl_ReadHead.bc BKH 3; have hcs0 : w6.cell? ⟨gA, 0, none⟩ = some (.int .i64 0) := impl_ReadHead.bc BKA 0; have hzs0 := blk_frozen BKA.out 0; have hcs1 : w6.cell? ⟨gA, 1, none⟩ = some (.string (⟨#[]⟩ : ByteArray)) := impl_ReadHead.bc BKA 1; have hzs1 := blk_frozen BKA.out 1; have hcs2 : w6.cell? ⟨gA, 2, none⟩ = some (.string (⟨#[]⟩ : ByteArray)) := impl_ReadHead.bc BKA 2; have hzs2 := blk_frozen BKA.out 2; have hcs3 : w6.cell? ⟨gA, 3, none⟩ = some (.string (⟨#[]⟩ : ByteArray)) := impl_ReadHead.bc BKA 3; have hzs3 := blk_frozen BKA.out 3))
      refine bodyPost_ret (results_ct rfl _ _ gA 28 #[.int .i64 t1, .string t2, .string t3, .string t4] (0, 0) _ rfl (by (with_reducible repeat (first | refine blk_drewN ?_ _ | refine blk_drew ?_ | refine blk_alloc ?_ _)); refine blk_put (cs := #[.int .i64 t1, .string t2, .string t3, .string (⟨#[]⟩ : ByteArray)]) ?_ 3 _ rfl; (with_reducible repeat (first | refine blk_drewN ?_ _ | refine blk_drew ?_ | refine blk_alloc ?_ _)); refine blk_put (cs := #[.int .i64 t1, .string t2, .string (⟨#[]⟩ : ByteArray), .string (⟨#[]⟩ : ByteArray)]) ?_ 2 _ rfl; (with_reducible repeat (first | refine blk_drewN ?_ _ | refine blk_drew ?_ | refine blk_alloc ?_ _)); refine blk_put (cs := #[.int .i64 t1, .string (⟨#[]⟩ : ByteArray), .string (⟨#[]⟩ : ByteArray), .string (⟨#[]⟩ : ByteArray)]) ?_ 1 _ rfl; (with_reducible repeat (first | refine blk_drewN ?_ _ | refine blk_drew ?_ | refine blk_alloc ?_ _)); refine blk_put (cs := #[.int .i64 0, .string (⟨#[]⟩ : ByteArray), .string (⟨#[]⟩ : ByteArray), .string (⟨#[]⟩ : ByteArray)]) ?_ 0 _ rfl; (with_reducible repeat (first | refine blk_drewN ?_ _ | refine blk_drew ?_ | refine blk_alloc ?_ _)); exact BKA.out) Try.underlying28 rfl (by kernel_rfl)) rfl ?_
      exact ⟨rfl, impl_ReadHead.bZ HB⟩
    · rw [if_neg c2] at h
      replace c2 := Bool.eq_false_iff.mpr c2
      subst c2
      simp only [Option.some.injEq, Prod.mk.injEq] at h
      obtain ⟨rfl, rfl, rfl, rfl, rfl⟩ := h
      go_enter Try.func33, Try.ntmps33
      go_wp2_with (first | ((with_reducible refine gate_dst (N := 2) rfl ?_); refine box_event ?hg (N := 2) ?hd (cs := #[.int .i64 0, .string (⟨#[]⟩ : ByteArray), .string (⟨#[]⟩ : ByteArray), .string (⟨#[]⟩ : ByteArray)]) (t := 28) ?hr ?_; (case hd => rfl); (case hg => rfl); (case hr => first | (go_simp; done) | (go_simp; rfl)); intro gA hg w1 hbox hb; have BKA := Aside0.mk hbox; have GEA := impl_ReadHead.bG HB hg; replace HB := impl_ReadHead.bS HB hb; clear hb hbox hg) | ((with_reducible refine gate_dst (N := 4) rfl ?_); refine box_event ?hg (N := 4) ?hd (cs := #[.string (⟨#[]⟩ : ByteArray), .int .i64 0, .bool false]) (t := 71) ?hr ?_; (case hd => rfl); (case hg => rfl); (case hr => first | (go_simp; done) | (go_simp; rfl)); intro gS hg w2 hbox hb; have BKS := Aside0.mk hbox; have GES := impl_ReadHead.bG HB hg; have NBAS := impl_ReadHead.bL BKA hg; have NBSA := impl_ReadHead.bR BKA hg; replace BKA := impl_ReadHead.bB BKA hb; replace HB := impl_ReadHead.bS HB hb; have hzS0 := blk_frozen BKS.out 0; have hzS1 := blk_frozen BKS.out 1; have hzS2 := blk_frozen BKS.out 2; have hcS0 : w2.cell? ⟨gS, 0, none⟩ = some (.string (⟨#[]⟩ : ByteArray)) := impl_ReadHead.bc BKS 0; have hcS1 : w2.cell? ⟨gS, 1, none⟩ = some (.int .i64 0) := impl_ReadHead.bc BKS 1; have hcS2 : w2.cell? ⟨gS, 2, none⟩ = some (.bool false) := impl_ReadHead.bc BKS 2; clear hb hbox hg) | ((with_reducible refine gate_callee (f := 63) rfl ?_); refine goesL_ (some 8) rfl rfl Try.func63 (by kernel_rfl) rfl #[.pointer (some ⟨gS, 0, none⟩)] rfl (by (try simp only [List.map_toArray, List.map_cons, List.map_nil]); first | done | rfl) ?_; (with_reducible refine (impl_scanner_head.calls k gS a0 0 false t1 t2 t3 t4 t5 t6 t7 w _ ?side1 ?side2 A1.out).mono ?_); (case side1 => exact ⟨by (with_reducible repeat (first | refine blk_drewN ?_ _ | refine blk_drew ?_ | refine blk_alloc ?_ _)); refine blk_put (cs := #[.string a0, .int .i64 0, .bool false]) ?_ 2 _ rfl; (with_reducible repeat (first | refine blk_drewN ?_ _ | refine blk_drew ?_ | refine blk_alloc ?_ _)); refine blk_put (cs := #[.string a0, .int .i64 0, .bool false]) ?_ 1 _ rfl; (with_reducible repeat (first | refine blk_drewN ?_ _ | refine blk_drew ?_ | refine blk_alloc ?_ _)); refine blk_put (cs := #[.string (⟨#[]⟩ : ByteArray), .int .i64 0, .bool false]) ?_ 0 _ rfl; (with_reducible repeat (first | refine blk_drewN ?_ _ | refine blk_drew ?_ | refine blk_alloc ?_ _)); exact BKS.out, GES.out⟩); (case side2 => exact impl_ReadHead.bZ HB); rintro e w3 ⟨rfl, hI, hb2, hk⟩; refine ⟨_, rfl, ?_⟩; have HI := Aside0.mk hI; replace BKA := Aside0.mk ((hk.2 gA (blk_lt (impl_ReadHead.bP BKA)) NBAS.out (by simp)).trans (impl_ReadHead.bP BKA)); replace HB := Aside0.mk hb2; clear hI hk hb2) | ((with_reducible refine gate_dst (N := 5) rfl ?_); refine box_event ?hg (N := 5) ?hd (cs := #[.int .i64 0, .string (⟨#[]⟩ : ByteArray), .string (⟨#[]⟩ : ByteArray), .string (⟨#[]⟩ : ByteArray)]) (t := 28) ?hr ?_; (case hd => rfl); (case hg => rfl); (case hr => first | (go_simp; done) | (go_simp; rfl)); intro gH hg w4 hbox hb; have BKH := Aside0.mk hbox; have GEH := impl_ReadHead.bG HB hg; have NBAH := impl_ReadHead.bL BKA hg; have NBHA := impl_ReadHead.bR BKA hg; have NBSH := Aside0.mk (show gS ≠ gH by rw [hg]; exact Nat.ne_of_lt (IsS71.lt (by repeat (first | (with_reducible first | exact HI.out | apply IsS71.drewN | apply IsS71.drew) | exact HI.out)))); have NBHS := Aside0.mk (show gH ≠ gS from fun e_ => NBSH.out e_.symm); replace HI := Aside0.mk (IsS71.below (by repeat (first | (with_reducible first | exact HI.out | apply IsS71.drewN | apply IsS71.drew) | exact HI.out)) hb); replace BKA := impl_ReadHead.bB BKA hb; replace HB := impl_ReadHead.bS HB hb; have hzH0 := blk_frozen BKH.out 0; have hcH0 : w4.cell? ⟨gH, 0, none⟩ = some (.int .i64 0) := impl_ReadHead.bc BKH 0; have hzH1 := blk_frozen BKH.out 1; have hcH1 : w4.cell? ⟨gH, 1, none⟩ = some (.string (⟨#[]⟩ : ByteArray)) := impl_ReadHead.bc BKH 1; have hzH2 := blk_frozen BKH.out 2; have hcH2 : w4.cell? ⟨gH, 2, none⟩ = some (.string (⟨#[]⟩ : ByteArray)) := impl_ReadHead.bc BKH 2; have hzH3 := blk_frozen BKH.out 3; have hcH3 : w4.cell? ⟨gH, 3, none⟩ = some (.string (⟨#[]⟩ : ByteArray)) := impl_ReadHead.bc BKH 3; clear hb hbox hg) | ((with_reducible refine gate_callee (f := 64) rfl ?_); refine goesL_ (some 9) rfl rfl Try.func64 (by kernel_rfl) rfl #[.pointer (some ⟨gS, 0, none⟩)] rfl (by (try simp only [List.map_toArray, List.map_cons, List.map_nil]); first | done | rfl) ?_; (with_reducible refine (impl_scanner_done.calls gS t5 t6 t7 true d2 d3 d4 w _ ?side1 ?side2 A2.out).mono ?_); (case side1 => repeat (first | (with_reducible first | exact HI.out | apply IsS71.drewN | apply IsS71.drew | refine IsS71.far ?_ NBSH.out _) | exact HI.out)); (case side2 => exact impl_ReadHead.bZ HB); rintro e w5 ⟨rfl, hI, hb2, hk⟩; refine ⟨_, rfl, ?_⟩; replace BKA := Aside0.mk ((hk.2 gA (blk_lt (impl_ReadHead.bP BKA)) NBAS.out (by simp)).trans (impl_ReadHead.bP BKA)); replace BKH : Aside0 (w5.heap[gH]? = some (.cells #[.int .i64 t1, .string t2, .string t3, .string t4] 28 (0, 0))) := Aside0.mk ((hk.2 gH (blk_lt (o := .cells #[.int .i64 t1, .string t2, .string t3, .string t4] 28 (0, 0)) (by (with_reducible repeat (first | refine blk_drewN ?_ _ | refine blk_drew ?_ | refine blk_alloc ?_ _)); refine blk_put (cs := #[.int .i64 t1, .string t2, .string t3, .string (⟨#[]⟩ : ByteArray)]) ?_ 3 _ rfl; (with_reducible repeat (first | refine blk_drewN ?_ _ | refine blk_drew ?_ | refine blk_alloc ?_ _)); refine blk_put (cs := #[.int .i64 t1, .string t2, .string (⟨#[]⟩ : ByteArray), .string (⟨#[]⟩ : ByteArray)]) ?_ 2 _ rfl; (with_reducible repeat (first | refine blk_drewN ?_ _ | refine blk_drew ?_ | refine blk_alloc ?_ _)); refine blk_put (cs := #[.int .i64 t1, .string (⟨#[]⟩ : ByteArray), .string (⟨#[]⟩ : ByteArray), .string (⟨#[]⟩ : ByteArray)]) ?_ 1 _ rfl; (with_reducible repeat (first | refine blk_drewN ?_ _ | refine blk_drew ?_ | refine blk_alloc ?_ _)); refine blk_put (cs := #[.int .i64 0, .string (⟨#[]⟩ : ByteArray), .string (⟨#[]⟩ : ByteArray), .string (⟨#[]⟩ : ByteArray)]) ?_ 0 _ rfl; (with_reducible repeat (first | refine blk_drewN ?_ _ | refine blk_drew ?_ | refine blk_alloc ?_ _)); exact BKH.out)) NBHS.out (by simp)).trans (by (with_reducible repeat (first | refine blk_drewN ?_ _ | refine blk_drew ?_ | refine blk_alloc ?_ _)); refine blk_put (cs := #[.int .i64 t1, .string t2, .string t3, .string (⟨#[]⟩ : ByteArray)]) ?_ 3 _ rfl; (with_reducible repeat (first | refine blk_drewN ?_ _ | refine blk_drew ?_ | refine blk_alloc ?_ _)); refine blk_put (cs := #[.int .i64 t1, .string t2, .string (⟨#[]⟩ : ByteArray), .string (⟨#[]⟩ : ByteArray)]) ?_ 2 _ rfl; (with_reducible repeat (first | refine blk_drewN ?_ _ | refine blk_drew ?_ | refine blk_alloc ?_ _)); refine blk_put (cs := #[.int .i64 t1, .string (⟨#[]⟩ : ByteArray), .string (⟨#[]⟩ : ByteArray), .string (⟨#[]⟩ : ByteArray)]) ?_ 1 _ rfl; (with_reducible repeat (first | refine blk_drewN ?_ _ | refine blk_drew ?_ | refine blk_alloc ?_ _)); refine blk_put (cs := #[.int .i64 0, .string (⟨#[]⟩ : ByteArray), .string (⟨#[]⟩ : ByteArray), .string (⟨#[]⟩ : ByteArray)]) ?_ 0 _ rfl; (with_reducible repeat (first | refine blk_drewN ?_ _ | refine blk_drew ?_ | refine blk_alloc ?_ _)); exact BKH.out)); replace HB := Aside0.mk hb2; clear hI hk hb2; have hcq0 : w5.cell? ⟨gH, 0, none⟩ = some (.int .i64 t1) := impl_ReadHead.bc BKH 0; have hcq1 : w5.cell? ⟨gH, 1, none⟩ = some (.string t2) := impl_ReadHead.bc BKH 1; have hcq2 : w5.cell? ⟨gH, 2, none⟩ = some (.string t3) := impl_ReadHead.bc BKH 2; have hcq3 : w5.cell? ⟨gH, 3, none⟩ = some (.string t4) := impl_ReadHead.bc BKH 3; have hcp0 : w5.cell? ⟨gA, 0, none⟩ = some (.int .i64 0) := impl_ReadHead.bc BKA 0; have hzp0 := blk_frozen BKA.out 0; have hcp1 : w5.cell? ⟨gA, 1, none⟩ = some (.string (⟨#[]⟩ : ByteArray)) := impl_ReadHead.bc BKA 1; have hzp1 := blk_frozen BKA.out 1; have hcp2 : w5.cell? ⟨gA, 2, none⟩ = some (.string (⟨#[]⟩ : ByteArray)) := impl_ReadHead.bc BKA 2; have hzp2 := blk_frozen BKA.out 2; have hcp3 : w5.cell? ⟨gA, 3, none⟩ = some (.string (⟨#[]⟩ : ByteArray)) := impl_ReadHead.bc BKA 3; have hzp3 := blk_frozen BKA.out 3) | ((with_reducible refine (impl_HeadOk.calls t1 t2 t3 t4 false _ A3.out).mono ?_); rintro e w6 ⟨rfl, hb⟩; replace BKA := impl_ReadHead.bB BKA hb; replace BKH := impl_ReadHead.bB BKH hb; replace HB := impl_ReadHead.bS HB hb; clear hb; have hcr0 : w6.cell? ⟨gH, 0, none⟩ = some (.int .i64 t1) := impl_ReadHead.bc BKH 0; have hcr1 : w6.cell? ⟨gH, 1, none⟩ = some (.string t2) := impl_ReadHead.bc BKH 1; have hcr2 : w6.cell? ⟨gH, 2, none⟩ = some (.string t3) := impl_ReadHead.bc BKH 2; have hcr3 : w6.cell? ⟨gH, 3, none⟩ = some (.string t4) := impl_ReadHead.bc BKH 3; have hcs0 : w6.cell? ⟨gA, 0, none⟩ = some (.int .i64 0) := impl_ReadHead.bc BKA 0; have hzs0 := blk_frozen BKA.out 0; have hcs1 : w6.cell? ⟨gA, 1, none⟩ = some (.string (⟨#[]⟩ : ByteArray)) := impl_ReadHead.bc BKA 1; have hzs1 := blk_frozen BKA.out 1; have hcs2 : w6.cell? ⟨gA, 2, none⟩ = some (.string (⟨#[]⟩ : ByteArray)) := impl_ReadHead.bc BKA 2; have hzs2 := blk_frozen BKA.out 2; have hcs3 : w6.cell? ⟨gA, 3, none⟩ = some (.string (⟨#[]⟩ : ByteArray)) := impl_ReadHead.bc BKA 3; have hzs3 := blk_frozen BKA.out 3))
      refine bodyPost_ret (results_ct rfl _ _ gA 28 #[.int .i64 0, .string (⟨#[]⟩ : ByteArray), .string (⟨#[]⟩ : ByteArray), .string (⟨#[]⟩ : ByteArray)] (0, 0) _ rfl (by (with_reducible repeat (first | refine blk_drewN ?_ _ | refine blk_drew ?_ | refine blk_alloc ?_ _)); refine blk_put (cs := #[.int .i64 0, .string (⟨#[]⟩ : ByteArray), .string (⟨#[]⟩ : ByteArray), .string (⟨#[]⟩ : ByteArray)]) ?_ 3 _ rfl; (with_reducible repeat (first | refine blk_drewN ?_ _ | refine blk_drew ?_ | refine blk_alloc ?_ _)); refine blk_put (cs := #[.int .i64 0, .string (⟨#[]⟩ : ByteArray), .string (⟨#[]⟩ : ByteArray), .string (⟨#[]⟩ : ByteArray)]) ?_ 2 _ rfl; (with_reducible repeat (first | refine blk_drewN ?_ _ | refine blk_drew ?_ | refine blk_alloc ?_ _)); refine blk_put (cs := #[.int .i64 0, .string (⟨#[]⟩ : ByteArray), .string (⟨#[]⟩ : ByteArray), .string (⟨#[]⟩ : ByteArray)]) ?_ 1 _ rfl; (with_reducible repeat (first | refine blk_drewN ?_ _ | refine blk_drew ?_ | refine blk_alloc ?_ _)); refine blk_put (cs := #[.int .i64 0, .string (⟨#[]⟩ : ByteArray), .string (⟨#[]⟩ : ByteArray), .string (⟨#[]⟩ : ByteArray)]) ?_ 0 _ rfl; (with_reducible repeat (first | refine blk_drewN ?_ _ | refine blk_drew ?_ | refine blk_alloc ?_ _)); exact BKA.out) Try.underlying28 rfl (by kernel_rfl)) rfl ?_
      exact ⟨rfl, impl_ReadHead.bZ HB⟩
  · rw [if_neg c] at h
    replace c := Bool.eq_false_iff.mpr c
    subst c
    simp only [Option.some.injEq, Prod.mk.injEq] at h
    obtain ⟨rfl, rfl, rfl, rfl, rfl⟩ := h
    go_enter Try.func33, Try.ntmps33
    go_wp2_with (first | ((with_reducible refine gate_dst (N := 2) rfl ?_); refine box_event ?hg (N := 2) ?hd (cs := #[.int .i64 0, .string (⟨#[]⟩ : ByteArray), .string (⟨#[]⟩ : ByteArray), .string (⟨#[]⟩ : ByteArray)]) (t := 28) ?hr ?_; (case hd => rfl); (case hg => rfl); (case hr => first | (go_simp; done) | (go_simp; rfl)); intro gA hg w1 hbox hb; have BKA := Aside0.mk hbox; have GEA := impl_ReadHead.bG HB hg; replace HB := impl_ReadHead.bS HB hb; clear hb hbox hg) | ((with_reducible refine gate_dst (N := 4) rfl ?_); refine box_event ?hg (N := 4) ?hd (cs := #[.string (⟨#[]⟩ : ByteArray), .int .i64 0, .bool false]) (t := 71) ?hr ?_; (case hd => rfl); (case hg => rfl); (case hr => first | (go_simp; done) | (go_simp; rfl)); intro gS hg w2 hbox hb; have BKS := Aside0.mk hbox; have GES := impl_ReadHead.bG HB hg; have NBAS := impl_ReadHead.bL BKA hg; have NBSA := impl_ReadHead.bR BKA hg; replace BKA := impl_ReadHead.bB BKA hb; replace HB := impl_ReadHead.bS HB hb; have hzS0 := blk_frozen BKS.out 0; have hzS1 := blk_frozen BKS.out 1; have hzS2 := blk_frozen BKS.out 2; have hcS0 : w2.cell? ⟨gS, 0, none⟩ = some (.string (⟨#[]⟩ : ByteArray)) := impl_ReadHead.bc BKS 0; have hcS1 : w2.cell? ⟨gS, 1, none⟩ = some (.int .i64 0) := impl_ReadHead.bc BKS 1; have hcS2 : w2.cell? ⟨gS, 2, none⟩ = some (.bool false) := impl_ReadHead.bc BKS 2; clear hb hbox hg) | ((with_reducible refine gate_callee (f := 63) rfl ?_); refine goesL_ (some 8) rfl rfl Try.func63 (by kernel_rfl) rfl #[.pointer (some ⟨gS, 0, none⟩)] rfl (by (try simp only [List.map_toArray, List.map_cons, List.map_nil]); first | done | rfl) ?_; (with_reducible refine (impl_scanner_head.calls k gS a0 0 false t1 t2 t3 t4 t5 t6 t7 w _ ?side1 ?side2 A1.out).mono ?_); (case side1 => exact ⟨by (with_reducible repeat (first | refine blk_drewN ?_ _ | refine blk_drew ?_ | refine blk_alloc ?_ _)); refine blk_put (cs := #[.string a0, .int .i64 0, .bool false]) ?_ 2 _ rfl; (with_reducible repeat (first | refine blk_drewN ?_ _ | refine blk_drew ?_ | refine blk_alloc ?_ _)); refine blk_put (cs := #[.string a0, .int .i64 0, .bool false]) ?_ 1 _ rfl; (with_reducible repeat (first | refine blk_drewN ?_ _ | refine blk_drew ?_ | refine blk_alloc ?_ _)); refine blk_put (cs := #[.string (⟨#[]⟩ : ByteArray), .int .i64 0, .bool false]) ?_ 0 _ rfl; (with_reducible repeat (first | refine blk_drewN ?_ _ | refine blk_drew ?_ | refine blk_alloc ?_ _)); exact BKS.out, GES.out⟩); (case side2 => exact impl_ReadHead.bZ HB); rintro e w3 ⟨rfl, hI, hb2, hk⟩; refine ⟨_, rfl, ?_⟩; have HI := Aside0.mk hI; replace BKA := Aside0.mk ((hk.2 gA (blk_lt (impl_ReadHead.bP BKA)) NBAS.out (by simp)).trans (impl_ReadHead.bP BKA)); replace HB := Aside0.mk hb2; clear hI hk hb2) | ((with_reducible refine gate_dst (N := 5) rfl ?_); refine box_event ?hg (N := 5) ?hd (cs := #[.int .i64 0, .string (⟨#[]⟩ : ByteArray), .string (⟨#[]⟩ : ByteArray), .string (⟨#[]⟩ : ByteArray)]) (t := 28) ?hr ?_; (case hd => rfl); (case hg => rfl); (case hr => first | (go_simp; done) | (go_simp; rfl)); intro gH hg w4 hbox hb; have BKH := Aside0.mk hbox; have GEH := impl_ReadHead.bG HB hg; have NBAH := impl_ReadHead.bL BKA hg; have NBHA := impl_ReadHead.bR BKA hg; have NBSH := Aside0.mk (show gS ≠ gH by rw [hg]; exact Nat.ne_of_lt (IsS71.lt (by repeat (first | (with_reducible first | exact HI.out | apply IsS71.drewN | apply IsS71.drew) | exact HI.out)))); have NBHS := Aside0.mk (show gH ≠ gS from fun e_ => NBSH.out e_.symm); replace HI := Aside0.mk (IsS71.below (by repeat (first | (with_reducible first | exact HI.out | apply IsS71.drewN | apply IsS71.drew) | exact HI.out)) hb); replace BKA := impl_ReadHead.bB BKA hb; replace HB := impl_ReadHead.bS HB hb; have hzH0 := blk_frozen BKH.out 0; have hcH0 : w4.cell? ⟨gH, 0, none⟩ = some (.int .i64 0) := impl_ReadHead.bc BKH 0; have hzH1 := blk_frozen BKH.out 1; have hcH1 : w4.cell? ⟨gH, 1, none⟩ = some (.string (⟨#[]⟩ : ByteArray)) := impl_ReadHead.bc BKH 1; have hzH2 := blk_frozen BKH.out 2; have hcH2 : w4.cell? ⟨gH, 2, none⟩ = some (.string (⟨#[]⟩ : ByteArray)) := impl_ReadHead.bc BKH 2; have hzH3 := blk_frozen BKH.out 3; have hcH3 : w4.cell? ⟨gH, 3, none⟩ = some (.string (⟨#[]⟩ : ByteArray)) := impl_ReadHead.bc BKH 3; clear hb hbox hg) | ((with_reducible refine gate_callee (f := 64) rfl ?_); refine goesL_ (some 9) rfl rfl Try.func64 (by kernel_rfl) rfl #[.pointer (some ⟨gS, 0, none⟩)] rfl (by (try simp only [List.map_toArray, List.map_cons, List.map_nil]); first | done | rfl) ?_; (with_reducible refine (impl_scanner_done.calls gS t5 t6 t7 false d2 d3 d4 w _ ?side1 ?side2 A2.out).mono ?_); (case side1 => repeat (first | (with_reducible first | exact HI.out | apply IsS71.drewN | apply IsS71.drew | refine IsS71.far ?_ NBSH.out _) | exact HI.out)); (case side2 => exact impl_ReadHead.bZ HB); rintro e w5 ⟨rfl, hI, hb2, hk⟩; refine ⟨_, rfl, ?_⟩; replace BKA := Aside0.mk ((hk.2 gA (blk_lt (impl_ReadHead.bP BKA)) NBAS.out (by simp)).trans (impl_ReadHead.bP BKA)); replace BKH : Aside0 (w5.heap[gH]? = some (.cells #[.int .i64 t1, .string t2, .string t3, .string t4] 28 (0, 0))) := Aside0.mk ((hk.2 gH (blk_lt (o := .cells #[.int .i64 t1, .string t2, .string t3, .string t4] 28 (0, 0)) (by (with_reducible repeat (first | refine blk_drewN ?_ _ | refine blk_drew ?_ | refine blk_alloc ?_ _)); refine blk_put (cs := #[.int .i64 t1, .string t2, .string t3, .string (⟨#[]⟩ : ByteArray)]) ?_ 3 _ rfl; (with_reducible repeat (first | refine blk_drewN ?_ _ | refine blk_drew ?_ | refine blk_alloc ?_ _)); refine blk_put (cs := #[.int .i64 t1, .string t2, .string (⟨#[]⟩ : ByteArray), .string (⟨#[]⟩ : ByteArray)]) ?_ 2 _ rfl; (with_reducible repeat (first | refine blk_drewN ?_ _ | refine blk_drew ?_ | refine blk_alloc ?_ _)); refine blk_put (cs := #[.int .i64 t1, .string (⟨#[]⟩ : ByteArray), .string (⟨#[]⟩ : ByteArray), .string (⟨#[]⟩ : ByteArray)]) ?_ 1 _ rfl; (with_reducible repeat (first | refine blk_drewN ?_ _ | refine blk_drew ?_ | refine blk_alloc ?_ _)); refine blk_put (cs := #[.int .i64 0, .string (⟨#[]⟩ : ByteArray), .string (⟨#[]⟩ : ByteArray), .string (⟨#[]⟩ : ByteArray)]) ?_ 0 _ rfl; (with_reducible repeat (first | refine blk_drewN ?_ _ | refine blk_drew ?_ | refine blk_alloc ?_ _)); exact BKH.out)) NBHS.out (by simp)).trans (by (with_reducible repeat (first | refine blk_drewN ?_ _ | refine blk_drew ?_ | refine blk_alloc ?_ _)); refine blk_put (cs := #[.int .i64 t1, .string t2, .string t3, .string (⟨#[]⟩ : ByteArray)]) ?_ 3 _ rfl; (with_reducible repeat (first | refine blk_drewN ?_ _ | refine blk_drew ?_ | refine blk_alloc ?_ _)); refine blk_put (cs := #[.int .i64 t1, .string t2, .string (⟨#[]⟩ : ByteArray), .string (⟨#[]⟩ : ByteArray)]) ?_ 2 _ rfl; (with_reducible repeat (first | refine blk_drewN ?_ _ | refine blk_drew ?_ | refine blk_alloc ?_ _)); refine blk_put (cs := #[.int .i64 t1, .string (⟨#[]⟩ : ByteArray), .string (⟨#[]⟩ : ByteArray), .string (⟨#[]⟩ : ByteArray)]) ?_ 1 _ rfl; (with_reducible repeat (first | refine blk_drewN ?_ _ | refine blk_drew ?_ | refine blk_alloc ?_ _)); refine blk_put (cs := #[.int .i64 0, .string (⟨#[]⟩ : ByteArray), .string (⟨#[]⟩ : ByteArray), .string (⟨#[]⟩ : ByteArray)]) ?_ 0 _ rfl; (with_reducible repeat (first | refine blk_drewN ?_ _ | refine blk_drew ?_ | refine blk_alloc ?_ _)); exact BKH.out)); replace HB := Aside0.mk hb2; clear hI hk hb2; have hcq0 : w5.cell? ⟨gH, 0, none⟩ = some (.int .i64 t1) := impl_ReadHead.bc BKH 0; have hcq1 : w5.cell? ⟨gH, 1, none⟩ = some (.string t2) := impl_ReadHead.bc BKH 1; have hcq2 : w5.cell? ⟨gH, 2, none⟩ = some (.string t3) := impl_ReadHead.bc BKH 2; have hcq3 : w5.cell? ⟨gH, 3, none⟩ = some (.string t4) := impl_ReadHead.bc BKH 3; have hcp0 : w5.cell? ⟨gA, 0, none⟩ = some (.int .i64 0) := impl_ReadHead.bc BKA 0; have hzp0 := blk_frozen BKA.out 0; have hcp1 : w5.cell? ⟨gA, 1, none⟩ = some (.string (⟨#[]⟩ : ByteArray)) := impl_ReadHead.bc BKA 1; have hzp1 := blk_frozen BKA.out 1; have hcp2 : w5.cell? ⟨gA, 2, none⟩ = some (.string (⟨#[]⟩ : ByteArray)) := impl_ReadHead.bc BKA 2; have hzp2 := blk_frozen BKA.out 2; have hcp3 : w5.cell? ⟨gA, 3, none⟩ = some (.string (⟨#[]⟩ : ByteArray)) := impl_ReadHead.bc BKA 3; have hzp3 := blk_frozen BKA.out 3))
    refine bodyPost_ret (results_ct rfl _ _ gA 28 #[.int .i64 0, .string (⟨#[]⟩ : ByteArray), .string (⟨#[]⟩ : ByteArray), .string (⟨#[]⟩ : ByteArray)] (0, 0) _ rfl (by (with_reducible repeat (first | refine blk_drewN ?_ _ | refine blk_drew ?_ | refine blk_alloc ?_ _)); refine blk_put (cs := #[.int .i64 0, .string (⟨#[]⟩ : ByteArray), .string (⟨#[]⟩ : ByteArray), .string (⟨#[]⟩ : ByteArray)]) ?_ 3 _ rfl; (with_reducible repeat (first | refine blk_drewN ?_ _ | refine blk_drew ?_ | refine blk_alloc ?_ _)); refine blk_put (cs := #[.int .i64 0, .string (⟨#[]⟩ : ByteArray), .string (⟨#[]⟩ : ByteArray), .string (⟨#[]⟩ : ByteArray)]) ?_ 2 _ rfl; (with_reducible repeat (first | refine blk_drewN ?_ _ | refine blk_drew ?_ | refine blk_alloc ?_ _)); refine blk_put (cs := #[.int .i64 0, .string (⟨#[]⟩ : ByteArray), .string (⟨#[]⟩ : ByteArray), .string (⟨#[]⟩ : ByteArray)]) ?_ 1 _ rfl; (with_reducible repeat (first | refine blk_drewN ?_ _ | refine blk_drew ?_ | refine blk_alloc ?_ _)); refine blk_put (cs := #[.int .i64 0, .string (⟨#[]⟩ : ByteArray), .string (⟨#[]⟩ : ByteArray), .string (⟨#[]⟩ : ByteArray)]) ?_ 0 _ rfl; (with_reducible repeat (first | refine blk_drewN ?_ _ | refine blk_drew ?_ | refine blk_alloc ?_ _)); exact BKA.out) Try.underlying28 rfl (by kernel_rfl)) rfl ?_
    exact ⟨rfl, impl_ReadHead.bZ HB⟩
/-! ### laws_eqHead: function 34 -/
def laws_eqHead.f (a0_0 : Int) (a0_1 : ByteArray) (a0_2 : ByteArray) (a0_3 : ByteArray) (a1_0 : Int) (a1_1 : ByteArray) (a1_2 : ByteArray) (a1_3 : ByteArray) : Option (Bool) := if a0_0 = a1_0 then (if a0_1.toList = a1_1.toList then (if a0_2.toList = a1_2.toList then (if a0_3.toList = a1_3.toList then (some true) else (some false)) else (some false)) else (some false)) else (some false)
set_option maxHeartbeats 8000000 in
set_option maxRecDepth 100000 in
theorem laws_eqHead.calls (a0_0 : Int) (a0_1 : ByteArray) (a0_2 : ByteArray) (a0_3 : ByteArray) (a1_0 : Int) (a1_1 : ByteArray) (a1_2 : ByteArray) (a1_3 : ByteArray) (r : Bool) (w : World) (h : laws_eqHead.f a0_0 a0_1 a0_2 a0_3 a1_0 a1_1 a1_2 a1_3 = some r) :
    Calls Try.prog 34 #[.agg #[.int .i64 a0_0, .string a0_1, .string a0_2, .string a0_3], .agg #[.int .i64 a1_0, .string a1_1, .string a1_2, .string a1_3]] w fun e w' => e = .returned (.bool r) ∧ Below w.heap.size w w' := by
  have hu28 := Try.underlying28
  have HB := Aside0.mk (Below.refl w.heap.size w)
  have H : (if a0_0 = a1_0 then (if a0_1.toList = a1_1.toList then (if a0_2.toList = a1_2.toList then (if a0_3.toList = a1_3.toList then (some true) else (some false)) else (some false)) else (some false)) else (some false)) = some r := h
  clear h
  by_cases c3 : a0_0 = a1_0
  · rw [if_pos c3] at H
    have c3b0 : (a0_0 == a1_0) = true := beq_iff_eq.mpr c3
    have c3b1 : (a0_0 != a1_0) = false := bne_eq_false_iff_eq.mpr c3
    clear c3
    by_cases c4 : a0_1.toList = a1_1.toList
    · rw [if_pos c4] at H
      have c4b0 : (a0_1.toList == a1_1.toList) = true := beq_iff_eq.mpr c4
      have c4b1 : (a0_1.toList != a1_1.toList) = false := bne_eq_false_iff_eq.mpr c4
      clear c4
      by_cases c5 : a0_2.toList = a1_2.toList
      · rw [if_pos c5] at H
        have c5b0 : (a0_2.toList == a1_2.toList) = true := beq_iff_eq.mpr c5
        have c5b1 : (a0_2.toList != a1_2.toList) = false := bne_eq_false_iff_eq.mpr c5
        clear c5
        by_cases c6 : a0_3.toList = a1_3.toList
        · rw [if_pos c6] at H
          have c6b0 : (a0_3.toList == a1_3.toList) = true := beq_iff_eq.mpr c6
          have c6b1 : (a0_3.toList != a1_3.toList) = false := bne_eq_false_iff_eq.mpr c6
          clear c6
          obtain rfl := Option.some.inj H
          go_enter Try.func34, Try.ntmps34
          go_wp2_with (first | ((with_reducible refine gate_dst (N := 2) rfl ?_); refine box_event ?hg (N := 2) ?hd (cs := #[.int .i64 a0_0, .string a0_1, .string a0_2, .string a0_3]) (t := 28) ?hr ?_; (case hd => rfl); (case hg => rfl); (case hr => first | (go_simp; done) | (go_simp; rfl)); intro gb249 hg w7 hbox hb; have n0_ := Aside0.mk (below_step (by repeat (first | (with_reducible first | exact HB.out | apply below_alloc | apply pw_below_drewN | apply below_drew1) | exact HB.out)) hb); have n1_ := Aside0.mk (hbox); have n2_ := Aside0.mk ((by rw [hg]; exact (below_size (by repeat (first | (with_reducible first | exact HB.out | apply below_alloc | apply pw_below_drewN | apply below_drew1) | exact HB.out))) : w.heap.size ≤ gb249)); have n3_ := Aside0.mk ((by rw [hg]; exact (below_size (by repeat (first | (with_reducible first | exact HB.out | apply below_alloc | apply pw_below_drewN | apply below_drew1) | exact HB.out))) : w.heap.size ≤ gb249)); clear HB; have HB := n0_; have BK249 := n1_; have GW249 := n2_; have GE249 := n3_; clear n0_ n1_ n2_ n3_; clear hb hbox hg) | ((with_reducible refine gate_dst (N := 3) rfl ?_); refine box_event ?hg (N := 3) ?hd (cs := #[.int .i64 a1_0, .string a1_1, .string a1_2, .string a1_3]) (t := 28) ?hr ?_; (case hd => rfl); (case hg => rfl); (case hr => first | (go_simp; done) | (go_simp; rfl)); intro gb250 hg w8 hbox hb; have n0_ := Aside0.mk (blk_below (g := gb249) (o := .cells #[.int .i64 a0_0, .string a0_1, .string a0_2, .string a0_3] 28 (0, 0)) (by (with_reducible repeat (first | refine blk_drewN ?_ _ | refine blk_drew ?_ | refine blk_alloc ?_ _)); exact BK249.out) hb); have n1_ := Aside0.mk (below_step (by repeat (first | (with_reducible first | exact HB.out | apply below_alloc | apply pw_below_drewN | apply below_drew1 | refine below_set ?_ GE249.out) | exact HB.out)) hb); have n2_ := Aside0.mk (hbox); have n3_ := Aside0.mk ((by rw [hg]; exact (below_size (by repeat (first | (with_reducible first | exact HB.out | apply below_alloc | apply pw_below_drewN | apply below_drew1 | refine below_set ?_ GE249.out) | exact HB.out))) : w.heap.size ≤ gb250)); have n4_ := Aside0.mk ((by rw [hg]; exact (below_size (by repeat (first | (with_reducible first | exact HB.out | apply below_alloc | apply pw_below_drewN | apply below_drew1 | refine below_set ?_ GE249.out) | exact HB.out))) : w.heap.size ≤ gb250)); have n5_ := Aside0.mk ((by rw [hg]; exact Nat.ne_of_lt (blk_lt (g := gb249) (o := .cells #[.int .i64 a0_0, .string a0_1, .string a0_2, .string a0_3] 28 (0, 0)) (by (with_reducible repeat (first | refine blk_drewN ?_ _ | refine blk_drew ?_ | refine blk_alloc ?_ _)); exact BK249.out)) : gb249 ≠ gb250)); have n6_ := Aside0.mk ((by rw [hg]; exact Nat.ne_of_gt (blk_lt (g := gb249) (o := .cells #[.int .i64 a0_0, .string a0_1, .string a0_2, .string a0_3] 28 (0, 0)) (by (with_reducible repeat (first | refine blk_drewN ?_ _ | refine blk_drew ?_ | refine blk_alloc ?_ _)); exact BK249.out)) : gb250 ≠ gb249)); clear BK249; clear HB; have BK249 := n0_; have HB := n1_; have BK250 := n2_; have GW250 := n3_; have GE250 := n4_; have NB249_250 := n5_; have NB250_249 := n6_; clear n0_ n1_ n2_ n3_ n4_ n5_ n6_; clear hb hbox hg; have hnb9 := NB249_250.out; have hnc9 := NB250_249.out; have hcz10_0 : w8.cell? ⟨gb249, 0, none⟩ = some (.int .i64 a0_0) := (blk_cell BK249.out 0).trans rfl; have hcz10_1 : w8.cell? ⟨gb249, 1, none⟩ = some (.string a0_1) := (blk_cell BK249.out 1).trans rfl; have hcz10_2 : w8.cell? ⟨gb249, 2, none⟩ = some (.string a0_2) := (blk_cell BK249.out 2).trans rfl; have hcz10_3 : w8.cell? ⟨gb249, 3, none⟩ = some (.string a0_3) := (blk_cell BK249.out 3).trans rfl; have hfz10_0 := blk_frozen BK249.out 0; have hfz10_1 := blk_frozen BK249.out 1; have hfz10_2 := blk_frozen BK249.out 2; have hfz10_3 := blk_frozen BK249.out 3; have hcz11_0 : w8.cell? ⟨gb250, 0, none⟩ = some (.int .i64 a1_0) := (blk_cell BK250.out 0).trans rfl; have hcz11_1 : w8.cell? ⟨gb250, 1, none⟩ = some (.string a1_1) := (blk_cell BK250.out 1).trans rfl; have hcz11_2 : w8.cell? ⟨gb250, 2, none⟩ = some (.string a1_2) := (blk_cell BK250.out 2).trans rfl; have hcz11_3 : w8.cell? ⟨gb250, 3, none⟩ = some (.string a1_3) := (blk_cell BK250.out 3).trans rfl; have hfz11_0 := blk_frozen BK250.out 0; have hfz11_1 := blk_frozen BK250.out 1; have hfz11_2 := blk_frozen BK250.out 2; have hfz11_3 := blk_frozen BK250.out 3))
          go_ret
          exact ⟨by first | rfl | (simp [errW_none, errW_some] <;> rfl) | (simp [*, errW_none, errW_some] <;> rfl), by repeat (first | (with_reducible first | exact HB.out | apply below_alloc | apply pw_below_drewN | apply below_drew1 | refine below_set ?_ GE249.out | refine below_set ?_ GE250.out) | exact HB.out)⟩
        · rw [if_neg c6] at H
          have c6b0 : (a0_3.toList == a1_3.toList) = false := beq_eq_false_iff_ne.mpr c6
          have c6b1 : (a0_3.toList != a1_3.toList) = true := bne_iff_ne.mpr c6
          obtain rfl := Option.some.inj H
          go_enter Try.func34, Try.ntmps34
          go_wp2_with (first | ((with_reducible refine gate_dst (N := 2) rfl ?_); refine box_event ?hg (N := 2) ?hd (cs := #[.int .i64 a0_0, .string a0_1, .string a0_2, .string a0_3]) (t := 28) ?hr ?_; (case hd => rfl); (case hg => rfl); (case hr => first | (go_simp; done) | (go_simp; rfl)); intro gb249 hg w12 hbox hb; have n0_ := Aside0.mk (below_step (by repeat (first | (with_reducible first | exact HB.out | apply below_alloc | apply pw_below_drewN | apply below_drew1) | exact HB.out)) hb); have n1_ := Aside0.mk (hbox); have n2_ := Aside0.mk ((by rw [hg]; exact (below_size (by repeat (first | (with_reducible first | exact HB.out | apply below_alloc | apply pw_below_drewN | apply below_drew1) | exact HB.out))) : w.heap.size ≤ gb249)); have n3_ := Aside0.mk ((by rw [hg]; exact (below_size (by repeat (first | (with_reducible first | exact HB.out | apply below_alloc | apply pw_below_drewN | apply below_drew1) | exact HB.out))) : w.heap.size ≤ gb249)); clear HB; have HB := n0_; have BK249 := n1_; have GW249 := n2_; have GE249 := n3_; clear n0_ n1_ n2_ n3_; clear hb hbox hg) | ((with_reducible refine gate_dst (N := 3) rfl ?_); refine box_event ?hg (N := 3) ?hd (cs := #[.int .i64 a1_0, .string a1_1, .string a1_2, .string a1_3]) (t := 28) ?hr ?_; (case hd => rfl); (case hg => rfl); (case hr => first | (go_simp; done) | (go_simp; rfl)); intro gb250 hg w13 hbox hb; have n0_ := Aside0.mk (blk_below (g := gb249) (o := .cells #[.int .i64 a0_0, .string a0_1, .string a0_2, .string a0_3] 28 (0, 0)) (by (with_reducible repeat (first | refine blk_drewN ?_ _ | refine blk_drew ?_ | refine blk_alloc ?_ _)); exact BK249.out) hb); have n1_ := Aside0.mk (below_step (by repeat (first | (with_reducible first | exact HB.out | apply below_alloc | apply pw_below_drewN | apply below_drew1 | refine below_set ?_ GE249.out) | exact HB.out)) hb); have n2_ := Aside0.mk (hbox); have n3_ := Aside0.mk ((by rw [hg]; exact (below_size (by repeat (first | (with_reducible first | exact HB.out | apply below_alloc | apply pw_below_drewN | apply below_drew1 | refine below_set ?_ GE249.out) | exact HB.out))) : w.heap.size ≤ gb250)); have n4_ := Aside0.mk ((by rw [hg]; exact (below_size (by repeat (first | (with_reducible first | exact HB.out | apply below_alloc | apply pw_below_drewN | apply below_drew1 | refine below_set ?_ GE249.out) | exact HB.out))) : w.heap.size ≤ gb250)); have n5_ := Aside0.mk ((by rw [hg]; exact Nat.ne_of_lt (blk_lt (g := gb249) (o := .cells #[.int .i64 a0_0, .string a0_1, .string a0_2, .string a0_3] 28 (0, 0)) (by (with_reducible repeat (first | refine blk_drewN ?_ _ | refine blk_drew ?_ | refine blk_alloc ?_ _)); exact BK249.out)) : gb249 ≠ gb250)); have n6_ := Aside0.mk ((by rw [hg]; exact Nat.ne_of_gt (blk_lt (g := gb249) (o := .cells #[.int .i64 a0_0, .string a0_1, .string a0_2, .string a0_3] 28 (0, 0)) (by (with_reducible repeat (first | refine blk_drewN ?_ _ | refine blk_drew ?_ | refine blk_alloc ?_ _)); exact BK249.out)) : gb250 ≠ gb249)); clear BK249; clear HB; have BK249 := n0_; have HB := n1_; have BK250 := n2_; have GW250 := n3_; have GE250 := n4_; have NB249_250 := n5_; have NB250_249 := n6_; clear n0_ n1_ n2_ n3_ n4_ n5_ n6_; clear hb hbox hg; have hnb14 := NB249_250.out; have hnc14 := NB250_249.out; have hcz15_0 : w13.cell? ⟨gb249, 0, none⟩ = some (.int .i64 a0_0) := (blk_cell BK249.out 0).trans rfl; have hcz15_1 : w13.cell? ⟨gb249, 1, none⟩ = some (.string a0_1) := (blk_cell BK249.out 1).trans rfl; have hcz15_2 : w13.cell? ⟨gb249, 2, none⟩ = some (.string a0_2) := (blk_cell BK249.out 2).trans rfl; have hcz15_3 : w13.cell? ⟨gb249, 3, none⟩ = some (.string a0_3) := (blk_cell BK249.out 3).trans rfl; have hfz15_0 := blk_frozen BK249.out 0; have hfz15_1 := blk_frozen BK249.out 1; have hfz15_2 := blk_frozen BK249.out 2; have hfz15_3 := blk_frozen BK249.out 3; have hcz16_0 : w13.cell? ⟨gb250, 0, none⟩ = some (.int .i64 a1_0) := (blk_cell BK250.out 0).trans rfl; have hcz16_1 : w13.cell? ⟨gb250, 1, none⟩ = some (.string a1_1) := (blk_cell BK250.out 1).trans rfl; have hcz16_2 : w13.cell? ⟨gb250, 2, none⟩ = some (.string a1_2) := (blk_cell BK250.out 2).trans rfl; have hcz16_3 : w13.cell? ⟨gb250, 3, none⟩ = some (.string a1_3) := (blk_cell BK250.out 3).trans rfl; have hfz16_0 := blk_frozen BK250.out 0; have hfz16_1 := blk_frozen BK250.out 1; have hfz16_2 := blk_frozen BK250.out 2; have hfz16_3 := blk_frozen BK250.out 3))
          go_ret
          exact ⟨by first | rfl | (simp [errW_none, errW_some] <;> rfl) | (simp [*, errW_none, errW_some] <;> rfl), by repeat (first | (with_reducible first | exact HB.out | apply below_alloc | apply pw_below_drewN | apply below_drew1 | refine below_set ?_ GE249.out | refine below_set ?_ GE250.out) | exact HB.out)⟩
      · rw [if_neg c5] at H
        have c5b0 : (a0_2.toList == a1_2.toList) = false := beq_eq_false_iff_ne.mpr c5
        have c5b1 : (a0_2.toList != a1_2.toList) = true := bne_iff_ne.mpr c5
        obtain rfl := Option.some.inj H
        go_enter Try.func34, Try.ntmps34
        go_wp2_with (first | ((with_reducible refine gate_dst (N := 2) rfl ?_); refine box_event ?hg (N := 2) ?hd (cs := #[.int .i64 a0_0, .string a0_1, .string a0_2, .string a0_3]) (t := 28) ?hr ?_; (case hd => rfl); (case hg => rfl); (case hr => first | (go_simp; done) | (go_simp; rfl)); intro gb249 hg w17 hbox hb; have n0_ := Aside0.mk (below_step (by repeat (first | (with_reducible first | exact HB.out | apply below_alloc | apply pw_below_drewN | apply below_drew1) | exact HB.out)) hb); have n1_ := Aside0.mk (hbox); have n2_ := Aside0.mk ((by rw [hg]; exact (below_size (by repeat (first | (with_reducible first | exact HB.out | apply below_alloc | apply pw_below_drewN | apply below_drew1) | exact HB.out))) : w.heap.size ≤ gb249)); have n3_ := Aside0.mk ((by rw [hg]; exact (below_size (by repeat (first | (with_reducible first | exact HB.out | apply below_alloc | apply pw_below_drewN | apply below_drew1) | exact HB.out))) : w.heap.size ≤ gb249)); clear HB; have HB := n0_; have BK249 := n1_; have GW249 := n2_; have GE249 := n3_; clear n0_ n1_ n2_ n3_; clear hb hbox hg) | ((with_reducible refine gate_dst (N := 3) rfl ?_); refine box_event ?hg (N := 3) ?hd (cs := #[.int .i64 a1_0, .string a1_1, .string a1_2, .string a1_3]) (t := 28) ?hr ?_; (case hd => rfl); (case hg => rfl); (case hr => first | (go_simp; done) | (go_simp; rfl)); intro gb250 hg w18 hbox hb; have n0_ := Aside0.mk (blk_below (g := gb249) (o := .cells #[.int .i64 a0_0, .string a0_1, .string a0_2, .string a0_3] 28 (0, 0)) (by (with_reducible repeat (first | refine blk_drewN ?_ _ | refine blk_drew ?_ | refine blk_alloc ?_ _)); exact BK249.out) hb); have n1_ := Aside0.mk (below_step (by repeat (first | (with_reducible first | exact HB.out | apply below_alloc | apply pw_below_drewN | apply below_drew1 | refine below_set ?_ GE249.out) | exact HB.out)) hb); have n2_ := Aside0.mk (hbox); have n3_ := Aside0.mk ((by rw [hg]; exact (below_size (by repeat (first | (with_reducible first | exact HB.out | apply below_alloc | apply pw_below_drewN | apply below_drew1 | refine below_set ?_ GE249.out) | exact HB.out))) : w.heap.size ≤ gb250)); have n4_ := Aside0.mk ((by rw [hg]; exact (below_size (by repeat (first | (with_reducible first | exact HB.out | apply below_alloc | apply pw_below_drewN | apply below_drew1 | refine below_set ?_ GE249.out) | exact HB.out))) : w.heap.size ≤ gb250)); have n5_ := Aside0.mk ((by rw [hg]; exact Nat.ne_of_lt (blk_lt (g := gb249) (o := .cells #[.int .i64 a0_0, .string a0_1, .string a0_2, .string a0_3] 28 (0, 0)) (by (with_reducible repeat (first | refine blk_drewN ?_ _ | refine blk_drew ?_ | refine blk_alloc ?_ _)); exact BK249.out)) : gb249 ≠ gb250)); have n6_ := Aside0.mk ((by rw [hg]; exact Nat.ne_of_gt (blk_lt (g := gb249) (o := .cells #[.int .i64 a0_0, .string a0_1, .string a0_2, .string a0_3] 28 (0, 0)) (by (with_reducible repeat (first | refine blk_drewN ?_ _ | refine blk_drew ?_ | refine blk_alloc ?_ _)); exact BK249.out)) : gb250 ≠ gb249)); clear BK249; clear HB; have BK249 := n0_; have HB := n1_; have BK250 := n2_; have GW250 := n3_; have GE250 := n4_; have NB249_250 := n5_; have NB250_249 := n6_; clear n0_ n1_ n2_ n3_ n4_ n5_ n6_; clear hb hbox hg; have hnb19 := NB249_250.out; have hnc19 := NB250_249.out; have hcz20_0 : w18.cell? ⟨gb249, 0, none⟩ = some (.int .i64 a0_0) := (blk_cell BK249.out 0).trans rfl; have hcz20_1 : w18.cell? ⟨gb249, 1, none⟩ = some (.string a0_1) := (blk_cell BK249.out 1).trans rfl; have hcz20_2 : w18.cell? ⟨gb249, 2, none⟩ = some (.string a0_2) := (blk_cell BK249.out 2).trans rfl; have hcz20_3 : w18.cell? ⟨gb249, 3, none⟩ = some (.string a0_3) := (blk_cell BK249.out 3).trans rfl; have hfz20_0 := blk_frozen BK249.out 0; have hfz20_1 := blk_frozen BK249.out 1; have hfz20_2 := blk_frozen BK249.out 2; have hfz20_3 := blk_frozen BK249.out 3; have hcz21_0 : w18.cell? ⟨gb250, 0, none⟩ = some (.int .i64 a1_0) := (blk_cell BK250.out 0).trans rfl; have hcz21_1 : w18.cell? ⟨gb250, 1, none⟩ = some (.string a1_1) := (blk_cell BK250.out 1).trans rfl; have hcz21_2 : w18.cell? ⟨gb250, 2, none⟩ = some (.string a1_2) := (blk_cell BK250.out 2).trans rfl; have hcz21_3 : w18.cell? ⟨gb250, 3, none⟩ = some (.string a1_3) := (blk_cell BK250.out 3).trans rfl; have hfz21_0 := blk_frozen BK250.out 0; have hfz21_1 := blk_frozen BK250.out 1; have hfz21_2 := blk_frozen BK250.out 2; have hfz21_3 := blk_frozen BK250.out 3))
        go_ret
        exact ⟨by first | rfl | (simp [errW_none, errW_some] <;> rfl) | (simp [*, errW_none, errW_some] <;> rfl), by repeat (first | (with_reducible first | exact HB.out | apply below_alloc | apply pw_below_drewN | apply below_drew1 | refine below_set ?_ GE249.out | refine below_set ?_ GE250.out) | exact HB.out)⟩
    · rw [if_neg c4] at H
      have c4b0 : (a0_1.toList == a1_1.toList) = false := beq_eq_false_iff_ne.mpr c4
      have c4b1 : (a0_1.toList != a1_1.toList) = true := bne_iff_ne.mpr c4
      obtain rfl := Option.some.inj H
      go_enter Try.func34, Try.ntmps34
      go_wp2_with (first | ((with_reducible refine gate_dst (N := 2) rfl ?_); refine box_event ?hg (N := 2) ?hd (cs := #[.int .i64 a0_0, .string a0_1, .string a0_2, .string a0_3]) (t := 28) ?hr ?_; (case hd => rfl); (case hg => rfl); (case hr => first | (go_simp; done) | (go_simp; rfl)); intro gb249 hg w22 hbox hb; have n0_ := Aside0.mk (below_step (by repeat (first | (with_reducible first | exact HB.out | apply below_alloc | apply pw_below_drewN | apply below_drew1) | exact HB.out)) hb); have n1_ := Aside0.mk (hbox); have n2_ := Aside0.mk ((by rw [hg]; exact (below_size (by repeat (first | (with_reducible first | exact HB.out | apply below_alloc | apply pw_below_drewN | apply below_drew1) | exact HB.out))) : w.heap.size ≤ gb249)); have n3_ := Aside0.mk ((by rw [hg]; exact (below_size (by repeat (first | (with_reducible first | exact HB.out | apply below_alloc | apply pw_below_drewN | apply below_drew1) | exact HB.out))) : w.heap.size ≤ gb249)); clear HB; have HB := n0_; have BK249 := n1_; have GW249 := n2_; have GE249 := n3_; clear n0_ n1_ n2_ n3_; clear hb hbox hg) | ((with_reducible refine gate_dst (N := 3) rfl ?_); refine box_event ?hg (N := 3) ?hd (cs := #[.int .i64 a1_0, .string a1_1, .string a1_2, .string a1_3]) (t := 28) ?hr ?_; (case hd => rfl); (case hg => rfl); (case hr => first | (go_simp; done) | (go_simp; rfl)); intro gb250 hg w23 hbox hb; have n0_ := Aside0.mk (blk_below (g := gb249) (o := .cells #[.int .i64 a0_0, .string a0_1, .string a0_2, .string a0_3] 28 (0, 0)) (by (with_reducible repeat (first | refine blk_drewN ?_ _ | refine blk_drew ?_ | refine blk_alloc ?_ _)); exact BK249.out) hb); have n1_ := Aside0.mk (below_step (by repeat (first | (with_reducible first | exact HB.out | apply below_alloc | apply pw_below_drewN | apply below_drew1 | refine below_set ?_ GE249.out) | exact HB.out)) hb); have n2_ := Aside0.mk (hbox); have n3_ := Aside0.mk ((by rw [hg]; exact (below_size (by repeat (first | (with_reducible first | exact HB.out | apply below_alloc | apply pw_below_drewN | apply below_drew1 | refine below_set ?_ GE249.out) | exact HB.out))) : w.heap.size ≤ gb250)); have n4_ := Aside0.mk ((by rw [hg]; exact (below_size (by repeat (first | (with_reducible first | exact HB.out | apply below_alloc | apply pw_below_drewN | apply below_drew1 | refine below_set ?_ GE249.out) | exact HB.out))) : w.heap.size ≤ gb250)); have n5_ := Aside0.mk ((by rw [hg]; exact Nat.ne_of_lt (blk_lt (g := gb249) (o := .cells #[.int .i64 a0_0, .string a0_1, .string a0_2, .string a0_3] 28 (0, 0)) (by (with_reducible repeat (first | refine blk_drewN ?_ _ | refine blk_drew ?_ | refine blk_alloc ?_ _)); exact BK249.out)) : gb249 ≠ gb250)); have n6_ := Aside0.mk ((by rw [hg]; exact Nat.ne_of_gt (blk_lt (g := gb249) (o := .cells #[.int .i64 a0_0, .string a0_1, .string a0_2, .string a0_3] 28 (0, 0)) (by (with_reducible repeat (first | refine blk_drewN ?_ _ | refine blk_drew ?_ | refine blk_alloc ?_ _)); exact BK249.out)) : gb250 ≠ gb249)); clear BK249; clear HB; have BK249 := n0_; have HB := n1_; have BK250 := n2_; have GW250 := n3_; have GE250 := n4_; have NB249_250 := n5_; have NB250_249 := n6_; clear n0_ n1_ n2_ n3_ n4_ n5_ n6_; clear hb hbox hg; have hnb24 := NB249_250.out; have hnc24 := NB250_249.out; have hcz25_0 : w23.cell? ⟨gb249, 0, none⟩ = some (.int .i64 a0_0) := (blk_cell BK249.out 0).trans rfl; have hcz25_1 : w23.cell? ⟨gb249, 1, none⟩ = some (.string a0_1) := (blk_cell BK249.out 1).trans rfl; have hcz25_2 : w23.cell? ⟨gb249, 2, none⟩ = some (.string a0_2) := (blk_cell BK249.out 2).trans rfl; have hcz25_3 : w23.cell? ⟨gb249, 3, none⟩ = some (.string a0_3) := (blk_cell BK249.out 3).trans rfl; have hfz25_0 := blk_frozen BK249.out 0; have hfz25_1 := blk_frozen BK249.out 1; have hfz25_2 := blk_frozen BK249.out 2; have hfz25_3 := blk_frozen BK249.out 3; have hcz26_0 : w23.cell? ⟨gb250, 0, none⟩ = some (.int .i64 a1_0) := (blk_cell BK250.out 0).trans rfl; have hcz26_1 : w23.cell? ⟨gb250, 1, none⟩ = some (.string a1_1) := (blk_cell BK250.out 1).trans rfl; have hcz26_2 : w23.cell? ⟨gb250, 2, none⟩ = some (.string a1_2) := (blk_cell BK250.out 2).trans rfl; have hcz26_3 : w23.cell? ⟨gb250, 3, none⟩ = some (.string a1_3) := (blk_cell BK250.out 3).trans rfl; have hfz26_0 := blk_frozen BK250.out 0; have hfz26_1 := blk_frozen BK250.out 1; have hfz26_2 := blk_frozen BK250.out 2; have hfz26_3 := blk_frozen BK250.out 3))
      go_ret
      exact ⟨by first | rfl | (simp [errW_none, errW_some] <;> rfl) | (simp [*, errW_none, errW_some] <;> rfl), by repeat (first | (with_reducible first | exact HB.out | apply below_alloc | apply pw_below_drewN | apply below_drew1 | refine below_set ?_ GE249.out | refine below_set ?_ GE250.out) | exact HB.out)⟩
  · rw [if_neg c3] at H
    have c3b0 : (a0_0 == a1_0) = false := beq_eq_false_iff_ne.mpr c3
    have c3b1 : (a0_0 != a1_0) = true := bne_iff_ne.mpr c3
    obtain rfl := Option.some.inj H
    go_enter Try.func34, Try.ntmps34
    go_wp2_with (first | ((with_reducible refine gate_dst (N := 2) rfl ?_); refine box_event ?hg (N := 2) ?hd (cs := #[.int .i64 a0_0, .string a0_1, .string a0_2, .string a0_3]) (t := 28) ?hr ?_; (case hd => rfl); (case hg => rfl); (case hr => first | (go_simp; done) | (go_simp; rfl)); intro gb249 hg w27 hbox hb; have n0_ := Aside0.mk (below_step (by repeat (first | (with_reducible first | exact HB.out | apply below_alloc | apply pw_below_drewN | apply below_drew1) | exact HB.out)) hb); have n1_ := Aside0.mk (hbox); have n2_ := Aside0.mk ((by rw [hg]; exact (below_size (by repeat (first | (with_reducible first | exact HB.out | apply below_alloc | apply pw_below_drewN | apply below_drew1) | exact HB.out))) : w.heap.size ≤ gb249)); have n3_ := Aside0.mk ((by rw [hg]; exact (below_size (by repeat (first | (with_reducible first | exact HB.out | apply below_alloc | apply pw_below_drewN | apply below_drew1) | exact HB.out))) : w.heap.size ≤ gb249)); clear HB; have HB := n0_; have BK249 := n1_; have GW249 := n2_; have GE249 := n3_; clear n0_ n1_ n2_ n3_; clear hb hbox hg) | ((with_reducible refine gate_dst (N := 3) rfl ?_); refine box_event ?hg (N := 3) ?hd (cs := #[.int .i64 a1_0, .string a1_1, .string a1_2, .string a1_3]) (t := 28) ?hr ?_; (case hd => rfl); (case hg => rfl); (case hr => first | (go_simp; done) | (go_simp; rfl)); intro gb250 hg w28 hbox hb; have n0_ := Aside0.mk (blk_below (g := gb249) (o := .cells #[.int .i64 a0_0, .string a0_1, .string a0_2, .string a0_3] 28 (0, 0)) (by (with_reducible repeat (first | refine blk_drewN ?_ _ | refine blk_drew ?_ | refine blk_alloc ?_ _)); exact BK249.out) hb); have n1_ := Aside0.mk (below_step (by repeat (first | (with_reducible first | exact HB.out | apply below_alloc | apply pw_below_drewN | apply below_drew1 | refine below_set ?_ GE249.out) | exact HB.out)) hb); have n2_ := Aside0.mk (hbox); have n3_ := Aside0.mk ((by rw [hg]; exact (below_size (by repeat (first | (with_reducible first | exact HB.out | apply below_alloc | apply pw_below_drewN | apply below_drew1 | refine below_set ?_ GE249.out) | exact HB.out))) : w.heap.size ≤ gb250)); have n4_ := Aside0.mk ((by rw [hg]; exact (below_size (by repeat (first | (with_reducible first | exact HB.out | apply below_alloc | apply pw_below_drewN | apply below_drew1 | refine below_set ?_ GE249.out) | exact HB.out))) : w.heap.size ≤ gb250)); have n5_ := Aside0.mk ((by rw [hg]; exact Nat.ne_of_lt (blk_lt (g := gb249) (o := .cells #[.int .i64 a0_0, .string a0_1, .string a0_2, .string a0_3] 28 (0, 0)) (by (with_reducible repeat (first | refine blk_drewN ?_ _ | refine blk_drew ?_ | refine blk_alloc ?_ _)); exact BK249.out)) : gb249 ≠ gb250)); have n6_ := Aside0.mk ((by rw [hg]; exact Nat.ne_of_gt (blk_lt (g := gb249) (o := .cells #[.int .i64 a0_0, .string a0_1, .string a0_2, .string a0_3] 28 (0, 0)) (by (with_reducible repeat (first | refine blk_drewN ?_ _ | refine blk_drew ?_ | refine blk_alloc ?_ _)); exact BK249.out)) : gb250 ≠ gb249)); clear BK249; clear HB; have BK249 := n0_; have HB := n1_; have BK250 := n2_; have GW250 := n3_; have GE250 := n4_; have NB249_250 := n5_; have NB250_249 := n6_; clear n0_ n1_ n2_ n3_ n4_ n5_ n6_; clear hb hbox hg; have hnb29 := NB249_250.out; have hnc29 := NB250_249.out; have hcz30_0 : w28.cell? ⟨gb249, 0, none⟩ = some (.int .i64 a0_0) := (blk_cell BK249.out 0).trans rfl; have hcz30_1 : w28.cell? ⟨gb249, 1, none⟩ = some (.string a0_1) := (blk_cell BK249.out 1).trans rfl; have hcz30_2 : w28.cell? ⟨gb249, 2, none⟩ = some (.string a0_2) := (blk_cell BK249.out 2).trans rfl; have hcz30_3 : w28.cell? ⟨gb249, 3, none⟩ = some (.string a0_3) := (blk_cell BK249.out 3).trans rfl; have hfz30_0 := blk_frozen BK249.out 0; have hfz30_1 := blk_frozen BK249.out 1; have hfz30_2 := blk_frozen BK249.out 2; have hfz30_3 := blk_frozen BK249.out 3; have hcz31_0 : w28.cell? ⟨gb250, 0, none⟩ = some (.int .i64 a1_0) := (blk_cell BK250.out 0).trans rfl; have hcz31_1 : w28.cell? ⟨gb250, 1, none⟩ = some (.string a1_1) := (blk_cell BK250.out 1).trans rfl; have hcz31_2 : w28.cell? ⟨gb250, 2, none⟩ = some (.string a1_2) := (blk_cell BK250.out 2).trans rfl; have hcz31_3 : w28.cell? ⟨gb250, 3, none⟩ = some (.string a1_3) := (blk_cell BK250.out 3).trans rfl; have hfz31_0 := blk_frozen BK250.out 0; have hfz31_1 := blk_frozen BK250.out 1; have hfz31_2 := blk_frozen BK250.out 2; have hfz31_3 := blk_frozen BK250.out 3))
    go_ret
    exact ⟨by first | rfl | (simp [errW_none, errW_some] <;> rfl) | (simp [*, errW_none, errW_some] <;> rfl), by repeat (first | (with_reducible first | exact HB.out | apply below_alloc | apply pw_below_drewN | apply below_drew1 | refine below_set ?_ GE249.out | refine below_set ?_ GE250.out) | exact HB.out)⟩
/-! ### laws_FnExactReadHead: function 9 -/
def laws_FnExactReadHead.f (k : Nat) (a0 : ByteArray) : Option (Bool) := if (a0.size : Int) > 1048576 then (some true) else ((spec_ReadHead.f k a0).bind fun bt251 => ((impl_ReadHead.f k a0).bind fun bt257 => ((laws_eqHead.f bt257.1 bt257.2.1 bt257.2.2.1 bt257.2.2.2.1 bt251.1 bt251.2.1 bt251.2.2.1 bt251.2.2.2.1).bind fun t263 => (if t263 = true then (if (bt257.2.2.2.2 != bt251.2.2.2.2) = true then (some false) else (some true)) else (some false)))))
theorem laws_FnExactReadHead.mono : ∀ a0 k, LeO (laws_FnExactReadHead.f k a0) (laws_FnExactReadHead.f (k + 1) a0) := by
  intro a0 k
  unfold laws_FnExactReadHead.f
  repeat' first
      | (with_reducible exact impl_ReadHead.mono _ _)
      | (with_reducible exact spec_ReadHead.mono _ _)
      | (with_reducible exact LeO.refl _)
      | (with_reducible exact LeO.none _)
      | (with_reducible refine LeO.ite ?_ ?_)
      | (with_reducible refine LeO.bind ?_ (fun _ => ?_))
      | exact impl_ReadHead.mono _ _
      | exact spec_ReadHead.mono _ _
      | exact LeO.none _
      | refine LeO.ite ?_ ?_
      | refine LeO.bind ?_ (fun _ => ?_)
set_option maxHeartbeats 8000000 in
set_option maxRecDepth 100000 in
theorem laws_FnExactReadHead.calls (k : Nat) (a0 : ByteArray) (r : Bool) (w : World) (htrue : Aside0 (r = true)) (h : laws_FnExactReadHead.f k a0 = some r) :
    Calls Try.prog 9 #[.string a0] w fun e w' => e = .returned (.bool r) ∧ Below w.heap.size w w' := by
  have hu28 := Try.underlying28
  have HB := Aside0.mk (Below.refl w.heap.size w)
  have H : (if (a0.size : Int) > 1048576 then (some true) else ((spec_ReadHead.f k a0).bind fun bt251 => ((impl_ReadHead.f k a0).bind fun bt257 => ((laws_eqHead.f bt257.1 bt257.2.1 bt257.2.2.1 bt257.2.2.2.1 bt251.1 bt251.2.1 bt251.2.2.1 bt251.2.2.2.1).bind fun t263 => (if t263 = true then (if (bt257.2.2.2.2 != bt251.2.2.2.2) = true then (some false) else (some true)) else (some false)))))) = some r := h
  clear h
  by_cases c2 : (a0.size : Int) > 1048576
  · rw [if_pos c2] at H
    have c2b0 : decide (1048576 < (a0.size : Int)) = true := decide_eq_true c2
    have c2b1 : decide (1048576 < a0.size) = true := decide_eq_true (by omega)
    clear c2
    obtain rfl := Option.some.inj H
    go_enter Try.func9, Try.ntmps9
    go_wp2
    go_ret
    exact ⟨by first | rfl | (simp [errW_none, errW_some] <;> rfl) | (simp [*, errW_none, errW_some] <;> rfl), by repeat (first | (with_reducible first | exact HB.out | apply below_alloc | apply pw_below_drewN | apply below_drew1) | exact HB.out)⟩
  · rw [if_neg c2] at H
    have c2b0 : decide (1048576 < (a0.size : Int)) = false := decide_eq_false c2
    have c2b1 : decide (1048576 < a0.size) = false := decide_eq_false (by omega)
    clear c2
    replace H := Option.bind_eq_some_iff.mp H
    obtain ⟨⟨t251, t252, t253, t254, t255⟩, A30, H⟩ := H
    replace H : ((impl_ReadHead.f k a0).bind fun bt257 => ((laws_eqHead.f bt257.1 bt257.2.1 bt257.2.2.1 bt257.2.2.2.1 t251 t252 t253 t254).bind fun t263 => (if t263 = true then (if (bt257.2.2.2.2 != t255) = true then (some false) else (some true)) else (some false)))) = some r := H
    have A3 := Aside0.mk A30
    clear A30
    replace H := Option.bind_eq_some_iff.mp H
    obtain ⟨⟨t257, t258, t259, t260, t261⟩, A40, H⟩ := H
    replace H : ((laws_eqHead.f t257 t258 t259 t260 t251 t252 t253 t254).bind fun t263 => (if t263 = true then (if (t261 != t255) = true then (some false) else (some true)) else (some false))) = some r := H
    have A4 := Aside0.mk A40
    clear A40
    replace H := Option.bind_eq_some_iff.mp H
    obtain ⟨t263, A50, H⟩ := H
    replace H : (if t263 = true then (if (t261 != t255) = true then (some false) else (some true)) else (some false)) = some r := H
    have A5 := Aside0.mk A50
    clear A50
    by_cases c6 : t263 = true
    · subst c6
      have H1 : (if (t261 != t255) = true then (some false) else (some true)) = some r := by rw [if_pos rfl] at H; exact H
      clear H
      have H := H1
      clear H1
      by_cases c7 : (t261 != t255) = true
      · rw [if_pos c7] at H
        have c7b0 : (t261 != t255) = true := c7
        (try (have c7b1 : decide (t261 = t255) = false := by simpa using c7))
        (try (have c7b2 : (t261 == t255) = false := by simpa using c7))
        (try (have c7b3 : ¬ (t261 = t255) := by simpa using c7))
        clear c7
        exact absurd (Option.some.inj H) (by rw [htrue.out]; exact Bool.false_ne_true)
      · rw [if_neg c7] at H
        have c7b0 : (t261 != t255) = false := by simpa using c7
        (try (have c7b1 : decide (t261 = t255) = true := by simpa using c7))
        (try (have c7b2 : (t261 == t255) = true := by simpa using c7))
        clear c7
        obtain rfl := Option.some.inj H
        go_enter Try.func9, Try.ntmps9
        go_wp2_with (first | ((with_reducible refine gate_callee (f := 32) rfl ?_); refine goesL_ (some 12) rfl rfl Try.func32 (by kernel_rfl) rfl #[.string a0] rfl (by (try simp only [List.map_toArray, List.map_cons, List.map_nil]); first | done | rfl | (simp only [List.length_drop, List.length_take]; rfl)) ?_; (with_reducible refine (spec_ReadHead.calls k a0 t251 t252 t253 t254 t255 _ A3.out).mono ?_); rintro e w8 ⟨rfl, hb⟩; refine ⟨_, rfl, ?_⟩; have n0_ := Aside0.mk (below_step (by repeat (first | (with_reducible first | exact HB.out | apply below_alloc | apply pw_below_drewN | apply below_drew1) | exact HB.out)) hb); clear HB; have HB := n0_; clear n0_; (try clear hb); (try clear hb2); (try clear hk); (try clear hi)) | ((with_reducible refine gate_dst (N := 3) rfl ?_); refine box_event ?hg (N := 3) ?hd (cs := #[.int .i64 0, .string (⟨#[]⟩ : ByteArray), .string (⟨#[]⟩ : ByteArray), .string (⟨#[]⟩ : ByteArray)]) (t := 28) ?hr ?_; (case hd => rfl); (case hg => rfl); (case hr => first | (go_simp; done) | (go_simp; rfl)); intro gb256 hg w9 hbox hb; have n0_ := Aside0.mk (below_step (by repeat (first | (with_reducible first | exact HB.out | apply below_alloc | apply pw_below_drewN | apply below_drew1) | exact HB.out)) hb); have n1_ := Aside0.mk (hbox); have n2_ := Aside0.mk ((by rw [hg]; exact (below_size (by repeat (first | (with_reducible first | exact HB.out | apply below_alloc | apply pw_below_drewN | apply below_drew1) | exact HB.out))) : w.heap.size ≤ gb256)); have n3_ := Aside0.mk ((by rw [hg]; exact (below_size (by repeat (first | (with_reducible first | exact HB.out | apply below_alloc | apply pw_below_drewN | apply below_drew1) | exact HB.out))) : w.heap.size ≤ gb256)); clear HB; have HB := n0_; have BK256 := n1_; have GW256 := n2_; have GE256 := n3_; clear n0_ n1_ n2_ n3_; clear hb hbox hg; have hcz10_0 : w9.cell? ⟨gb256, 0, none⟩ = some (.int .i64 0) := (blk_cell BK256.out 0).trans rfl; have hcz10_1 : w9.cell? ⟨gb256, 1, none⟩ = some (.string (⟨#[]⟩ : ByteArray)) := (blk_cell BK256.out 1).trans rfl; have hcz10_2 : w9.cell? ⟨gb256, 2, none⟩ = some (.string (⟨#[]⟩ : ByteArray)) := (blk_cell BK256.out 2).trans rfl; have hcz10_3 : w9.cell? ⟨gb256, 3, none⟩ = some (.string (⟨#[]⟩ : ByteArray)) := (blk_cell BK256.out 3).trans rfl; have hfz10_0 := blk_frozen BK256.out 0; have hfz10_1 := blk_frozen BK256.out 1; have hfz10_2 := blk_frozen BK256.out 2; have hfz10_3 := blk_frozen BK256.out 3) | ((with_reducible refine gate_callee (f := 33) rfl ?_); refine goesL_ (some 17) rfl rfl Try.func33 (by kernel_rfl) rfl #[.string a0] rfl (by (try simp only [List.map_toArray, List.map_cons, List.map_nil]); first | done | rfl | (simp only [List.length_drop, List.length_take]; rfl)) ?_; (with_reducible refine (impl_ReadHead.calls k a0 t257 t258 t259 t260 t261 _ A4.out).mono ?_); rintro e w11 ⟨rfl, hb⟩; refine ⟨_, rfl, ?_⟩; have n0_ := Aside0.mk (blk_below (g := gb256) (o := .cells #[.int .i64 t251, .string t252, .string t253, .string t254] 28 (0, 0)) (by (with_reducible repeat (first | refine blk_drewN ?_ _ | refine blk_drew ?_ | refine blk_alloc ?_ _)); refine blk_put (cs := #[.int .i64 t251, .string t252, .string t253, .string (⟨#[]⟩ : ByteArray)]) ?_ 3 _ rfl; (with_reducible repeat (first | refine blk_drewN ?_ _ | refine blk_drew ?_ | refine blk_alloc ?_ _)); refine blk_put (cs := #[.int .i64 t251, .string t252, .string (⟨#[]⟩ : ByteArray), .string (⟨#[]⟩ : ByteArray)]) ?_ 2 _ rfl; (with_reducible repeat (first | refine blk_drewN ?_ _ | refine blk_drew ?_ | refine blk_alloc ?_ _)); refine blk_put (cs := #[.int .i64 t251, .string (⟨#[]⟩ : ByteArray), .string (⟨#[]⟩ : ByteArray), .string (⟨#[]⟩ : ByteArray)]) ?_ 1 _ rfl; (with_reducible repeat (first | refine blk_drewN ?_ _ | refine blk_drew ?_ | refine blk_alloc ?_ _)); refine blk_put (cs := #[.int .i64 0, .string (⟨#[]⟩ : ByteArray), .string (⟨#[]⟩ : ByteArray), .string (⟨#[]⟩ : ByteArray)]) ?_ 0 _ rfl; (with_reducible repeat (first | refine blk_drewN ?_ _ | refine blk_drew ?_ | refine blk_alloc ?_ _)); exact BK256.out) hb); have n1_ := Aside0.mk (below_step (by repeat (first | (with_reducible first | exact HB.out | apply below_alloc | apply pw_below_drewN | apply below_drew1 | refine below_set ?_ GE256.out) | exact HB.out)) hb); clear BK256; clear HB; have BK256 := n0_; have HB := n1_; clear n0_ n1_; (try clear hb); (try clear hb2); (try clear hk); (try clear hi)) | ((with_reducible refine gate_dst (N := 5) rfl ?_); refine box_event ?hg (N := 5) ?hd (cs := #[.int .i64 0, .string (⟨#[]⟩ : ByteArray), .string (⟨#[]⟩ : ByteArray), .string (⟨#[]⟩ : ByteArray)]) (t := 28) ?hr ?_; (case hd => rfl); (case hg => rfl); (case hr => first | (go_simp; done) | (go_simp; rfl)); intro gb262 hg w12 hbox hb; have n0_ := Aside0.mk (blk_below (g := gb256) (o := .cells #[.int .i64 t251, .string t252, .string t253, .string t254] 28 (0, 0)) (by (with_reducible repeat (first | refine blk_drewN ?_ _ | refine blk_drew ?_ | refine blk_alloc ?_ _)); exact BK256.out) hb); have n1_ := Aside0.mk (below_step (by repeat (first | (with_reducible first | exact HB.out | apply below_alloc | apply pw_below_drewN | apply below_drew1 | refine below_set ?_ GE256.out) | exact HB.out)) hb); have n2_ := Aside0.mk (hbox); have n3_ := Aside0.mk ((by rw [hg]; exact (below_size (by repeat (first | (with_reducible first | exact HB.out | apply below_alloc | apply pw_below_drewN | apply below_drew1 | refine below_set ?_ GE256.out) | exact HB.out))) : w.heap.size ≤ gb262)); have n4_ := Aside0.mk ((by rw [hg]; exact (below_size (by repeat (first | (with_reducible first | exact HB.out | apply below_alloc | apply pw_below_drewN | apply below_drew1 | refine below_set ?_ GE256.out) | exact HB.out))) : w.heap.size ≤ gb262)); have n5_ := Aside0.mk ((by rw [hg]; exact Nat.ne_of_lt (blk_lt (g := gb256) (o := .cells #[.int .i64 t251, .string t252, .string t253, .string t254] 28 (0, 0)) (by (with_reducible repeat (first | refine blk_drewN ?_ _ | refine blk_drew ?_ | refine blk_alloc ?_ _)); exact BK256.out)) : gb256 ≠ gb262)); have n6_ := Aside0.mk ((by rw [hg]; exact Nat.ne_of_gt (blk_lt (g := gb256) (o := .cells #[.int .i64 t251, .string t252, .string t253, .string t254] 28 (0, 0)) (by (with_reducible repeat (first | refine blk_drewN ?_ _ | refine blk_drew ?_ | refine blk_alloc ?_ _)); exact BK256.out)) : gb262 ≠ gb256)); clear BK256; clear HB; have BK256 := n0_; have HB := n1_; have BK262 := n2_; have GW262 := n3_; have GE262 := n4_; have NB256_262 := n5_; have NB262_256 := n6_; clear n0_ n1_ n2_ n3_ n4_ n5_ n6_; clear hb hbox hg; have hnb13 := NB262_256.out; have hnc13 := NB256_262.out; have hcz14_0 : w12.cell? ⟨gb262, 0, none⟩ = some (.int .i64 0) := (blk_cell BK262.out 0).trans rfl; have hcz14_1 : w12.cell? ⟨gb262, 1, none⟩ = some (.string (⟨#[]⟩ : ByteArray)) := (blk_cell BK262.out 1).trans rfl; have hcz14_2 : w12.cell? ⟨gb262, 2, none⟩ = some (.string (⟨#[]⟩ : ByteArray)) := (blk_cell BK262.out 2).trans rfl; have hcz14_3 : w12.cell? ⟨gb262, 3, none⟩ = some (.string (⟨#[]⟩ : ByteArray)) := (blk_cell BK262.out 3).trans rfl; have hfz14_0 := blk_frozen BK262.out 0; have hfz14_1 := blk_frozen BK262.out 1; have hfz14_2 := blk_frozen BK262.out 2; have hfz14_3 := blk_frozen BK262.out 3; have hcz15_0 : w12.cell? ⟨gb256, 0, none⟩ = some (.int .i64 t251) := (blk_cell BK256.out 0).trans rfl; have hcz15_1 : w12.cell? ⟨gb256, 1, none⟩ = some (.string t252) := (blk_cell BK256.out 1).trans rfl; have hcz15_2 : w12.cell? ⟨gb256, 2, none⟩ = some (.string t253) := (blk_cell BK256.out 2).trans rfl; have hcz15_3 : w12.cell? ⟨gb256, 3, none⟩ = some (.string t254) := (blk_cell BK256.out 3).trans rfl; have hfz15_0 := blk_frozen BK256.out 0; have hfz15_1 := blk_frozen BK256.out 1; have hfz15_2 := blk_frozen BK256.out 2; have hfz15_3 := blk_frozen BK256.out 3) | ((with_reducible refine gate_callee (f := 34) rfl ?_); refine goesL_ (some 22) rfl rfl Try.func34 (by kernel_rfl) rfl #[.agg #[.int .i64 t257, .string t258, .string t259, .string t260], .agg #[.int .i64 t251, .string t252, .string t253, .string t254]] rfl (by (try simp only [List.map_toArray, List.map_cons, List.map_nil]); first | done | rfl | (simp only [List.length_drop, List.length_take]; rfl)) ?_; (with_reducible refine (laws_eqHead.calls t257 t258 t259 t260 t251 t252 t253 t254 true _ A5.out).mono ?_); rintro e w16 ⟨rfl, hb⟩; refine ⟨_, rfl, ?_⟩; have n0_ := Aside0.mk (blk_below (g := gb256) (o := .cells #[.int .i64 t251, .string t252, .string t253, .string t254] 28 (0, 0)) (by (with_reducible repeat (first | refine blk_drewN ?_ _ | refine blk_drew ?_ | refine blk_alloc ?_ _)); refine blk_far ?_ NB256_262.out _; (with_reducible repeat (first | refine blk_drewN ?_ _ | refine blk_drew ?_ | refine blk_alloc ?_ _)); refine blk_far ?_ NB256_262.out _; (with_reducible repeat (first | refine blk_drewN ?_ _ | refine blk_drew ?_ | refine blk_alloc ?_ _)); refine blk_far ?_ NB256_262.out _; (with_reducible repeat (first | refine blk_drewN ?_ _ | refine blk_drew ?_ | refine blk_alloc ?_ _)); refine blk_far ?_ NB256_262.out _; (with_reducible repeat (first | refine blk_drewN ?_ _ | refine blk_drew ?_ | refine blk_alloc ?_ _)); exact BK256.out) hb); have n1_ := Aside0.mk (blk_below (g := gb262) (o := .cells #[.int .i64 t257, .string t258, .string t259, .string t260] 28 (0, 0)) (by (with_reducible repeat (first | refine blk_drewN ?_ _ | refine blk_drew ?_ | refine blk_alloc ?_ _)); refine blk_put (cs := #[.int .i64 t257, .string t258, .string t259, .string (⟨#[]⟩ : ByteArray)]) ?_ 3 _ rfl; (with_reducible repeat (first | refine blk_drewN ?_ _ | refine blk_drew ?_ | refine blk_alloc ?_ _)); refine blk_put (cs := #[.int .i64 t257, .string t258, .string (⟨#[]⟩ : ByteArray), .string (⟨#[]⟩ : ByteArray)]) ?_ 2 _ rfl; (with_reducible repeat (first | refine blk_drewN ?_ _ | refine blk_drew ?_ | refine blk_alloc ?_ _)); refine blk_put (cs := #[.int .i64 t257, .string (⟨#[]⟩ : ByteArray), .string (⟨#[]⟩ : ByteArray), .string (⟨#[]⟩ : ByteArray)]) ?_ 1 _ rfl; (with_reducible repeat (first | refine blk_drewN ?_ _ | refine blk_drew ?_ | refine blk_alloc ?_ _)); refine blk_put (cs := #[.int .i64 0, .string (⟨#[]⟩ : ByteArray), .string (⟨#[]⟩ : ByteArray), .string (⟨#[]⟩ : ByteArray)]) ?_ 0 _ rfl; (with_reducible repeat (first | refine blk_drewN ?_ _ | refine blk_drew ?_ | refine blk_alloc ?_ _)); exact BK262.out) hb); have n2_ := Aside0.mk (below_step (by repeat (first | (with_reducible first | exact HB.out | apply below_alloc | apply pw_below_drewN | apply below_drew1 | refine below_set ?_ GE256.out | refine below_set ?_ GE262.out) | exact HB.out)) hb); clear BK256; clear BK262; clear HB; have BK256 := n0_; have BK262 := n1_; have HB := n2_; clear n0_ n1_ n2_; (try clear hb); (try clear hb2); (try clear hk); (try clear hi)))
        go_ret
        exact ⟨by first | rfl | (simp [errW_none, errW_some] <;> rfl) | (simp [*, errW_none, errW_some] <;> rfl), by repeat (first | (with_reducible first | exact HB.out | apply below_alloc | apply pw_below_drewN | apply below_drew1 | refine below_set ?_ GE256.out | refine below_set ?_ GE262.out) | exact HB.out)⟩
    · replace c6 := Bool.eq_false_iff.mpr c6
      subst c6
      have H1 : (some false) = some r := by rw [if_neg (show ¬ (false = true) by decide)] at H; exact H
      clear H
      have H := H1
      clear H1
      exact absurd (Option.some.inj H) (by rw [htrue.out]; exact Bool.false_ne_true)

/-- THE ONE PURE STATEMENT of laws_FnExactReadHead: yours. -/
def laws_FnExactReadHead.Pure : Prop := ∀ (a0 : ByteArray), a0.size ≤ 140737488351232 → ∃ k, laws_FnExactReadHead.f k a0 = some true
theorem laws_FnExactReadHead.walk (P : laws_FnExactReadHead.Pure) (a0 : ByteArray) (w : World) (w0 : a0.size ≤ 140737488351232) :
    Calls Try.prog 9 #[.string a0] w fun e w' => e = .returned (.bool true) ∧ Below w.heap.size w w' := by
  obtain ⟨k, h⟩ := P a0 w0
  refine (laws_FnExactReadHead.calls k a0 true w ⟨rfl⟩ h).mono ?_
  rintro e w' ⟨rfl, hd⟩
  exact ⟨rfl, hd⟩
end Go.Proofs.Ythdpfjkdpeamnaa.Pf
end
section
/- What is proved here: for every text the program's ReadHead and the reference's answer the same. No conditions. -/
set_option linter.unusedVariables false
set_option linter.unusedSimpArgs false
namespace Go.Proofs.Ythdpfjkdpeamnaa.Pure
open Go.RowKit Go.Proofs.Ythdpfjkdpeamnaa.Pf Go.Proofs.YthdpfjkdpeamnaaW.PrintWords

def digs : Nat → Int → List Int
  | 0, x => [x]
  | n + 1, x => if x ≤ 127 then [x] else (x % 128 + 128) :: digs n (x / 128)

theorem l01Var_l0 (n : Nat) : ∀ (k : Nat) (x : Int) (acc : List Int), n < k → 0 ≤ x → x < 128 ^ (n + 1) → x < 4398046511104 → acc.length + n < 100 →
    spec_l01Var.l0 k x acc = some (strOfNums (acc ++ digs n x)) := by
  induction n with
  | zero =>
    intro k x acc hk h0 h1 h5 ha
    obtain ⟨k, rfl⟩ : ∃ j, k = j + 1 := ⟨k - 1, by omega⟩
    have h1' : x < 128 := by simpa using h1
    simp only [spec_l01Var.l0, digs]
    rw [if_neg (by omega), if_pos (by omega), Int.emod_eq_of_lt h0 (by omega)]
  | succ n ih =>
    intro k x acc hk h0 h1 h5 ha
    obtain ⟨k, rfl⟩ : ∃ j, k = j + 1 := ⟨k - 1, by omega⟩
    simp only [spec_l01Var.l0, digs]
    by_cases h : x ≤ 127
    · rw [if_neg (by omega), if_pos (by omega), if_pos h, Int.emod_eq_of_lt h0 (by omega)]
    · have h2 : Int.tdiv x 128 = x / 128 := Int.tdiv_eq_ediv_of_nonneg h0
      have h3 : Int.tmod x 128 = x % 128 := Int.tmod_eq_emod_of_nonneg h0
      have h4 : wrap64 (x / 128) = x / 128 := by unfold wrap64; omega
      have h6 : wrap64 (x % 128 + 128) % 256 = x % 128 + 128 := by unfold wrap64; omega
      have h7 : x / 128 < 128 ^ (n + 1) := by
        rw [Int.pow_succ] at h1
        generalize (128 : Int) ^ (n + 1) = p at *
        omega
      rw [if_pos (by omega), if_pos (by omega), if_neg h, h2, h3, h4, h6, ih k _ _ (by omega) (by omega) h7 (by omega) (by simp; omega)]
      simp

theorem digs_len (n : Nat) : ∀ (i : Nat) (x : Int), 0 ≤ x → x < 128 ^ (i + 1) → (digs n x).length ≤ i + 1 := by
  induction n with
  | zero => intro i x h0 h1; simp [digs]
  | succ n ih =>
    intro i x h0 h1
    simp only [digs]
    by_cases h : x ≤ 127
    · rw [if_pos h]; simp
    · rw [if_neg h]
      cases i with
      | zero => have h1' : x < 128 := by simpa using h1
                omega
      | succ i =>
        have h7 : x / 128 < 128 ^ (i + 1) := by
          rw [Int.pow_succ] at h1
          generalize (128 : Int) ^ (i + 1) = p at *
          omega
        have := ih i (x / 128) (by omega) h7
        simp only [List.length_cons]
        omega

def bts (b : ByteArray) (i : Nat) : List Int := (List.range i).map fun j : Nat => bt b (j : Int)

theorem strOf_bts (b : ByteArray) (m : Nat) (h : m ≤ b.size) : (strOfNums (bts b m)).toList = (b.extract 0 m).toList := by
  have e : strOfNums (bts b m) = b.extract 0 m := by
    apply ByteArray.ext
    apply Array.ext'
    have e1 : (strOfNums (bts b m)).data.toList = (bts b m).map fun x => UInt8.ofNat x.toNat := by
      unfold strOfNums; rfl
    rw [e1]
    apply List.ext_getElem
    · have e2 : (b.extract 0 m).data.toList.length = (b.extract 0 m).size := Array.length_toList
      rw [List.length_map, e2, ByteArray.size_extract]
      simp only [bts, List.length_map, List.length_range]; omega
    · intro i h1 h2
      rw [List.length_map] at h1
      have h3 : i < m := by simpa only [bts, List.length_map, List.length_range] using h1
      simp only [bts, List.getElem_map, List.getElem_range]
      unfold bt
      rw [dif_pos (by omega)]
      simp
      rfl
  rw [e]

theorem w64 {x : Int} (h0 : -9223372036854775808 ≤ x) (h1 : x ≤ 9223372036854775807) : wrap64 x = x := by
  unfold wrap64; omega

theorem strOf_size (xs : List Int) : (strOfNums xs).size = xs.length := by simp [strOfNums, ByteArray.size]

theorem bts_succ (b : ByteArray) (i : Nat) : bts b (i + 1) = bts b i ++ [bt b (i : Int)] := by simp [bts, List.range_succ]

theorem texts_eq {a b : ByteArray} (h : a.toList = b.toList) : a = b := by
  rw [Go.ByteArray.toList_eq, Go.ByteArray.toList_eq] at h
  cases a; cases b
  congr 1
  exact Array.toList_inj.1 h

def pw : Nat → Int
  | 0 => 1
  | n + 1 => pw n * 128

theorem pw_eq (n : Nat) : pw n = 128 ^ n := by
  induction n with
  | zero => rfl
  | succ n ih => simp only [pw]; rw [ih, Int.pow_succ]

theorem pw_le {i : Nat} (h : i ≤ 4) : 1 ≤ pw i ∧ pw i ≤ 268435456 := by
  have : i = 0 ∨ i = 1 ∨ i = 2 ∨ i = 3 ∨ i = 4 := by omega
  rcases this with rfl | rfl | rfl | rfl | rfl <;> exact ⟨by decide +kernel, by decide +kernel⟩

theorem wi {i : Nat} (h : i ≤ 1048576) : wrap64 ((i : Int) + 1) = ((i + 1 : Nat) : Int) := by rw [w64 (by omega) (by omega)]; omega

theorem spec_step {b : ByteArray} {x7 p v q β : Int} {i K : Nat} (hs : b.size ≤ 1048576) (hi : i < b.size) (h5 : i < 5) (hβ : bt b (i : Int) = β)
    (hv : wrap64 (x7 + wrap64 (Int.tmod (wrap64 β) 128 * p)) = v) (hq : wrap64 (p * 128) = q) :
    spec_ReadVar.l0 (K + 2) b 0 x7 p i = if β < 128 then (if v > 1000000000 then some (0, 0, false) else (spec_l01Var.f K v).bind fun t => if t.toList = (b.extract 0 (i + 1)).toList then some (v, ((i + 1 : Nat) : Int), true) else some (0, 0, false))
      else spec_ReadVar.l0 K b 0 v q ((i + 1 : Nat) : Int) := by
  have e1 : wrap64 (0 + 5) = 5 := w64 (by omega) (by omega)
  have e7 := wi (show i ≤ 1048576 by omega)
  simp only [spec_ReadVar.l0, spec_ReadVar.j1, hβ, hv, hq, e1, e7]
  rw [if_pos (show (i : Int) < (b.size : Int) by omega), if_pos (show decide ((i : Int) < 5) = true from decide_eq_true (by omega)), if_pos (show (0 : Int) ≤ (i : Int) by omega)]
  simp only [show ((i : Int) < (b.size : Int)) = True from eq_true (by omega), if_true, show ((0 : Int) ≤ 0) = True from eq_true (by omega), show ((0 : Int) ≤ ((i + 1 : Nat) : Int)) = True from eq_true (by omega), show (((i + 1 : Nat) : Int) ≤ (b.size : Int)) = True from eq_true (by omega), Int.toNat_natCast, show (0 : Int).toNat = 0 from rfl]

theorem spec_stop {b : ByteArray} {x7 p : Int} {i K : Nat} (h : ¬ (i < b.size ∧ i < 5)) : spec_ReadVar.l0 (K + 2) b 0 x7 p i = some (0, 0, false) := by
  have e1 : wrap64 (0 + 5) = 5 := w64 (by omega) (by omega)
  simp only [spec_ReadVar.l0, spec_ReadVar.j1, e1]
  by_cases hi : (i : Int) < (b.size : Int)
  · rw [if_pos hi, if_neg (by rw [decide_eq_true_eq]; omega)]
  · rw [if_neg hi, if_neg (by decide)]

theorem impl_step {b : ByteArray} {x7 p v q β : Int} {i K : Nat} (hs : b.size ≤ 1048576) (hi : i < b.size) (h5 : i < 5) (hβ : bt b (i : Int) = β) (h0 : 0 ≤ β) (h1 : β ≤ 255)
    (hv : wrap64 (x7 + wrap64 (Int.tmod (wrap64 β) 128 * p)) = v) (hq : wrap64 (p * 128) = q) :
    impl_ReadVar.l0 (K + 2) b 0 x7 p i = if β < 128 then (if (β = 0 ∧ 0 < i) ∨ v > 1000000000 then some (0, 0, false) else some (v, ((i + 1 : Nat) : Int), true))
      else impl_ReadVar.l0 K b 0 v q ((i + 1 : Nat) : Int) := by
  have e7 := wi (show i ≤ 1048576 by omega)
  have e8 : wrap64 (0 + (i : Int)) = i := by rw [w64 (by omega) (by omega)]; omega
  have e2 : wrap64 β = β := w64 (by omega) (by omega)
  rw [e2] at hv
  simp only [impl_ReadVar.l0, impl_ReadVar.j2, e8, hβ, e2, hv, hq, e7]
  rw [if_pos (show (i : Int) < 5 by omega)]
  rw [if_pos (show decide ((i : Int) < (b.size : Int)) = true from decide_eq_true (by omega)), if_pos (show (0 : Int) ≤ (i : Int) by omega), if_pos (show (i : Int) < (b.size : Int) by omega)]
  by_cases hc : β < 128
  · rw [if_neg (by omega : ¬ β ≥ 128), if_pos hc]
    by_cases hz : β = 0
    · rw [if_pos hz]
      by_cases hi0 : 0 < i
      · rw [if_pos (show (i : Int) > 0 by omega), if_pos (Or.inl ⟨hz, hi0⟩)]
      · rw [if_neg (show ¬ (i : Int) > 0 by omega)]
        by_cases hg : v > 1000000000
        · rw [if_pos hg, if_pos (Or.inr hg)]
        · rw [if_neg hg, if_neg (fun h => h.elim (fun h => hi0 h.2) hg)]
    · rw [if_neg hz]
      by_cases hg : v > 1000000000
      · rw [if_pos hg, if_pos (Or.inr hg)]
      · rw [if_neg hg, if_neg (fun h => h.elim (fun h => hz h.1) hg)]
  · rw [if_pos (by omega : β ≥ 128), if_neg hc]

theorem impl_stop {b : ByteArray} {x7 p : Int} {i K : Nat} (hs : b.size ≤ 1048576) (h5 : i ≤ 5) (h : ¬ (i < b.size ∧ i < 5)) : impl_ReadVar.l0 (K + 2) b 0 x7 p i = some (0, 0, false) := by
  have e8 : wrap64 (0 + (i : Int)) = i := by rw [w64 (by omega) (by omega)]; omega
  simp only [impl_ReadVar.l0, impl_ReadVar.j2, e8]
  by_cases hi : (i : Int) < 5
  · rw [if_pos hi, if_neg (by rw [decide_eq_true_eq]; omega)]
  · rw [if_neg hi, if_neg (by decide)]

theorem sim (b : ByteArray) (hb : b.size ≤ 1048576) (n : Nat) : ∀ (i : Nat) (x7 : Int) (K : Nat), i + n = 5 → i ≤ b.size → 0 ≤ x7 → x7 < pw i →
    (∀ v' : Int, (i = 0 ∨ 0 < v') → 0 ≤ v' → digs 5 (x7 + v' * pw i) = bts b i ++ digs n v') → 2 * n + 12 ≤ K →
    ∃ r, spec_ReadVar.l0 K b 0 x7 (pw i) i = some r ∧ impl_ReadVar.l0 K b 0 x7 (pw i) i = some r ∧ (r.2.2 = true → 0 ≤ r.2.1 ∧ r.2.1 ≤ b.size) := by
  induction n with
  | zero =>
    intro i x7 K hi hs h0 h1 hP hK
    obtain ⟨K, rfl⟩ : ∃ j, K = j + 2 := ⟨K - 2, by omega⟩
    exact ⟨(0, 0, false), spec_stop (by omega), impl_stop hb (by omega) (by omega), by simp⟩
  | succ n ih =>
    intro i x7 K hi hs h0 h1 hP hK
    obtain ⟨K, rfl⟩ : ∃ j, K = j + 2 := ⟨K - 2, by omega⟩
    by_cases hsz : i < b.size
    · have hp := pw_le (show i ≤ 4 by omega)
      have hd2 : pw (i + 1) = pw i * 128 := rfl
      have hbt := bt_range b (i : Int)
      generalize hβ : bt b (i : Int) = β at hbt
      generalize hpp : pw i = p at *
      have hd0 : 0 ≤ β % 128 ∧ β % 128 ≤ 127 := by omega
      obtain ⟨m, hm, hm0, hm1⟩ : ∃ m, β % 128 * p = m ∧ 0 ≤ m ∧ m ≤ 127 * p := ⟨_, rfl, Int.mul_nonneg hd0.1 (by omega), Int.mul_le_mul_of_nonneg_right hd0.2 (by omega)⟩
      have e3 : Int.tmod β 128 = β % 128 := Int.tmod_eq_emod_of_nonneg hbt.1
      have e2 : wrap64 β = β := w64 (by omega) (by omega)
      have ev : wrap64 (x7 + wrap64 (Int.tmod (wrap64 β) 128 * p)) = x7 + m := by
        rw [e2, e3, hm, w64 (x := m) (by omega) (by omega), w64 (by omega) (by omega)]
      have eq : wrap64 (p * 128) = p * 128 := w64 (by omega) (by omega)
      rw [spec_step hb hsz (by omega) hβ ev eq, impl_step hb hsz (by omega) hβ hbt.1 (by omega) ev eq]
      by_cases hc : β < 128
      · rw [if_pos hc, if_pos hc]
        have hdβ : β % 128 = β := by omega
        rw [hdβ] at hm
        by_cases hv : x7 + m > 1000000000
        · rw [if_pos hv, if_pos (Or.inr hv)]
          exact ⟨(0, 0, false), rfl, rfl, by simp⟩
        · rw [if_neg hv]
          have henc : spec_l01Var.f K (x7 + m) = some (strOfNums (digs 5 (x7 + m))) := by
            unfold spec_l01Var.f
            rw [l01Var_l0 5 K _ [] (by omega) (by omega) (by simp; omega) (by omega) (by simp)]
            rfl
          rw [henc]
          simp only [Option.bind_some]
          by_cases hg : i = 0 ∨ 0 < β
          · have hd := hP β hg hbt.1
            have hd2 : digs (n + 1) β = [β] := by simp only [digs]; rw [if_pos (by omega)]
            rw [hd2, ← hβ, ← bts_succ, hβ, hm] at hd
            rw [hd, if_pos (strOf_bts b (i + 1) (by omega)), if_neg (by omega)]
            exact ⟨(x7 + m, ((i + 1 : Nat) : Int), true), rfl, rfl, fun _ => ⟨by dsimp only; omega, by dsimp only; omega⟩⟩
          · have hz : β = 0 := by omega
            have hne : ¬ ((strOfNums (digs 5 (x7 + m))).toList = (b.extract 0 (i + 1)).toList) := by
              intro h
              have h2 := congrArg ByteArray.size (texts_eq h)
              rw [strOf_size, ByteArray.size_extract] at h2
              obtain ⟨j, hj⟩ : ∃ j, i = j + 1 := ⟨i - 1, by omega⟩
              have hm3 : m = 0 := by rw [← hm, hz, Int.zero_mul]
              rw [hm3, Int.add_zero] at h2
              have := digs_len 5 j x7 h0 (by rw [← hj, ← pw_eq, hpp]; exact h1)
              omega
            rw [if_neg hne, if_pos (Or.inl ⟨hz, by omega⟩)]
            exact ⟨(0, 0, false), rfl, rfl, by simp⟩
      · rw [if_neg hc, if_neg hc, ← hd2]
        refine ih (i + 1) (x7 + m) K (by omega) (by omega) (by omega) (by omega) ?_ (by omega)
        intro v' hv' hv0
        have hv1 : 0 < v' := by omega
        have h3 := hP (β % 128 + 128 * v') (Or.inr (by omega)) (by omega)
        have h4 : digs (n + 1) (β % 128 + 128 * v') = β :: digs n v' := by
          simp only [digs]
          rw [if_neg (by omega)]
          have a1 : (β % 128 + 128 * v') % 128 + 128 = β := by omega
          have a2 : (β % 128 + 128 * v') / 128 = v' := by omega
          rw [a1, a2]
        rw [h4] at h3
        have h5 : x7 + m + v' * pw (i + 1) = x7 + (β % 128 + 128 * v') * p := by
          rw [hd2, Int.add_mul, hm, Int.mul_comm 128 v', Int.mul_assoc v' 128, Int.mul_comm p 128, Int.add_assoc]
        rw [h5, h3, bts_succ, hβ]
        simp
    · exact ⟨(0, 0, false), spec_stop (by omega), impl_stop hb (by omega) (by omega), by simp⟩

theorem sim0 (b : ByteArray) (hb : b.size ≤ 1048576) : ∃ r, spec_ReadVar.f 30 b 0 = some r ∧ impl_ReadVar.f 30 b 0 = some r ∧ (r.2.2 = true → 0 ≤ r.2.1 ∧ r.2.1 ≤ b.size) := by
  obtain ⟨r, h1, h2, h3⟩ := sim b hb 5 0 0 29 (by omega) (by omega) (by omega) (by decide) (fun v' _ h0 => by simp [pw, bts]) (by omega)
  refine ⟨r, ?_, ?_, h3⟩
  · unfold spec_ReadVar.f spec_l01In.f
    rw [if_pos (by omega)]
    simp only [Option.bind_some]
    rw [if_pos (decide_eq_true (by omega))]
    exact (spec_ReadVar.mono_l 29).1 _ _ _ _ _ _ h1
  · unfold impl_ReadVar.f
    rw [if_neg (by omega)]
    simp only [impl_ReadVar.j0]
    rw [if_neg (by rw [decide_eq_true_eq]; omega)]
    exact h2

theorem take_bad (b : ByteArray) (p : Int) : impl_scanner_take.f b p true 32 = some ((⟨#[]⟩ : ByteArray), b, p, true) := by
  unfold impl_scanner_take.f; rw [if_pos rfl]

theorem take_no {b : ByteArray} {p : Int} (hb : b.size ≤ 1048576) (h0 : 0 ≤ p) (h1 : p ≤ b.size) (h : (b.size : Int) < p + 32) :
    impl_scanner_take.f b p false 32 = some ((⟨#[]⟩ : ByteArray), b, p, true) := by
  unfold impl_scanner_take.f
  rw [if_neg (by decide), if_pos (by rw [w64 (by omega) (by omega)]; omega)]

theorem take_ok {b : ByteArray} {p : Int} (hb : b.size ≤ 1048576) (h0 : 0 ≤ p) (h : p + 32 ≤ b.size) :
    impl_scanner_take.f b p false 32 = some (b.extract p.toNat (p + 32).toNat, b, p + 32, false) := by
  have e1 : wrap64 (p + 32) = p + 32 := w64 (by omega) (by omega)
  have e2 : wrap64 (p + 32 - 32) = p := by rw [w64 (by omega) (by omega)]; omega
  have e3 : wrap64 ((b.size : Int) - p) = b.size - p := w64 (by omega) (by omega)
  unfold impl_scanner_take.f
  rw [e1, e2, e3, if_neg (by decide), if_neg (by omega), if_pos h0, if_pos (by omega), if_pos h]

theorem head_eq (s : Int) (a b c : ByteArray) : ∃ v, spec_HeadOk.f s a b c = some v ∧ impl_HeadOk.f s a b c = some v := by
  unfold spec_HeadOk.f impl_HeadOk.f spec_l01In.f impl_isSlot.f impl_isDigest.f
  by_cases h0 : s ≥ 0 <;> by_cases h1 : s ≤ 10000 <;> by_cases h2 : (a.size : Int) = 32 <;> by_cases h3 : (b.size : Int) = 32 <;> by_cases h4 : (c.size : Int) = 32 <;> simp [h0, h1, h2, h3, h4]

abbrev no : Int × ByteArray × ByteArray × ByteArray × Bool := (0, (⟨#[]⟩ : ByteArray), (⟨#[]⟩ : ByteArray), (⟨#[]⟩ : ByteArray), false)

theorem impl_of {b : ByteArray} {x y z : Int} {q0 q1 q2 : ByteArray} {g : Bool} (h : impl_scanner_head.f 30 b 0 false = some (x, q0, q1, q2, b, z, g)) (hz : g = true ∨ z ≠ b.size) : impl_ReadHead.f 30 b = some no := by
  unfold impl_ReadHead.f
  rw [h]
  simp only [Option.bind_some]
  unfold impl_scanner_done.f
  cases g with
  | true => simp only [if_true, Option.bind_some]; rfl
  | false =>
    rw [if_neg (by decide)]
    simp only [Option.bind_some]
    rw [if_neg (by have := hz.resolve_left (by decide); simpa using this)]

theorem both (b : ByteArray) (hb : b.size ≤ 1048576) : ∃ R, spec_ReadHead.f 30 b = some R ∧ impl_ReadHead.f 30 b = some R := by
  obtain ⟨⟨x, y, g⟩, h1, h2, h3⟩ := sim0 b hb
  cases g with
  | false =>
    refine ⟨no, ?_, ?_⟩
    · unfold spec_ReadHead.f
      rw [h1]
      simp only [Option.bind_some]
      rw [if_neg (by decide)]
      simp only [spec_ReadHead.j0]
      rw [if_pos trivial]
    · refine impl_of (y := 0) (x := 0) (z := 0) (g := true) (q0 := ⟨#[]⟩) (q1 := ⟨#[]⟩) (q2 := ⟨#[]⟩) ?_ (Or.inl rfl)
      unfold impl_scanner_head.f impl_scanner_number.f
      rw [h2]
      simp only [Option.bind_some]
      rw [if_neg (by decide), if_neg (by decide)]
      simp only [Option.bind_some, take_bad]
  | true =>
    obtain ⟨hy0, hy1⟩ := h3 rfl
    dsimp only at hy0 hy1
    have en : impl_scanner_number.f 30 b 0 false = some (x, b, y, false) := by
      unfold impl_scanner_number.f
      rw [h2]
      simp only [Option.bind_some]
      rw [if_neg (by decide), if_pos trivial]
    have w96 : wrap64 (y + 96) = y + 96 := w64 (by omega) (by omega)
    have w32 : wrap64 (y + 32) = y + 32 := w64 (by omega) (by omega)
    have w64' : wrap64 (y + 64) = y + 64 := w64 (by omega) (by omega)
    by_cases hs : (b.size : Int) = y + 96
    · obtain ⟨v, e1, e2⟩ := head_eq x (b.extract y.toNat (y + 32).toNat) (b.extract (y + 32).toNat (y + 64).toNat) (b.extract (y + 64).toNat b.size)
      have eh : impl_scanner_head.f 30 b 0 false = some (x, b.extract y.toNat (y + 32).toNat, b.extract (y + 32).toNat (y + 64).toNat, b.extract (y + 64).toNat b.size, b, y + 96, false) := by
        unfold impl_scanner_head.f
        rw [en]
        simp only [Option.bind_some]
        rw [take_ok hb hy0 (by omega)]
        simp only [Option.bind_some]
        rw [take_ok hb (by omega) (by omega)]
        simp only [Option.bind_some]
        rw [take_ok hb (by omega) (by omega)]
        simp only [Option.bind_some]
        rw [show y + 32 + 32 = y + 64 by omega, show y + 64 + 32 = y + 96 by omega, show (y + 96).toNat = b.size by omega]
      refine ⟨if v = true then (x, b.extract y.toNat (y + 32).toNat, b.extract (y + 32).toNat (y + 64).toNat, b.extract (y + 64).toNat b.size, true) else no, ?_, ?_⟩
      · unfold spec_ReadHead.f
        rw [h1]
        simp only [Option.bind_some, spec_ReadHead.j0, w96, w32, w64']
        rw [if_pos trivial, hs, if_neg (by simp), if_pos hy0, if_pos (by omega), if_pos (by omega), if_pos (by omega), if_pos (by omega), if_pos (by omega), if_pos (by omega), e1]
        simp only [Option.bind_some]
        cases v <;> rfl
      · unfold impl_ReadHead.f
        rw [eh]
        simp only [Option.bind_some]
        unfold impl_scanner_done.f
        rw [if_neg (by decide)]
        simp only [Option.bind_some]
        rw [if_pos (by simp [hs]), e2]
        simp only [Option.bind_some]
        cases v <;> rfl
    · refine ⟨no, ?_, ?_⟩
      · unfold spec_ReadHead.f
        rw [h1]
        simp only [Option.bind_some, spec_ReadHead.j0, w96]
        rw [if_pos trivial, if_pos (by simpa using hs)]
      · have eh : ∃ q0 q1 q2 z g, impl_scanner_head.f 30 b 0 false = some (x, q0, q1, q2, b, z, g) ∧ (g = true ∨ z ≠ b.size) := by
          unfold impl_scanner_head.f
          rw [en]
          simp only [Option.bind_some]
          by_cases c1 : y + 32 ≤ b.size
          · rw [take_ok hb hy0 c1]
            simp only [Option.bind_some]
            by_cases c2 : y + 32 + 32 ≤ b.size
            · rw [take_ok hb (by omega) c2]
              simp only [Option.bind_some]
              by_cases c3 : y + 32 + 32 + 32 ≤ b.size
              · rw [take_ok hb (by omega) c3]
                exact ⟨_, _, _, _, _, rfl, Or.inr (show y + 32 + 32 + 32 ≠ (b.size : Int) by omega)⟩
              · rw [take_no (p := y + 32 + 32) hb (by omega) (by omega) (by omega)]
                exact ⟨_, _, _, _, _, rfl, Or.inl rfl⟩
            · rw [take_no (p := y + 32) hb (by omega) (by omega) (by omega)]
              simp only [Option.bind_some, take_bad]
              exact ⟨_, _, _, _, _, rfl, Or.inl rfl⟩
          · rw [take_no hb hy0 hy1 (by omega)]
            simp only [Option.bind_some, take_bad]
            exact ⟨_, _, _, _, _, rfl, Or.inl rfl⟩
        obtain ⟨q0, q1, q2, z, g, e, hz⟩ := eh
        exact impl_of (y := 0) e hz

theorem FnExactReadHead : laws_FnExactReadHead.Pure := by
  intro b _
  refine ⟨30, ?_⟩
  unfold laws_FnExactReadHead.f
  by_cases hb : (b.size : Int) > 1048576
  · rw [if_pos hb]
  · obtain ⟨R, e1, e2⟩ := both b (by omega)
    rw [if_neg hb, e1, e2]
    simp only [Option.bind_some]
    unfold laws_eqHead.f
    simp
end Go.Proofs.Ythdpfjkdpeamnaa.Pure
end
section
namespace Go.Proofs.Ythdpfjkdpeamnaa.fnExactReadHead
open Go.ChangeShapes Go.WideShapes Go.ChangeAt Go.RowKit
open Go.ChangeMaps (open_string shut_string)
set_option linter.unusedVariables false
theorem own : ownKnob Try.prog.godebug = none := by kernel_rfl
set_option maxRecDepth 100000 in
theorem lifted (os : Os) (started : os.Started) (H : Type) (enc : TypeId × Value → H) :
    ReturnsInHanded {} Try.checked os 9 .any (Rows.fnExactReadHeadSpec.pre6 enc Try.prog Try.f9 Rows.fnExactReadHeadRow.domain false) (Rows.fnExactReadHeadSpec.post enc Try.prog Try.f9 false true false false) := by
  refine returnsInHanded_of_change_sized (C := Try.checked) own started (by kernel_rfl) Try.func9
    (ChangeSpec.witness6 (enc := enc) (C := Try.checked) false ⟨#[], #[.string ByteArray.empty], []⟩ 8 (by kernel_rfl) (by kernel_rfl) (by kernel_rfl) (by kernel_rfl)) ?_
  intro W base args ds gs before hval0 hW hcnd hsz0 _
  have hsz : (DataW.weightsEach Try.prog (Try.f9.params.toList ++ Rows.fnExactReadHeadSpec.plain.varTypes Try.prog) (ds ++ gs)).all (· ≤ reachBytes) = true := hsz0
  have hval : ∀ (j : Nat) t v, Try.f9.params[j]? = some t → args[j]? = some v → Value.okWide Try.prog W .any base t v := hval0
  have hW' := hW
  obtain ⟨p, q, hA0, hV, rfl, hfz, hnd⟩ := hW
  have hA : DataW.TrodAll enc Try.prog W 0 (fun _ => true) true Try.f9.params.toList args.toList ds p := hA0
  rw [Try.params9] at hA hval hsz
  obtain ⟨v0, vs0, d0, ds0, p0, q0, hargs, rfl, rfl, h0, r0⟩ := trodAll_cons hA
  obtain ⟨rfl, rfl, rfl⟩ := trodAll_nil r0
  obtain rfl : args = #[v0] := by cases args; simp_all
  obtain ⟨rfl, rfl⟩ := trodVars_none hV
  obtain ⟨a0, rfl, rfl, rfl, y0⟩ := open_string Try.underlying9 (hval 0 9 v0 rfl rfl) h0
  have w0 : a0.size ≤ 140737488351232 := by
    have z := sized_string hsz (j := 0) (t := 9) rfl rfl
    rw [Array.length_toList] at z
    exact z
  clear hA0 hval0 hsz0 hsz
  refine (Pf.laws_FnExactReadHead.walk Pure.FnExactReadHead a0 W w0).mono fun e W' ⟨he, bel⟩ => ?_
  subst he
  exact ⟨_, rfl, _, _, _, [], _, [], hW', trodAll_mk1 (shut_bool Try.underlying4 _), (trodAll_cons_mk (shut_string Try.underlying9 y0) trodAll_mk0), rfl, bel.frame _, fun h => by cases h⟩
theorem over : Rows.fnExactReadHeadRow.holds Try.pinned (OpenSpec.ofChange Rows.fnExactReadHeadSpec) :=
  OpenClaim.holds_of_wide 9 Try.f9 rfl rfl rfl rfl rfl rfl rfl ⟨rfl, rfl, rfl, rfl, rfl⟩ rfl rfl rfl rfl rfl (by kernel_rfl) Try.func9 (by kernel_rfl)
    (of_decide_eq_true (by kernel_rfl)) (by unfold Func.isWrapper; first | (rw [if_pos (by decide +kernel)]; kernel_rfl) | (rw [if_neg (by decide +kernel)]; exact ⟨rfl, rfl⟩))
    (fun os started H enc _ => lifted os started H enc)
theorem proved : Rows.FnExactReadHeadSaid := over
#print axioms proved
end Go.Proofs.Ythdpfjkdpeamnaa.fnExactReadHead
namespace Go.Proofs.Ythdpfjkdpeamnaa
/-- The row, under a short name, for the claim. -/
theorem fnExactReadHead_holds : Rows.FnExactReadHeadSaid := fnExactReadHead.proved
end Go.Proofs.Ythdpfjkdpeamnaa
end
