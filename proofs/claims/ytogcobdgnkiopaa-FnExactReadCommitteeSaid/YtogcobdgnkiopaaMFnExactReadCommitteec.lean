/- What is proved here: part 3 of 5 of the proof of the given statement FnExactReadCommittee: the contracts of the Go functions that it reaches, the plain facts on lists and numbers, and (in the last part) the statement itself. No conditions beyond the given ones. -/
import Derived.Test.YtogcobdgnkiopaaMFnExactReadCommitteewSlim
import Derived.Test.YtogcobdgnkiopaaMFnExactReadCommitteea
import Derived.Test.YtogcobdgnkiopaaMFnExactReadCommitteeb

section
namespace Go.Proofs.Ytogcobdgnkiopaa.Pf
open Go.RowKit Go.Proofs.YtogcobdgnkiopaaW.PrintWords Go.Proofs.YtogcobdgnkiopaaW.PrintLast Go.Proofs.YtogcobdgnkiopaaW.PrintMore
attribute [local go_sem] max2_int min2_int max_two min_two max_three min_three max_four min_four   -- for this text's walks alone
set_option linter.unusedVariables false
set_option linter.unusedSimpArgs false
/-! ### impl_slopeOf: function 78 -/
def impl_slopeOf.j0 : Nat → Bool → Int → Int → Bool → Option (Int × Bool)
 | 0, _, _, _, _ => none
 | k + 1, x32, x230000, x230001, x230002 => if x32 = true then (some (0, false)) else ((impl_FpMul.f x230000 x230000).bind fun t235 => ((impl_FpMul.f 3 t235).bind fun t236 => ((impl_FpAdd.f t236 1).bind fun t237 => ((impl_FpMul.f 2 x230001).bind fun t238 => ((impl_FpInv.f k t238).bind fun t239 => ((impl_FpMul.f t237 t239).bind fun t240 => (some (t240, true))))))))
def impl_slopeOf.f (k : Nat) (a0_0 : Int) (a0_1 : Int) (a0_2 : Bool) (a1_0 : Int) (a1_1 : Int) (a1_2 : Bool) : Option (Int × Bool) := if a0_0 = a1_0 then (if a0_1 = a1_1 then (impl_slopeOf.j0 k (a0_1 == 0) a0_0 a0_1 a0_2) else (impl_slopeOf.j0 k true a0_0 a0_1 a0_2)) else ((impl_FpSub.f a1_1 a0_1).bind fun t231 => ((impl_FpSub.f a1_0 a0_0).bind fun t232 => ((impl_FpInv.f k t232).bind fun t233 => ((impl_FpMul.f t231 t233).bind fun t234 => (some (t234, true))))))
theorem impl_slopeOf.mono_l : ∀ k, (∀ y0 y1 y2 y3, LeO (impl_slopeOf.j0 k y0 y1 y2 y3) (impl_slopeOf.j0 (k + 1) y0 y1 y2 y3))
 | 0 => fun _ _ _ _ r h => by simp [impl_slopeOf.j0] at h
 | k + 1 => by
  have ih0 := impl_slopeOf.mono_l k
  ·intro y0 y1 y2 y3
   unfold impl_slopeOf.j0
   repeat' first
   | (with_reducible exact ih0 _ _ _ _)
   | (with_reducible exact impl_FpInv.mono _ _)
   | (with_reducible exact LeO.refl _)
   | (with_reducible exact LeO.none _)
   | (with_reducible refine LeO.ite ?_ ?_)
   | (with_reducible refine LeO.bind ?_ (fun _ => ?_))
   | exact ih0 _ _ _ _
   | exact impl_FpInv.mono _ _
   | exact LeO.none _
   | refine LeO.ite ?_ ?_
   | refine LeO.bind ?_ (fun _ => ?_)
theorem impl_slopeOf.mono : ∀ a0 a1 a2 a3 a4 a5 k, LeO (impl_slopeOf.f k a0 a1 a2 a3 a4 a5) (impl_slopeOf.f (k + 1) a0 a1 a2 a3 a4 a5) := by
 intro a0 a1 a2 a3 a4 a5 k
 have ih0 := impl_slopeOf.mono_l k
 unfold impl_slopeOf.f
 repeat' first
   | (with_reducible exact ih0 _ _ _ _)
   | (with_reducible exact impl_FpInv.mono _ _)
   | (with_reducible exact LeO.refl _)
   | (with_reducible exact LeO.none _)
   | (with_reducible refine LeO.ite ?_ ?_)
   | (with_reducible refine LeO.bind ?_ (fun _ => ?_))
   | exact ih0 _ _ _ _
   | exact impl_FpInv.mono _ _
   | exact LeO.none _
   | refine LeO.ite ?_ ?_
   | refine LeO.bind ?_ (fun _ => ?_)
set_option maxHeartbeats 8000000 in
set_option maxRecDepth 100000 in
theorem impl_slopeOf.calls (k : Nat) (a0_0 : Int) (a0_1 : Int) (a0_2 : Bool) (a1_0 : Int) (a1_1 : Int) (a1_2 : Bool) (r1 : Int) (r2 : Bool) (w : World) (h : impl_slopeOf.f k a0_0 a0_1 a0_2 a1_0 a1_1 a1_2 = some (r1, r2)) :
  Calls Try.prog 78 #[.agg #[.int .i64 a0_0, .int .i64 a0_1, .bool a0_2], .agg #[.int .i64 a1_0, .int .i64 a1_1, .bool a1_2]] w fun e w' => e = .returned (.tuple #[.int .i64 r1, .bool r2]) ∧ Below w.heap.size w w' := by
 have hu48 := Try.underlying48
 have HB := Aside0.mk (Below.refl w.heap.size w)
 have H : (if a0_0 = a1_0 then (if a0_1 = a1_1 then (impl_slopeOf.j0 k (a0_1 == 0) a0_0 a0_1 a0_2) else (impl_slopeOf.j0 k true a0_0 a0_1 a0_2)) else ((impl_FpSub.f a1_1 a0_1).bind fun t231 => ((impl_FpSub.f a1_0 a0_0).bind fun t232 => ((impl_FpInv.f k t232).bind fun t233 => ((impl_FpMul.f t231 t233).bind fun t234 => (some (t234, true))))))) = some (r1, r2) := h
 clear h
 by_cases c3 : a0_0 = a1_0
 ·rw [if_pos c3] at H
  have c3b0 : (a0_0 == a1_0) = true := beq_iff_eq.mpr c3
  have c3b1 : (a0_0 != a1_0) = false := bne_eq_false_iff_eq.mpr c3
  clear c3
  have HC4 := Aside0.mk H
  clear H
  go_enter Try.func78, Try.ntmps78
  go_upto_region 3 with (first | ((with_reducible refine gate_dst (N := 2) rfl ?_); refine box_event ?hg (N := 2) ?hd (cs := #[.int .i64 a0_0, .int .i64 a0_1, .bool a0_2]) (t := 48) ?hr ?_; (case hd => rfl); (case hg => rfl); (case hr => first | (go_simp; done) | (go_simp; rfl)); intro gb229 hg w5 hbox hb; have BK229 := Aside0.mk (hbox); have GW229 := bG HB hg; have GE229 := bG HB hg; replace HB := bS HB hb; clear hb hbox hg) | ((with_reducible refine gate_dst (N := 3) rfl ?_); refine box_event ?hg (N := 3) ?hd (cs := #[.int .i64 a1_0, .int .i64 a1_1, .bool a1_2]) (t := 48) ?hr ?_; (case hd => rfl); (case hg => rfl); (case hr => first | (go_simp; done) | (go_simp; rfl)); intro gb230 hg w6 hbox hb; have BK230 := Aside0.mk (hbox); have GW230 := bG HB hg; have GE230 := bG HB hg; replace HB := bS HB hb; have NB229_230 := bL BK229 hg; have NB230_229 := bR BK229 hg; replace BK229 := bB BK229 hb; clear hb hbox hg; have hnb7 := NB229_230.out; have hnc7 := NB230_229.out; have hcz8_0 : w6.cell? ⟨gb229, 0, none⟩ = some (.int .i64 a0_0) := bc BK229 0; have hcz8_1 : w6.cell? ⟨gb229, 1, none⟩ = some (.int .i64 a0_1) := bc BK229 1; have hcz8_2 : w6.cell? ⟨gb229, 2, none⟩ = some (.bool a0_2) := bc BK229 2; have hfz8_0 := blk_frozen BK229.out 0; have hfz8_1 := blk_frozen BK229.out 1; have hfz8_2 := blk_frozen BK229.out 2; have hcz9_0 : w6.cell? ⟨gb230, 0, none⟩ = some (.int .i64 a1_0) := bc BK230 0; have hcz9_1 : w6.cell? ⟨gb230, 1, none⟩ = some (.int .i64 a1_1) := bc BK230 1; have hcz9_2 : w6.cell? ⟨gb230, 2, none⟩ = some (.bool a1_2) := bc BK230 2; have hfz9_0 := blk_frozen BK230.out 0; have hfz9_1 := blk_frozen BK230.out 1; have hfz9_2 := blk_frozen BK230.out 2))
  repeat (go_quiet (first | ((with_reducible refine gate_dst (N := 2) rfl ?_); refine box_event ?hg (N := 2) ?hd (cs := #[.int .i64 a0_0, .int .i64 a0_1, .bool a0_2]) (t := 48) ?hr ?_; (case hd => rfl); (case hg => rfl); (case hr => first | (go_simp; done) | (go_simp; rfl)); intro gb229 hg w5 hbox hb; have BK229 := Aside0.mk (hbox); have GW229 := bG HB hg; have GE229 := bG HB hg; replace HB := bS HB hb; clear hb hbox hg) | ((with_reducible refine gate_dst (N := 3) rfl ?_); refine box_event ?hg (N := 3) ?hd (cs := #[.int .i64 a1_0, .int .i64 a1_1, .bool a1_2]) (t := 48) ?hr ?_; (case hd => rfl); (case hg => rfl); (case hr => first | (go_simp; done) | (go_simp; rfl)); intro gb230 hg w6 hbox hb; have BK230 := Aside0.mk (hbox); have GW230 := bG HB hg; have GE230 := bG HB hg; replace HB := bS HB hb; have NB229_230 := bL BK229 hg; have NB230_229 := bR BK229 hg; replace BK229 := bB BK229 hb; clear hb hbox hg; have hnb7 := NB229_230.out; have hnc7 := NB230_229.out; have hcz8_0 : w6.cell? ⟨gb229, 0, none⟩ = some (.int .i64 a0_0) := bc BK229 0; have hcz8_1 : w6.cell? ⟨gb229, 1, none⟩ = some (.int .i64 a0_1) := bc BK229 1; have hcz8_2 : w6.cell? ⟨gb229, 2, none⟩ = some (.bool a0_2) := bc BK229 2; have hfz8_0 := blk_frozen BK229.out 0; have hfz8_1 := blk_frozen BK229.out 1; have hfz8_2 := blk_frozen BK229.out 2; have hcz9_0 : w6.cell? ⟨gb230, 0, none⟩ = some (.int .i64 a1_0) := bc BK230 0; have hcz9_1 : w6.cell? ⟨gb230, 1, none⟩ = some (.int .i64 a1_1) := bc BK230 1; have hcz9_2 : w6.cell? ⟨gb230, 2, none⟩ = some (.bool a1_2) := bc BK230 2; have hfz9_0 := blk_frozen BK230.out 0; have hfz9_1 := blk_frozen BK230.out 1; have hfz9_2 := blk_frozen BK230.out 2)); go_upto_region 3 with (first | ((with_reducible refine gate_dst (N := 2) rfl ?_); refine box_event ?hg (N := 2) ?hd (cs := #[.int .i64 a0_0, .int .i64 a0_1, .bool a0_2]) (t := 48) ?hr ?_; (case hd => rfl); (case hg => rfl); (case hr => first | (go_simp; done) | (go_simp; rfl)); intro gb229 hg w5 hbox hb; have BK229 := Aside0.mk (hbox); have GW229 := bG HB hg; have GE229 := bG HB hg; replace HB := bS HB hb; clear hb hbox hg) | ((with_reducible refine gate_dst (N := 3) rfl ?_); refine box_event ?hg (N := 3) ?hd (cs := #[.int .i64 a1_0, .int .i64 a1_1, .bool a1_2]) (t := 48) ?hr ?_; (case hd => rfl); (case hg => rfl); (case hr => first | (go_simp; done) | (go_simp; rfl)); intro gb230 hg w6 hbox hb; have BK230 := Aside0.mk (hbox); have GW230 := bG HB hg; have GE230 := bG HB hg; replace HB := bS HB hb; have NB229_230 := bL BK229 hg; have NB230_229 := bR BK229 hg; replace BK229 := bB BK229 hb; clear hb hbox hg; have hnb7 := NB229_230.out; have hnc7 := NB230_229.out; have hcz8_0 : w6.cell? ⟨gb229, 0, none⟩ = some (.int .i64 a0_0) := bc BK229 0; have hcz8_1 : w6.cell? ⟨gb229, 1, none⟩ = some (.int .i64 a0_1) := bc BK229 1; have hcz8_2 : w6.cell? ⟨gb229, 2, none⟩ = some (.bool a0_2) := bc BK229 2; have hfz8_0 := blk_frozen BK229.out 0; have hfz8_1 := blk_frozen BK229.out 1; have hfz8_2 := blk_frozen BK229.out 2; have hcz9_0 : w6.cell? ⟨gb230, 0, none⟩ = some (.int .i64 a1_0) := bc BK230 0; have hcz9_1 : w6.cell? ⟨gb230, 1, none⟩ = some (.int .i64 a1_1) := bc BK230 1; have hcz9_2 : w6.cell? ⟨gb230, 2, none⟩ = some (.bool a1_2) := bc BK230 2; have hfz9_0 := blk_frozen BK230.out 0; have hfz9_1 := blk_frozen BK230.out 1; have hfz9_2 := blk_frozen BK230.out 2)))
  (try simp only [Act.put, List.setIfInBounds_toArray, List.set_cons_zero, List.set_cons_succ])
  go_cut [32] (fun v32 wc => ∃ (kq : Nat) (x32_3 : Bool), v32 = .bool x32_3 ∧ Aside0 (impl_slopeOf.j0 kq x32_3 a0_0 a0_1 a0_2 = some (r1, r2)) ∧ Aside0 (kq ≤ k) ∧ Aside0 (wc.heap[gb229]? = some (.cells #[.int .i64 a0_0, .int .i64 a0_1, .bool a0_2] 48 (0, 0))) ∧ Aside0 (wc.heap[gb230]? = some (.cells #[.int .i64 a1_0, .int .i64 a1_1, .bool a1_2] 48 (0, 0))) ∧ Aside0 (Below w.heap.size w wc))
  case first =>
   have H := HC4.out
   clear HC4
   by_cases c10 : a0_1 = a1_1
   ·rw [if_pos c10] at H
    have c10b0 : (a0_1 == a1_1) = true := beq_iff_eq.mpr c10
    have c10b1 : (a0_1 != a1_1) = false := bne_eq_false_iff_eq.mpr c10
    clear c10
    (first | rw [c10b0] | (simp only [i64_w, i32_w]; rw [c10b0]) | rw [c10b1] | skip)
    have H' := Aside0.mk H
    clear H
    have hnb11 := NB229_230.out
    have hnc11 := NB230_229.out
    have hcz12_0 : w6.cell? ⟨gb229, 0, none⟩ = some (.int .i64 a0_0) := bc BK229 0
    have hcz12_1 : w6.cell? ⟨gb229, 1, none⟩ = some (.int .i64 a0_1) := bc BK229 1
    have hcz12_2 : w6.cell? ⟨gb229, 2, none⟩ = some (.bool a0_2) := bc BK229 2
    have hfz12_0 := blk_frozen BK229.out 0
    have hfz12_1 := blk_frozen BK229.out 1
    have hfz12_2 := blk_frozen BK229.out 2
    have hcz13_0 : w6.cell? ⟨gb230, 0, none⟩ = some (.int .i64 a1_0) := bc BK230 0
    have hcz13_1 : w6.cell? ⟨gb230, 1, none⟩ = some (.int .i64 a1_1) := bc BK230 1
    have hcz13_2 : w6.cell? ⟨gb230, 2, none⟩ = some (.bool a1_2) := bc BK230 2
    have hfz13_0 := blk_frozen BK230.out 0
    have hfz13_1 := blk_frozen BK230.out 1
    have hfz13_2 := blk_frozen BK230.out 2
    go_wp2
    repeat (go_quiet (fail); try go_wp2)
    go_meet
    case rel => exact ⟨_, ((a0_1 == 0)), (by first | rfl | (simp; done) | (simp [*]; done)), H', ⟨by first | omega | exact Nat.le_refl _⟩, ⟨bP BK229⟩, ⟨bP BK230⟩, ⟨bZ HB⟩⟩
   ·rw [if_neg c10] at H
    have c10b0 : (a0_1 == a1_1) = false := beq_eq_false_iff_ne.mpr c10
    have c10b1 : (a0_1 != a1_1) = true := bne_iff_ne.mpr c10
    (first | rw [c10b0] | (simp only [i64_w, i32_w]; rw [c10b0]) | rw [c10b1] | skip)
    have H' := Aside0.mk H
    clear H
    have hnb14 := NB229_230.out
    have hnc14 := NB230_229.out
    have hcz15_0 : w6.cell? ⟨gb229, 0, none⟩ = some (.int .i64 a0_0) := bc BK229 0
    have hcz15_1 : w6.cell? ⟨gb229, 1, none⟩ = some (.int .i64 a0_1) := bc BK229 1
    have hcz15_2 : w6.cell? ⟨gb229, 2, none⟩ = some (.bool a0_2) := bc BK229 2
    have hfz15_0 := blk_frozen BK229.out 0
    have hfz15_1 := blk_frozen BK229.out 1
    have hfz15_2 := blk_frozen BK229.out 2
    have hcz16_0 : w6.cell? ⟨gb230, 0, none⟩ = some (.int .i64 a1_0) := bc BK230 0
    have hcz16_1 : w6.cell? ⟨gb230, 1, none⟩ = some (.int .i64 a1_1) := bc BK230 1
    have hcz16_2 : w6.cell? ⟨gb230, 2, none⟩ = some (.bool a1_2) := bc BK230 2
    have hfz16_0 := blk_frozen BK230.out 0
    have hfz16_1 := blk_frozen BK230.out 1
    have hfz16_2 := blk_frozen BK230.out 2
    go_wp2
    repeat (go_quiet (fail); try go_wp2)
    go_meet
    case rel => exact ⟨_, (true), (by first | rfl | (simp; done) | (simp [*]; done)), H', ⟨by first | omega | exact Nat.le_refl _⟩, ⟨bP BK229⟩, ⟨bP BK230⟩, ⟨bZ HB⟩⟩
  case rest =>
   clear HC4
   try clear c1
   try clear p2
   try clear c3
   try clear c3b0
   try clear c3b1
   try clear c7
   try clear c10
   try clear c10b0
   try clear c10b1
   try clear c11
   try clear c14
   try clear hcz12_0
   try clear hcz12_1
   try clear hcz12_2
   try clear hcz13_0
   try clear hcz13_1
   try clear hcz13_2
   try clear hcz15_0
   try clear hcz15_1
   try clear hcz15_2
   try clear hcz16_0
   try clear hcz16_1
   try clear hcz16_2
   try clear hcz8_0
   try clear hcz8_1
   try clear hcz8_2
   try clear hcz9_0
   try clear hcz9_1
   try clear hcz9_2
   try clear hfz12_0
   try clear hfz12_1
   try clear hfz12_2
   try clear hfz13_0
   try clear hfz13_1
   try clear hfz13_2
   try clear hfz15_0
   try clear hfz15_1
   try clear hfz15_2
   try clear hfz16_0
   try clear hfz16_1
   try clear hfz16_2
   try clear hfz8_0
   try clear hfz8_1
   try clear hfz8_2
   try clear hfz9_0
   try clear hfz9_1
   try clear hfz9_2
   obtain ⟨kq, x32_3, rfl, HA, HJ3, BK229, BK230, HB⟩ := hcut
   cases kq with
   | zero => exact absurd HA.out (by simp [impl_slopeOf.j0])
   | succ kj3 =>
    have H := HA.out
    clear HA
    simp only [impl_slopeOf.j0] at H
    by_cases c17 : x32_3 = true
    ·subst c17
     have H1 : (some (0, false)) = some (r1, r2) := by rw [if_pos rfl] at H; exact H
     clear H
     have H := H1
     clear H1
     simp only [Option.some.injEq, Prod.mk.injEq] at H
     obtain ⟨rfl, rfl⟩ := H
     go_wp2
     repeat (go_quiet (fail); try go_wp2)
     go_ret2
     exact ⟨by first | rfl | (simp [errW_none, errW_some] <;> rfl) | (simp [*, errW_none, errW_some] <;> rfl), bZ HB⟩
    ·replace c17 := Bool.eq_false_iff.mpr c17
     subst c17
     have H1 : ((impl_FpMul.f a0_0 a0_0).bind fun t235 => ((impl_FpMul.f 3 t235).bind fun t236 => ((impl_FpAdd.f t236 1).bind fun t237 => ((impl_FpMul.f 2 a0_1).bind fun t238 => ((impl_FpInv.f kj3 t238).bind fun t239 => ((impl_FpMul.f t237 t239).bind fun t240 => (some (t240, true)))))))) = some (r1, r2) := by rw [if_neg (show ¬ (false = true) by decide)] at H; exact H
     clear H
     have H := H1
     clear H1
     replace H := Option.bind_eq_some_iff.mp H
     obtain ⟨t235, A180, H⟩ := H
     replace H : ((impl_FpMul.f 3 t235).bind fun t236 => ((impl_FpAdd.f t236 1).bind fun t237 => ((impl_FpMul.f 2 a0_1).bind fun t238 => ((impl_FpInv.f kj3 t238).bind fun t239 => ((impl_FpMul.f t237 t239).bind fun t240 => (some (t240, true))))))) = some (r1, r2) := H
     have A18 := Aside0.mk A180
     clear A180
     replace H := Option.bind_eq_some_iff.mp H
     obtain ⟨t236, A190, H⟩ := H
     replace H : ((impl_FpAdd.f t236 1).bind fun t237 => ((impl_FpMul.f 2 a0_1).bind fun t238 => ((impl_FpInv.f kj3 t238).bind fun t239 => ((impl_FpMul.f t237 t239).bind fun t240 => (some (t240, true)))))) = some (r1, r2) := H
     have A19 := Aside0.mk A190
     clear A190
     replace H := Option.bind_eq_some_iff.mp H
     obtain ⟨t237, A200, H⟩ := H
     replace H : ((impl_FpMul.f 2 a0_1).bind fun t238 => ((impl_FpInv.f kj3 t238).bind fun t239 => ((impl_FpMul.f t237 t239).bind fun t240 => (some (t240, true))))) = some (r1, r2) := H
     have A20 := Aside0.mk A200
     clear A200
     replace H := Option.bind_eq_some_iff.mp H
     obtain ⟨t238, A210, H⟩ := H
     replace H : ((impl_FpInv.f kj3 t238).bind fun t239 => ((impl_FpMul.f t237 t239).bind fun t240 => (some (t240, true)))) = some (r1, r2) := H
     have A21 := Aside0.mk A210
     clear A210
     replace H := Option.bind_eq_some_iff.mp H
     obtain ⟨t239, A220, H⟩ := H
     replace H : ((impl_FpMul.f t237 t239).bind fun t240 => (some (t240, true))) = some (r1, r2) := H
     have A22 := Aside0.mk A220
     clear A220
     replace H := Option.bind_eq_some_iff.mp H
     obtain ⟨t240, A230, H⟩ := H
     replace H : (some (t240, true)) = some (r1, r2) := H
     have A23 := Aside0.mk A230
     clear A230
     simp only [Option.some.injEq, Prod.mk.injEq] at H
     obtain ⟨rfl, rfl⟩ := H
     have hnb24 := NB229_230.out
     have hnc24 := NB230_229.out
     have hcz25_0 : wc.cell? ⟨gb229, 0, none⟩ = some (.int .i64 a0_0) := bc BK229 0
     have hcz25_1 : wc.cell? ⟨gb229, 1, none⟩ = some (.int .i64 a0_1) := bc BK229 1
     have hcz25_2 : wc.cell? ⟨gb229, 2, none⟩ = some (.bool a0_2) := bc BK229 2
     have hfz25_0 := blk_frozen BK229.out 0
     have hfz25_1 := blk_frozen BK229.out 1
     have hfz25_2 := blk_frozen BK229.out 2
     go_wp2_with (first | (go_at_call 68; (with_reducible refine (impl_FpMul.calls a0_0 a0_0 t235 _ A18.out).mono ?_); rintro e w' ⟨rfl, ⟨nd, rfl⟩⟩; (try first | exact ⟨rfl, _, World.drewN_drewN _ _ _⟩ | exact ⟨rfl, _, Eq.trans (World.drewN_drewN _ _ _) (congrArg (World.drewN _) (Nat.add_assoc _ _ _))⟩)) | (go_at_call 68; (with_reducible refine (impl_FpMul.calls 3 t235 t236 _ A19.out).mono ?_); rintro e w' ⟨rfl, ⟨nd, rfl⟩⟩; (try first | exact ⟨rfl, _, World.drewN_drewN _ _ _⟩ | exact ⟨rfl, _, Eq.trans (World.drewN_drewN _ _ _) (congrArg (World.drewN _) (Nat.add_assoc _ _ _))⟩)) | (go_at_call 75; (with_reducible refine (impl_FpAdd.calls t236 1 t237 _ A20.out).mono ?_); rintro e w' ⟨rfl, ⟨nd, rfl⟩⟩; (try first | exact ⟨rfl, _, World.drewN_drewN _ _ _⟩ | exact ⟨rfl, _, Eq.trans (World.drewN_drewN _ _ _) (congrArg (World.drewN _) (Nat.add_assoc _ _ _))⟩)) | (go_at_call 68; (with_reducible refine (impl_FpMul.calls 2 a0_1 t238 _ A21.out).mono ?_); rintro e w' ⟨rfl, ⟨nd, rfl⟩⟩; (try first | exact ⟨rfl, _, World.drewN_drewN _ _ _⟩ | exact ⟨rfl, _, Eq.trans (World.drewN_drewN _ _ _) (congrArg (World.drewN _) (Nat.add_assoc _ _ _))⟩)) | (go_at_call 80; (with_reducible refine (impl_FpInv.calls kj3 t238 t239 _ A22.out).mono ?_); rintro e w' ⟨rfl, ⟨nd, rfl⟩⟩; (try first | exact ⟨rfl, _, World.drewN_drewN _ _ _⟩ | exact ⟨rfl, _, Eq.trans (World.drewN_drewN _ _ _) (congrArg (World.drewN _) (Nat.add_assoc _ _ _))⟩)) | (go_at_call 68; (with_reducible refine (impl_FpMul.calls t237 t239 t240 _ A23.out).mono ?_); rintro e w' ⟨rfl, ⟨nd, rfl⟩⟩; (try first | exact ⟨rfl, _, World.drewN_drewN _ _ _⟩ | exact ⟨rfl, _, Eq.trans (World.drewN_drewN _ _ _) (congrArg (World.drewN _) (Nat.add_assoc _ _ _))⟩)))
     repeat (go_quiet (first | (go_at_call 68; (with_reducible refine (impl_FpMul.calls a0_0 a0_0 t235 _ A18.out).mono ?_); rintro e w' ⟨rfl, ⟨nd, rfl⟩⟩; (try first | exact ⟨rfl, _, World.drewN_drewN _ _ _⟩ | exact ⟨rfl, _, Eq.trans (World.drewN_drewN _ _ _) (congrArg (World.drewN _) (Nat.add_assoc _ _ _))⟩)) | (go_at_call 68; (with_reducible refine (impl_FpMul.calls 3 t235 t236 _ A19.out).mono ?_); rintro e w' ⟨rfl, ⟨nd, rfl⟩⟩; (try first | exact ⟨rfl, _, World.drewN_drewN _ _ _⟩ | exact ⟨rfl, _, Eq.trans (World.drewN_drewN _ _ _) (congrArg (World.drewN _) (Nat.add_assoc _ _ _))⟩)) | (go_at_call 75; (with_reducible refine (impl_FpAdd.calls t236 1 t237 _ A20.out).mono ?_); rintro e w' ⟨rfl, ⟨nd, rfl⟩⟩; (try first | exact ⟨rfl, _, World.drewN_drewN _ _ _⟩ | exact ⟨rfl, _, Eq.trans (World.drewN_drewN _ _ _) (congrArg (World.drewN _) (Nat.add_assoc _ _ _))⟩)) | (go_at_call 68; (with_reducible refine (impl_FpMul.calls 2 a0_1 t238 _ A21.out).mono ?_); rintro e w' ⟨rfl, ⟨nd, rfl⟩⟩; (try first | exact ⟨rfl, _, World.drewN_drewN _ _ _⟩ | exact ⟨rfl, _, Eq.trans (World.drewN_drewN _ _ _) (congrArg (World.drewN _) (Nat.add_assoc _ _ _))⟩)) | (go_at_call 80; (with_reducible refine (impl_FpInv.calls kj3 t238 t239 _ A22.out).mono ?_); rintro e w' ⟨rfl, ⟨nd, rfl⟩⟩; (try first | exact ⟨rfl, _, World.drewN_drewN _ _ _⟩ | exact ⟨rfl, _, Eq.trans (World.drewN_drewN _ _ _) (congrArg (World.drewN _) (Nat.add_assoc _ _ _))⟩)) | (go_at_call 68; (with_reducible refine (impl_FpMul.calls t237 t239 t240 _ A23.out).mono ?_); rintro e w' ⟨rfl, ⟨nd, rfl⟩⟩; (try first | exact ⟨rfl, _, World.drewN_drewN _ _ _⟩ | exact ⟨rfl, _, Eq.trans (World.drewN_drewN _ _ _) (congrArg (World.drewN _) (Nat.add_assoc _ _ _))⟩))); try go_wp2_with (first | (go_at_call 68; (with_reducible refine (impl_FpMul.calls a0_0 a0_0 t235 _ A18.out).mono ?_); rintro e w' ⟨rfl, ⟨nd, rfl⟩⟩; (try first | exact ⟨rfl, _, World.drewN_drewN _ _ _⟩ | exact ⟨rfl, _, Eq.trans (World.drewN_drewN _ _ _) (congrArg (World.drewN _) (Nat.add_assoc _ _ _))⟩)) | (go_at_call 68; (with_reducible refine (impl_FpMul.calls 3 t235 t236 _ A19.out).mono ?_); rintro e w' ⟨rfl, ⟨nd, rfl⟩⟩; (try first | exact ⟨rfl, _, World.drewN_drewN _ _ _⟩ | exact ⟨rfl, _, Eq.trans (World.drewN_drewN _ _ _) (congrArg (World.drewN _) (Nat.add_assoc _ _ _))⟩)) | (go_at_call 75; (with_reducible refine (impl_FpAdd.calls t236 1 t237 _ A20.out).mono ?_); rintro e w' ⟨rfl, ⟨nd, rfl⟩⟩; (try first | exact ⟨rfl, _, World.drewN_drewN _ _ _⟩ | exact ⟨rfl, _, Eq.trans (World.drewN_drewN _ _ _) (congrArg (World.drewN _) (Nat.add_assoc _ _ _))⟩)) | (go_at_call 68; (with_reducible refine (impl_FpMul.calls 2 a0_1 t238 _ A21.out).mono ?_); rintro e w' ⟨rfl, ⟨nd, rfl⟩⟩; (try first | exact ⟨rfl, _, World.drewN_drewN _ _ _⟩ | exact ⟨rfl, _, Eq.trans (World.drewN_drewN _ _ _) (congrArg (World.drewN _) (Nat.add_assoc _ _ _))⟩)) | (go_at_call 80; (with_reducible refine (impl_FpInv.calls kj3 t238 t239 _ A22.out).mono ?_); rintro e w' ⟨rfl, ⟨nd, rfl⟩⟩; (try first | exact ⟨rfl, _, World.drewN_drewN _ _ _⟩ | exact ⟨rfl, _, Eq.trans (World.drewN_drewN _ _ _) (congrArg (World.drewN _) (Nat.add_assoc _ _ _))⟩)) | (go_at_call 68; (with_reducible refine (impl_FpMul.calls t237 t239 t240 _ A23.out).mono ?_); rintro e w' ⟨rfl, ⟨nd, rfl⟩⟩; (try first | exact ⟨rfl, _, World.drewN_drewN _ _ _⟩ | exact ⟨rfl, _, Eq.trans (World.drewN_drewN _ _ _) (congrArg (World.drewN _) (Nat.add_assoc _ _ _))⟩))))
     go_ret2
     exact ⟨by first | rfl | (simp [errW_none, errW_some] <;> rfl) | (simp [*, errW_none, errW_some] <;> rfl), bZ HB⟩
 ·rw [if_neg c3] at H
  have c3b0 : (a0_0 == a1_0) = false := beq_eq_false_iff_ne.mpr c3
  have c3b1 : (a0_0 != a1_0) = true := bne_iff_ne.mpr c3
  replace H := Option.bind_eq_some_iff.mp H
  obtain ⟨t231, A260, H⟩ := H
  replace H : ((impl_FpSub.f a1_0 a0_0).bind fun t232 => ((impl_FpInv.f k t232).bind fun t233 => ((impl_FpMul.f t231 t233).bind fun t234 => (some (t234, true))))) = some (r1, r2) := H
  have A26 := Aside0.mk A260
  clear A260
  replace H := Option.bind_eq_some_iff.mp H
  obtain ⟨t232, A270, H⟩ := H
  replace H : ((impl_FpInv.f k t232).bind fun t233 => ((impl_FpMul.f t231 t233).bind fun t234 => (some (t234, true)))) = some (r1, r2) := H
  have A27 := Aside0.mk A270
  clear A270
  replace H := Option.bind_eq_some_iff.mp H
  obtain ⟨t233, A280, H⟩ := H
  replace H : ((impl_FpMul.f t231 t233).bind fun t234 => (some (t234, true))) = some (r1, r2) := H
  have A28 := Aside0.mk A280
  clear A280
  replace H := Option.bind_eq_some_iff.mp H
  obtain ⟨t234, A290, H⟩ := H
  replace H : (some (t234, true)) = some (r1, r2) := H
  have A29 := Aside0.mk A290
  clear A290
  simp only [Option.some.injEq, Prod.mk.injEq] at H
  obtain ⟨rfl, rfl⟩ := H
  go_enter Try.func78, Try.ntmps78
  go_wp2_with (first | ((with_reducible refine gate_dst (N := 2) rfl ?_); refine box_event ?hg (N := 2) ?hd (cs := #[.int .i64 a0_0, .int .i64 a0_1, .bool a0_2]) (t := 48) ?hr ?_; (case hd => rfl); (case hg => rfl); (case hr => first | (go_simp; done) | (go_simp; rfl)); intro gb229 hg w30 hbox hb; have BK229 := Aside0.mk (hbox); have GW229 := bG HB hg; have GE229 := bG HB hg; replace HB := bS HB hb; clear hb hbox hg) | ((with_reducible refine gate_dst (N := 3) rfl ?_); refine box_event ?hg (N := 3) ?hd (cs := #[.int .i64 a1_0, .int .i64 a1_1, .bool a1_2]) (t := 48) ?hr ?_; (case hd => rfl); (case hg => rfl); (case hr => first | (go_simp; done) | (go_simp; rfl)); intro gb230 hg w31 hbox hb; have BK230 := Aside0.mk (hbox); have GW230 := bG HB hg; have GE230 := bG HB hg; replace HB := bS HB hb; have NB229_230 := bL BK229 hg; have NB230_229 := bR BK229 hg; replace BK229 := bB BK229 hb; clear hb hbox hg; have hnb32 := NB229_230.out; have hnc32 := NB230_229.out; have hcz33_0 : w31.cell? ⟨gb229, 0, none⟩ = some (.int .i64 a0_0) := bc BK229 0; have hcz33_1 : w31.cell? ⟨gb229, 1, none⟩ = some (.int .i64 a0_1) := bc BK229 1; have hcz33_2 : w31.cell? ⟨gb229, 2, none⟩ = some (.bool a0_2) := bc BK229 2; have hfz33_0 := blk_frozen BK229.out 0; have hfz33_1 := blk_frozen BK229.out 1; have hfz33_2 := blk_frozen BK229.out 2; have hcz34_0 : w31.cell? ⟨gb230, 0, none⟩ = some (.int .i64 a1_0) := bc BK230 0; have hcz34_1 : w31.cell? ⟨gb230, 1, none⟩ = some (.int .i64 a1_1) := bc BK230 1; have hcz34_2 : w31.cell? ⟨gb230, 2, none⟩ = some (.bool a1_2) := bc BK230 2; have hfz34_0 := blk_frozen BK230.out 0; have hfz34_1 := blk_frozen BK230.out 1; have hfz34_2 := blk_frozen BK230.out 2) | (go_at_call 76; (with_reducible refine (impl_FpSub.calls a1_1 a0_1 t231 _ A26.out).mono ?_); rintro e w' ⟨rfl, ⟨nd, rfl⟩⟩; (try first | exact ⟨rfl, _, World.drewN_drewN _ _ _⟩ | exact ⟨rfl, _, Eq.trans (World.drewN_drewN _ _ _) (congrArg (World.drewN _) (Nat.add_assoc _ _ _))⟩)) | (go_at_call 76; (with_reducible refine (impl_FpSub.calls a1_0 a0_0 t232 _ A27.out).mono ?_); rintro e w' ⟨rfl, ⟨nd, rfl⟩⟩; (try first | exact ⟨rfl, _, World.drewN_drewN _ _ _⟩ | exact ⟨rfl, _, Eq.trans (World.drewN_drewN _ _ _) (congrArg (World.drewN _) (Nat.add_assoc _ _ _))⟩)) | (go_at_call 80; (with_reducible refine (impl_FpInv.calls k t232 t233 _ A28.out).mono ?_); rintro e w' ⟨rfl, ⟨nd, rfl⟩⟩; (try first | exact ⟨rfl, _, World.drewN_drewN _ _ _⟩ | exact ⟨rfl, _, Eq.trans (World.drewN_drewN _ _ _) (congrArg (World.drewN _) (Nat.add_assoc _ _ _))⟩)) | (go_at_call 68; (with_reducible refine (impl_FpMul.calls t231 t233 t234 _ A29.out).mono ?_); rintro e w' ⟨rfl, ⟨nd, rfl⟩⟩; (try first | exact ⟨rfl, _, World.drewN_drewN _ _ _⟩ | exact ⟨rfl, _, Eq.trans (World.drewN_drewN _ _ _) (congrArg (World.drewN _) (Nat.add_assoc _ _ _))⟩)))
  repeat (go_quiet (first | ((with_reducible refine gate_dst (N := 2) rfl ?_); refine box_event ?hg (N := 2) ?hd (cs := #[.int .i64 a0_0, .int .i64 a0_1, .bool a0_2]) (t := 48) ?hr ?_; (case hd => rfl); (case hg => rfl); (case hr => first | (go_simp; done) | (go_simp; rfl)); intro gb229 hg w30 hbox hb; have BK229 := Aside0.mk (hbox); have GW229 := bG HB hg; have GE229 := bG HB hg; replace HB := bS HB hb; clear hb hbox hg) | ((with_reducible refine gate_dst (N := 3) rfl ?_); refine box_event ?hg (N := 3) ?hd (cs := #[.int .i64 a1_0, .int .i64 a1_1, .bool a1_2]) (t := 48) ?hr ?_; (case hd => rfl); (case hg => rfl); (case hr => first | (go_simp; done) | (go_simp; rfl)); intro gb230 hg w31 hbox hb; have BK230 := Aside0.mk (hbox); have GW230 := bG HB hg; have GE230 := bG HB hg; replace HB := bS HB hb; have NB229_230 := bL BK229 hg; have NB230_229 := bR BK229 hg; replace BK229 := bB BK229 hb; clear hb hbox hg; have hnb32 := NB229_230.out; have hnc32 := NB230_229.out; have hcz33_0 : w31.cell? ⟨gb229, 0, none⟩ = some (.int .i64 a0_0) := bc BK229 0; have hcz33_1 : w31.cell? ⟨gb229, 1, none⟩ = some (.int .i64 a0_1) := bc BK229 1; have hcz33_2 : w31.cell? ⟨gb229, 2, none⟩ = some (.bool a0_2) := bc BK229 2; have hfz33_0 := blk_frozen BK229.out 0; have hfz33_1 := blk_frozen BK229.out 1; have hfz33_2 := blk_frozen BK229.out 2; have hcz34_0 : w31.cell? ⟨gb230, 0, none⟩ = some (.int .i64 a1_0) := bc BK230 0; have hcz34_1 : w31.cell? ⟨gb230, 1, none⟩ = some (.int .i64 a1_1) := bc BK230 1; have hcz34_2 : w31.cell? ⟨gb230, 2, none⟩ = some (.bool a1_2) := bc BK230 2; have hfz34_0 := blk_frozen BK230.out 0; have hfz34_1 := blk_frozen BK230.out 1; have hfz34_2 := blk_frozen BK230.out 2) | (go_at_call 76; (with_reducible refine (impl_FpSub.calls a1_1 a0_1 t231 _ A26.out).mono ?_); rintro e w' ⟨rfl, ⟨nd, rfl⟩⟩; (try first | exact ⟨rfl, _, World.drewN_drewN _ _ _⟩ | exact ⟨rfl, _, Eq.trans (World.drewN_drewN _ _ _) (congrArg (World.drewN _) (Nat.add_assoc _ _ _))⟩)) | (go_at_call 76; (with_reducible refine (impl_FpSub.calls a1_0 a0_0 t232 _ A27.out).mono ?_); rintro e w' ⟨rfl, ⟨nd, rfl⟩⟩; (try first | exact ⟨rfl, _, World.drewN_drewN _ _ _⟩ | exact ⟨rfl, _, Eq.trans (World.drewN_drewN _ _ _) (congrArg (World.drewN _) (Nat.add_assoc _ _ _))⟩)) | (go_at_call 80; (with_reducible refine (impl_FpInv.calls k t232 t233 _ A28.out).mono ?_); rintro e w' ⟨rfl, ⟨nd, rfl⟩⟩; (try first | exact ⟨rfl, _, World.drewN_drewN _ _ _⟩ | exact ⟨rfl, _, Eq.trans (World.drewN_drewN _ _ _) (congrArg (World.drewN _) (Nat.add_assoc _ _ _))⟩)) | (go_at_call 68; (with_reducible refine (impl_FpMul.calls t231 t233 t234 _ A29.out).mono ?_); rintro e w' ⟨rfl, ⟨nd, rfl⟩⟩; (try first | exact ⟨rfl, _, World.drewN_drewN _ _ _⟩ | exact ⟨rfl, _, Eq.trans (World.drewN_drewN _ _ _) (congrArg (World.drewN _) (Nat.add_assoc _ _ _))⟩))); try go_wp2_with (first | ((with_reducible refine gate_dst (N := 2) rfl ?_); refine box_event ?hg (N := 2) ?hd (cs := #[.int .i64 a0_0, .int .i64 a0_1, .bool a0_2]) (t := 48) ?hr ?_; (case hd => rfl); (case hg => rfl); (case hr => first | (go_simp; done) | (go_simp; rfl)); intro gb229 hg w30 hbox hb; have BK229 := Aside0.mk (hbox); have GW229 := bG HB hg; have GE229 := bG HB hg; replace HB := bS HB hb; clear hb hbox hg) | ((with_reducible refine gate_dst (N := 3) rfl ?_); refine box_event ?hg (N := 3) ?hd (cs := #[.int .i64 a1_0, .int .i64 a1_1, .bool a1_2]) (t := 48) ?hr ?_; (case hd => rfl); (case hg => rfl); (case hr => first | (go_simp; done) | (go_simp; rfl)); intro gb230 hg w31 hbox hb; have BK230 := Aside0.mk (hbox); have GW230 := bG HB hg; have GE230 := bG HB hg; replace HB := bS HB hb; have NB229_230 := bL BK229 hg; have NB230_229 := bR BK229 hg; replace BK229 := bB BK229 hb; clear hb hbox hg; have hnb32 := NB229_230.out; have hnc32 := NB230_229.out; have hcz33_0 : w31.cell? ⟨gb229, 0, none⟩ = some (.int .i64 a0_0) := bc BK229 0; have hcz33_1 : w31.cell? ⟨gb229, 1, none⟩ = some (.int .i64 a0_1) := bc BK229 1; have hcz33_2 : w31.cell? ⟨gb229, 2, none⟩ = some (.bool a0_2) := bc BK229 2; have hfz33_0 := blk_frozen BK229.out 0; have hfz33_1 := blk_frozen BK229.out 1; have hfz33_2 := blk_frozen BK229.out 2; have hcz34_0 : w31.cell? ⟨gb230, 0, none⟩ = some (.int .i64 a1_0) := bc BK230 0; have hcz34_1 : w31.cell? ⟨gb230, 1, none⟩ = some (.int .i64 a1_1) := bc BK230 1; have hcz34_2 : w31.cell? ⟨gb230, 2, none⟩ = some (.bool a1_2) := bc BK230 2; have hfz34_0 := blk_frozen BK230.out 0; have hfz34_1 := blk_frozen BK230.out 1; have hfz34_2 := blk_frozen BK230.out 2) | (go_at_call 76; (with_reducible refine (impl_FpSub.calls a1_1 a0_1 t231 _ A26.out).mono ?_); rintro e w' ⟨rfl, ⟨nd, rfl⟩⟩; (try first | exact ⟨rfl, _, World.drewN_drewN _ _ _⟩ | exact ⟨rfl, _, Eq.trans (World.drewN_drewN _ _ _) (congrArg (World.drewN _) (Nat.add_assoc _ _ _))⟩)) | (go_at_call 76; (with_reducible refine (impl_FpSub.calls a1_0 a0_0 t232 _ A27.out).mono ?_); rintro e w' ⟨rfl, ⟨nd, rfl⟩⟩; (try first | exact ⟨rfl, _, World.drewN_drewN _ _ _⟩ | exact ⟨rfl, _, Eq.trans (World.drewN_drewN _ _ _) (congrArg (World.drewN _) (Nat.add_assoc _ _ _))⟩)) | (go_at_call 80; (with_reducible refine (impl_FpInv.calls k t232 t233 _ A28.out).mono ?_); rintro e w' ⟨rfl, ⟨nd, rfl⟩⟩; (try first | exact ⟨rfl, _, World.drewN_drewN _ _ _⟩ | exact ⟨rfl, _, Eq.trans (World.drewN_drewN _ _ _) (congrArg (World.drewN _) (Nat.add_assoc _ _ _))⟩)) | (go_at_call 68; (with_reducible refine (impl_FpMul.calls t231 t233 t234 _ A29.out).mono ?_); rintro e w' ⟨rfl, ⟨nd, rfl⟩⟩; (try first | exact ⟨rfl, _, World.drewN_drewN _ _ _⟩ | exact ⟨rfl, _, Eq.trans (World.drewN_drewN _ _ _) (congrArg (World.drewN _) (Nat.add_assoc _ _ _))⟩))))
  go_ret2
  exact ⟨by first | rfl | (simp [errW_none, errW_some] <;> rfl) | (simp [*, errW_none, errW_some] <;> rfl), bZ HB⟩
/-! ### impl_add: function 69 -/
def impl_add.f (k : Nat) (a0_0 : Int) (a0_1 : Int) (a0_2 : Bool) (a1_0 : Int) (a1_1 : Int) (a1_2 : Bool) : Option (Int × Int × Bool) := if a0_2 = true then (some (a1_0, a1_1, a1_2)) else (if a1_2 = true then (some (a0_0, a0_1, a0_2)) else ((impl_slopeOf.f k a0_0 a0_1 a0_2 a1_0 a1_1 a1_2).bind fun bt244 => (if bt244.2 = true then ((impl_FpMul.f bt244.1 bt244.1).bind fun t246 => ((impl_FpSub.f t246 a0_0).bind fun t247 => ((impl_FpSub.f t247 a1_0).bind fun t248 => ((impl_FpSub.f a0_0 t248).bind fun t249 => ((impl_FpMul.f bt244.1 t249).bind fun t250 => ((impl_FpSub.f t250 a0_1).bind fun t251 => (some (t248, t251, false)))))))) else (some (0, 0, true)))))
theorem impl_add.mono : ∀ a0 a1 a2 a3 a4 a5 k, LeO (impl_add.f k a0 a1 a2 a3 a4 a5) (impl_add.f (k + 1) a0 a1 a2 a3 a4 a5) := by
 intro a0 a1 a2 a3 a4 a5 k
 unfold impl_add.f
 repeat' first
   | (with_reducible exact impl_slopeOf.mono _ _ _ _ _ _ _)
   | (with_reducible exact LeO.refl _)
   | (with_reducible exact LeO.none _)
   | (with_reducible refine LeO.ite ?_ ?_)
   | (with_reducible refine LeO.bind ?_ (fun _ => ?_))
   | exact impl_slopeOf.mono _ _ _ _ _ _ _
   | exact LeO.none _
   | refine LeO.ite ?_ ?_
   | refine LeO.bind ?_ (fun _ => ?_)
def impl_add.T8 : Bool × List (List Nat × List Nat) := (true, [([], []), ([], []), ([0, 1], [0, 1]), ([], []), ([3], [3]), ([2, 4, 2], [2, 4]), ([], []), ([6], [6]), ([5, 7, 5], [5, 7]), ([8, 8, 0, 1, 2, 3, 4, 5, 6, 7, 8], [8])])
def impl_add.B8 : List Nat := [0, 0, 3, 0, 8, 31, 0, 64, 255, 511]
theorem impl_add.tab8 : rtab .any (opsOf Try.f69 8) = impl_add.T8 := by kernel_rfl
theorem impl_add.bits8 : waitsOk impl_add.T8.2 impl_add.B8 = true := by kernel_rfl
def impl_add.T9 : Bool × List (List Nat × List Nat) := (true, [([], []), ([], []), ([], []), ([2], [2]), ([], []), ([3, 4], [3, 4]), ([1, 5, 5], [1, 5]), ([], []), ([7], [7]), ([6, 8, 6], [6, 8]), ([0, 9], [0, 9]), ([10, 9, 0, 1, 2, 3, 4, 5, 6, 7, 8, 9, 10], [10])])
def impl_add.B9 : List Nat := [0, 0, 0, 4, 0, 28, 62, 0, 128, 510, 1023, 2047]
theorem impl_add.tab9 : rtab .any (opsOf Try.f69 9) = impl_add.T9 := by kernel_rfl
theorem impl_add.bits9 : waitsOk impl_add.T9.2 impl_add.B9 = true := by kernel_rfl
set_option maxHeartbeats 8000000 in
set_option maxRecDepth 100000 in
theorem impl_add.calls (k : Nat) (a0_0 : Int) (a0_1 : Int) (a0_2 : Bool) (a1_0 : Int) (a1_1 : Int) (a1_2 : Bool) (r1 : Int) (r2 : Int) (r3 : Bool) (w : World) (h : impl_add.f k a0_0 a0_1 a0_2 a1_0 a1_1 a1_2 = some (r1, r2, r3)) :
  Calls Try.prog 69 #[.agg #[.int .i64 a0_0, .int .i64 a0_1, .bool a0_2], .agg #[.int .i64 a1_0, .int .i64 a1_1, .bool a1_2]] w fun e w' => e = .returned (.agg #[.int .i64 r1, .int .i64 r2, .bool r3]) ∧ Below w.heap.size w w' := by
 have hu48 := Try.underlying48
 have HB := Aside0.mk (Below.refl w.heap.size w)
 have H : (if a0_2 = true then (some (a1_0, a1_1, a1_2)) else (if a1_2 = true then (some (a0_0, a0_1, a0_2)) else ((impl_slopeOf.f k a0_0 a0_1 a0_2 a1_0 a1_1 a1_2).bind fun bt244 => (if bt244.2 = true then ((impl_FpMul.f bt244.1 bt244.1).bind fun t246 => ((impl_FpSub.f t246 a0_0).bind fun t247 => ((impl_FpSub.f t247 a1_0).bind fun t248 => ((impl_FpSub.f a0_0 t248).bind fun t249 => ((impl_FpMul.f bt244.1 t249).bind fun t250 => ((impl_FpSub.f t250 a0_1).bind fun t251 => (some (t248, t251, false)))))))) else (some (0, 0, true)))))) = some (r1, r2, r3) := h
 clear h
 by_cases c3 : a0_2 = true
 ·subst c3
  have H1 : (some (a1_0, a1_1, a1_2)) = some (r1, r2, r3) := by rw [if_pos rfl] at H; exact H
  clear H
  have H := H1
  clear H1
  simp only [Option.some.injEq, Prod.mk.injEq] at H
  obtain ⟨rfl, rfl, rfl⟩ := H
  go_enter Try.func69, Try.ntmps69
  go_wp2_with (first | ((with_reducible refine gate_dst (N := 2) rfl ?_); refine box_event ?hg (N := 2) ?hd (cs := #[.int .i64 a0_0, .int .i64 a0_1, .bool true]) (t := 48) ?hr ?_; (case hd => rfl); (case hg => rfl); (case hr => first | (go_simp; done) | (go_simp; rfl)); intro gb241 hg w4 hbox hb; have BK241 := Aside0.mk (hbox); have GW241 := bG HB hg; have GE241 := bG HB hg; replace HB := bS HB hb; clear hb hbox hg) | ((with_reducible refine gate_dst (N := 3) rfl ?_); refine box_event ?hg (N := 3) ?hd (cs := #[.int .i64 a1_0, .int .i64 a1_1, .bool a1_2]) (t := 48) ?hr ?_; (case hd => rfl); (case hg => rfl); (case hr => first | (go_simp; done) | (go_simp; rfl)); intro gb242 hg w5 hbox hb; have BK242 := Aside0.mk (hbox); have GW242 := bG HB hg; have GE242 := bG HB hg; replace HB := bS HB hb; have NB241_242 := bL BK241 hg; have NB242_241 := bR BK241 hg; replace BK241 := bB BK241 hb; clear hb hbox hg) | ((with_reducible refine gate_dst (N := 4) rfl ?_); refine box_event ?hg (N := 4) ?hd (cs := #[.int .i64 0, .int .i64 0, .bool false]) (t := 48) ?hr ?_; (case hd => rfl); (case hg => rfl); (case hr => first | (go_simp; done) | (go_simp; rfl)); intro gb243 hg w6 hbox hb; have BK243 := Aside0.mk (hbox); have GW243 := bG HB hg; have GE243 := bG HB hg; replace HB := bS HB hb; have NB241_243 := bL BK241 hg; have NB243_241 := bR BK241 hg; replace BK241 := bB BK241 hb; have NB242_243 := bL BK242 hg; have NB243_242 := bR BK242 hg; replace BK242 := bB BK242 hb; clear hb hbox hg; have hnb7 := NB241_242.out; have hnc7 := NB242_241.out; have hnb8 := NB241_243.out; have hnc8 := NB243_241.out; have hcz9_0 : w6.cell? ⟨gb241, 0, none⟩ = some (.int .i64 a0_0) := bc BK241 0; have hcz9_1 : w6.cell? ⟨gb241, 1, none⟩ = some (.int .i64 a0_1) := bc BK241 1; have hcz9_2 : w6.cell? ⟨gb241, 2, none⟩ = some (.bool true) := bc BK241 2; have hfz9_0 := blk_frozen BK241.out 0; have hfz9_1 := blk_frozen BK241.out 1; have hfz9_2 := blk_frozen BK241.out 2; have hnb10 := NB242_243.out; have hnc10 := NB243_242.out; have hcz11_0 : w6.cell? ⟨gb242, 0, none⟩ = some (.int .i64 a1_0) := bc BK242 0; have hcz11_1 : w6.cell? ⟨gb242, 1, none⟩ = some (.int .i64 a1_1) := bc BK242 1; have hcz11_2 : w6.cell? ⟨gb242, 2, none⟩ = some (.bool a1_2) := bc BK242 2; have hfz11_0 := blk_frozen BK242.out 0; have hfz11_1 := blk_frozen BK242.out 1; have hfz11_2 := blk_frozen BK242.out 2; have hcz12_0 : w6.cell? ⟨gb243, 0, none⟩ = some (.int .i64 0) := bc BK243 0; have hcz12_1 : w6.cell? ⟨gb243, 1, none⟩ = some (.int .i64 0) := bc BK243 1; have hcz12_2 : w6.cell? ⟨gb243, 2, none⟩ = some (.bool false) := bc BK243 2; have hfz12_0 := blk_frozen BK243.out 0; have hfz12_1 := blk_frozen BK243.out 1; have hfz12_2 := blk_frozen BK243.out 2))
  refine bodyPost_ret (results_cell_row rfl _ _ gb243 48 #[.int .i64 a1_0, .int .i64 a1_1, .bool a1_2] (0, 0) _ rfl (by (with_reducible repeat (first | refine blk_drewN ?_ _ | refine blk_drew ?_ | refine blk_alloc ?_ _)); refine blk_put (cs := #[.int .i64 a1_0, .int .i64 a1_1, .bool false]) ?_ 2 _ rfl; (with_reducible repeat (first | refine blk_drewN ?_ _ | refine blk_drew ?_ | refine blk_alloc ?_ _)); refine blk_put (cs := #[.int .i64 a1_0, .int .i64 0, .bool false]) ?_ 1 _ rfl; (with_reducible repeat (first | refine blk_drewN ?_ _ | refine blk_drew ?_ | refine blk_alloc ?_ _)); refine blk_put (cs := #[.int .i64 0, .int .i64 0, .bool false]) ?_ 0 _ rfl; (with_reducible repeat (first | refine blk_drewN ?_ _ | refine blk_drew ?_ | refine blk_alloc ?_ _)); exact BK243.out) Try.underlying48 rfl (by kernel_rfl)) rfl ?_
  exact ⟨by first | rfl | (simp [errW_none, errW_some] <;> rfl) | (simp [*, errW_none, errW_some] <;> rfl), bZ HB⟩
 ·replace c3 := Bool.eq_false_iff.mpr c3
  subst c3
  have H1 : (if a1_2 = true then (some (a0_0, a0_1, false)) else ((impl_slopeOf.f k a0_0 a0_1 false a1_0 a1_1 a1_2).bind fun bt244 => (if bt244.2 = true then ((impl_FpMul.f bt244.1 bt244.1).bind fun t246 => ((impl_FpSub.f t246 a0_0).bind fun t247 => ((impl_FpSub.f t247 a1_0).bind fun t248 => ((impl_FpSub.f a0_0 t248).bind fun t249 => ((impl_FpMul.f bt244.1 t249).bind fun t250 => ((impl_FpSub.f t250 a0_1).bind fun t251 => (some (t248, t251, false)))))))) else (some (0, 0, true))))) = some (r1, r2, r3) := by rw [if_neg (show ¬ (false = true) by decide)] at H; exact H
  clear H
  have H := H1
  clear H1
  by_cases c13 : a1_2 = true
  ·subst c13
   have H1 : (some (a0_0, a0_1, false)) = some (r1, r2, r3) := by rw [if_pos rfl] at H; exact H
   clear H
   have H := H1
   clear H1
   simp only [Option.some.injEq, Prod.mk.injEq] at H
   obtain ⟨rfl, rfl, rfl⟩ := H
   go_enter Try.func69, Try.ntmps69
   go_wp2_with (first | ((with_reducible refine gate_dst (N := 2) rfl ?_); refine box_event ?hg (N := 2) ?hd (cs := #[.int .i64 a0_0, .int .i64 a0_1, .bool false]) (t := 48) ?hr ?_; (case hd => rfl); (case hg => rfl); (case hr => first | (go_simp; done) | (go_simp; rfl)); intro gb241 hg w14 hbox hb; have BK241 := Aside0.mk (hbox); have GW241 := bG HB hg; have GE241 := bG HB hg; replace HB := bS HB hb; clear hb hbox hg) | ((with_reducible refine gate_dst (N := 3) rfl ?_); refine box_event ?hg (N := 3) ?hd (cs := #[.int .i64 a1_0, .int .i64 a1_1, .bool true]) (t := 48) ?hr ?_; (case hd => rfl); (case hg => rfl); (case hr => first | (go_simp; done) | (go_simp; rfl)); intro gb242 hg w15 hbox hb; have BK242 := Aside0.mk (hbox); have GW242 := bG HB hg; have GE242 := bG HB hg; replace HB := bS HB hb; have NB241_242 := bL BK241 hg; have NB242_241 := bR BK241 hg; replace BK241 := bB BK241 hb; clear hb hbox hg) | ((with_reducible refine gate_dst (N := 4) rfl ?_); refine box_event ?hg (N := 4) ?hd (cs := #[.int .i64 0, .int .i64 0, .bool false]) (t := 48) ?hr ?_; (case hd => rfl); (case hg => rfl); (case hr => first | (go_simp; done) | (go_simp; rfl)); intro gb243 hg w16 hbox hb; have BK243 := Aside0.mk (hbox); have GW243 := bG HB hg; have GE243 := bG HB hg; replace HB := bS HB hb; have NB241_243 := bL BK241 hg; have NB243_241 := bR BK241 hg; replace BK241 := bB BK241 hb; have NB242_243 := bL BK242 hg; have NB243_242 := bR BK242 hg; replace BK242 := bB BK242 hb; clear hb hbox hg; have hnb17 := NB241_242.out; have hnc17 := NB242_241.out; have hnb18 := NB241_243.out; have hnc18 := NB243_241.out; have hcz19_0 : w16.cell? ⟨gb241, 0, none⟩ = some (.int .i64 a0_0) := bc BK241 0; have hcz19_1 : w16.cell? ⟨gb241, 1, none⟩ = some (.int .i64 a0_1) := bc BK241 1; have hcz19_2 : w16.cell? ⟨gb241, 2, none⟩ = some (.bool false) := bc BK241 2; have hfz19_0 := blk_frozen BK241.out 0; have hfz19_1 := blk_frozen BK241.out 1; have hfz19_2 := blk_frozen BK241.out 2; have hnb20 := NB242_243.out; have hnc20 := NB243_242.out; have hcz21_0 : w16.cell? ⟨gb242, 0, none⟩ = some (.int .i64 a1_0) := bc BK242 0; have hcz21_1 : w16.cell? ⟨gb242, 1, none⟩ = some (.int .i64 a1_1) := bc BK242 1; have hcz21_2 : w16.cell? ⟨gb242, 2, none⟩ = some (.bool true) := bc BK242 2; have hfz21_0 := blk_frozen BK242.out 0; have hfz21_1 := blk_frozen BK242.out 1; have hfz21_2 := blk_frozen BK242.out 2; have hcz22_0 : w16.cell? ⟨gb243, 0, none⟩ = some (.int .i64 0) := bc BK243 0; have hcz22_1 : w16.cell? ⟨gb243, 1, none⟩ = some (.int .i64 0) := bc BK243 1; have hcz22_2 : w16.cell? ⟨gb243, 2, none⟩ = some (.bool false) := bc BK243 2; have hfz22_0 := blk_frozen BK243.out 0; have hfz22_1 := blk_frozen BK243.out 1; have hfz22_2 := blk_frozen BK243.out 2))
   refine bodyPost_ret (results_cell_row rfl _ _ gb243 48 #[.int .i64 a0_0, .int .i64 a0_1, .bool false] (0, 0) _ rfl (by (with_reducible repeat (first | refine blk_drewN ?_ _ | refine blk_drew ?_ | refine blk_alloc ?_ _)); refine blk_put (cs := #[.int .i64 a0_0, .int .i64 a0_1, .bool false]) ?_ 2 _ rfl; (with_reducible repeat (first | refine blk_drewN ?_ _ | refine blk_drew ?_ | refine blk_alloc ?_ _)); refine blk_put (cs := #[.int .i64 a0_0, .int .i64 0, .bool false]) ?_ 1 _ rfl; (with_reducible repeat (first | refine blk_drewN ?_ _ | refine blk_drew ?_ | refine blk_alloc ?_ _)); refine blk_put (cs := #[.int .i64 0, .int .i64 0, .bool false]) ?_ 0 _ rfl; (with_reducible repeat (first | refine blk_drewN ?_ _ | refine blk_drew ?_ | refine blk_alloc ?_ _)); exact BK243.out) Try.underlying48 rfl (by kernel_rfl)) rfl ?_
   exact ⟨by first | rfl | (simp [errW_none, errW_some] <;> rfl) | (simp [*, errW_none, errW_some] <;> rfl), bZ HB⟩
  ·replace c13 := Bool.eq_false_iff.mpr c13
   subst c13
   have H1 : ((impl_slopeOf.f k a0_0 a0_1 false a1_0 a1_1 false).bind fun bt244 => (if bt244.2 = true then ((impl_FpMul.f bt244.1 bt244.1).bind fun t246 => ((impl_FpSub.f t246 a0_0).bind fun t247 => ((impl_FpSub.f t247 a1_0).bind fun t248 => ((impl_FpSub.f a0_0 t248).bind fun t249 => ((impl_FpMul.f bt244.1 t249).bind fun t250 => ((impl_FpSub.f t250 a0_1).bind fun t251 => (some (t248, t251, false)))))))) else (some (0, 0, true)))) = some (r1, r2, r3) := by rw [if_neg (show ¬ (false = true) by decide)] at H; exact H
   clear H
   have H := H1
   clear H1
   replace H := Option.bind_eq_some_iff.mp H
   obtain ⟨⟨t244, t245⟩, A230, H⟩ := H
   replace H : (if t245 = true then ((impl_FpMul.f t244 t244).bind fun t246 => ((impl_FpSub.f t246 a0_0).bind fun t247 => ((impl_FpSub.f t247 a1_0).bind fun t248 => ((impl_FpSub.f a0_0 t248).bind fun t249 => ((impl_FpMul.f t244 t249).bind fun t250 => ((impl_FpSub.f t250 a0_1).bind fun t251 => (some (t248, t251, false)))))))) else (some (0, 0, true))) = some (r1, r2, r3) := H
   have A23 := Aside0.mk A230
   clear A230
   by_cases c24 : t245 = true
   ·subst c24
    have H1 : ((impl_FpMul.f t244 t244).bind fun t246 => ((impl_FpSub.f t246 a0_0).bind fun t247 => ((impl_FpSub.f t247 a1_0).bind fun t248 => ((impl_FpSub.f a0_0 t248).bind fun t249 => ((impl_FpMul.f t244 t249).bind fun t250 => ((impl_FpSub.f t250 a0_1).bind fun t251 => (some (t248, t251, false)))))))) = some (r1, r2, r3) := by rw [if_pos rfl] at H; exact H
    clear H
    have H := H1
    clear H1
    replace H := Option.bind_eq_some_iff.mp H
    obtain ⟨t246, A250, H⟩ := H
    replace H : ((impl_FpSub.f t246 a0_0).bind fun t247 => ((impl_FpSub.f t247 a1_0).bind fun t248 => ((impl_FpSub.f a0_0 t248).bind fun t249 => ((impl_FpMul.f t244 t249).bind fun t250 => ((impl_FpSub.f t250 a0_1).bind fun t251 => (some (t248, t251, false))))))) = some (r1, r2, r3) := H
    have A25 := Aside0.mk A250
    clear A250
    replace H := Option.bind_eq_some_iff.mp H
    obtain ⟨t247, A260, H⟩ := H
    replace H : ((impl_FpSub.f t247 a1_0).bind fun t248 => ((impl_FpSub.f a0_0 t248).bind fun t249 => ((impl_FpMul.f t244 t249).bind fun t250 => ((impl_FpSub.f t250 a0_1).bind fun t251 => (some (t248, t251, false)))))) = some (r1, r2, r3) := H
    have A26 := Aside0.mk A260
    clear A260
    replace H := Option.bind_eq_some_iff.mp H
    obtain ⟨t248, A270, H⟩ := H
    replace H : ((impl_FpSub.f a0_0 t248).bind fun t249 => ((impl_FpMul.f t244 t249).bind fun t250 => ((impl_FpSub.f t250 a0_1).bind fun t251 => (some (t248, t251, false))))) = some (r1, r2, r3) := H
    have A27 := Aside0.mk A270
    clear A270
    replace H := Option.bind_eq_some_iff.mp H
    obtain ⟨t249, A280, H⟩ := H
    replace H : ((impl_FpMul.f t244 t249).bind fun t250 => ((impl_FpSub.f t250 a0_1).bind fun t251 => (some (t248, t251, false)))) = some (r1, r2, r3) := H
    have A28 := Aside0.mk A280
    clear A280
    replace H := Option.bind_eq_some_iff.mp H
    obtain ⟨t250, A290, H⟩ := H
    replace H : ((impl_FpSub.f t250 a0_1).bind fun t251 => (some (t248, t251, false))) = some (r1, r2, r3) := H
    have A29 := Aside0.mk A290
    clear A290
    replace H := Option.bind_eq_some_iff.mp H
    obtain ⟨t251, A300, H⟩ := H
    replace H : (some (t248, t251, false)) = some (r1, r2, r3) := H
    have A30 := Aside0.mk A300
    clear A300
    simp only [Option.some.injEq, Prod.mk.injEq] at H
    obtain ⟨rfl, rfl, rfl⟩ := H
    go_enter Try.func69, Try.ntmps69
    try go_wp2_with (first | ((with_reducible refine gate_dst (N := 2) rfl ?_); refine box_event ?hg (N := 2) ?hd (cs := #[.int .i64 a0_0, .int .i64 a0_1, .bool false]) (t := 48) ?hr ?_; (case hd => rfl); (case hg => rfl); (case hr => first | (go_simp; done) | (go_simp; rfl)); intro gb241 hg w31 hbox hb; have BK241 := Aside0.mk (hbox); have GW241 := bG HB hg; have GE241 := bG HB hg; replace HB := bS HB hb; clear hb hbox hg) | ((with_reducible refine gate_dst (N := 3) rfl ?_); refine box_event ?hg (N := 3) ?hd (cs := #[.int .i64 a1_0, .int .i64 a1_1, .bool false]) (t := 48) ?hr ?_; (case hd => rfl); (case hg => rfl); (case hr => first | (go_simp; done) | (go_simp; rfl)); intro gb242 hg w32 hbox hb; have BK242 := Aside0.mk (hbox); have GW242 := bG HB hg; have GE242 := bG HB hg; replace HB := bS HB hb; have NB241_242 := bL BK241 hg; have NB242_241 := bR BK241 hg; replace BK241 := bB BK241 hb; clear hb hbox hg) | ((with_reducible refine gate_dst (N := 4) rfl ?_); refine box_event ?hg (N := 4) ?hd (cs := #[.int .i64 0, .int .i64 0, .bool false]) (t := 48) ?hr ?_; (case hd => rfl); (case hg => rfl); (case hr => first | (go_simp; done) | (go_simp; rfl)); intro gb243 hg w33 hbox hb; have BK243 := Aside0.mk (hbox); have GW243 := bG HB hg; have GE243 := bG HB hg; replace HB := bS HB hb; have NB241_243 := bL BK241 hg; have NB243_241 := bR BK241 hg; replace BK241 := bB BK241 hb; have NB242_243 := bL BK242 hg; have NB243_242 := bR BK242 hg; replace BK242 := bB BK242 hb; clear hb hbox hg; have hnb34 := NB241_242.out; have hnc34 := NB242_241.out; have hnb35 := NB241_243.out; have hnc35 := NB243_241.out; have hcz36_0 : w33.cell? ⟨gb241, 0, none⟩ = some (.int .i64 a0_0) := bc BK241 0; have hcz36_1 : w33.cell? ⟨gb241, 1, none⟩ = some (.int .i64 a0_1) := bc BK241 1; have hcz36_2 : w33.cell? ⟨gb241, 2, none⟩ = some (.bool false) := bc BK241 2; have hfz36_0 := blk_frozen BK241.out 0; have hfz36_1 := blk_frozen BK241.out 1; have hfz36_2 := blk_frozen BK241.out 2; have hnb37 := NB242_243.out; have hnc37 := NB243_242.out; have hcz38_0 : w33.cell? ⟨gb242, 0, none⟩ = some (.int .i64 a1_0) := bc BK242 0; have hcz38_1 : w33.cell? ⟨gb242, 1, none⟩ = some (.int .i64 a1_1) := bc BK242 1; have hcz38_2 : w33.cell? ⟨gb242, 2, none⟩ = some (.bool false) := bc BK242 2; have hfz38_0 := blk_frozen BK242.out 0; have hfz38_1 := blk_frozen BK242.out 1; have hfz38_2 := blk_frozen BK242.out 2) | ((with_reducible refine gate_callee (f := 78) rfl ?_); refine goesL_ (some 17) rfl rfl Try.func78 (by kernel_rfl) rfl #[.agg #[.int .i64 a0_0, .int .i64 a0_1, .bool false], .agg #[.int .i64 a1_0, .int .i64 a1_1, .bool false]] rfl (by (try simp only [List.map_toArray, List.map_cons, List.map_nil]); first | done | rfl | (simp only [List.length_drop, List.length_take]; rfl)) ?_; (with_reducible refine (impl_slopeOf.calls k a0_0 a0_1 false a1_0 a1_1 false t244 true _ A23.out).mono ?_); rintro e w39 ⟨rfl, hb⟩; refine ⟨_, rfl, ?_⟩; replace BK241 := bB BK241 hb; replace BK242 := bB BK242 hb; replace BK243 := bB BK243 hb; replace HB := bS HB hb; (try clear hb); (try clear hb2); (try clear hk); (try clear hi)))
    replace BK241 := Aside0.mk (blk_drew BK241.out)
    replace BK242 := Aside0.mk (blk_drew BK242.out)
    replace BK243 := Aside0.mk (blk_drew BK243.out)
    replace HB := Aside0.mk (below_drew1 HB.out)
    refine start_ (n := 10) (S := fun w' => w'.cell? ⟨gb241, 0, none⟩ = some (.int .i64 a0_0) ∧ w'.cell? ⟨gb241, 1, none⟩ = some (.int .i64 a0_1) ∧ w'.cell? ⟨gb241, 2, none⟩ = some (.bool false) ∧ w'.cell? ⟨gb242, 0, none⟩ = some (.int .i64 a1_0) ∧ w'.cell? ⟨gb242, 1, none⟩ = some (.int .i64 a1_1) ∧ w'.cell? ⟨gb242, 2, none⟩ = some (.bool false)) (ds := []) #[false, false, false, false, false, false, false, false, false, false] (by kernel_rfl) rfl rfl ⟨bc BK241 0, bc BK241 1, bc BK241 2, bc BK242 0, bc BK242 1, bc BK242 2⟩ (fun hHeld => ?_); refine with_tabW impl_add.tab8 impl_add.bits8 (fun HT_ HW_ => ?_)
    generalize w39.drew = w40 at BK241 BK242 BK243 HB hHeld ⊢
    refine pure_ (i := 0) (N := some 23) (v := ?_) (a' := ?_) #[true, false, false, false, false, false, false, false, false, false] rfl rfl (any_of HT_.out (by kernel_rfl)) (fun _ _ _ h => h) (Or.inl ⟨by rfl, ?_⟩) ?_ ?_
    rotate_left
    ·intro w'
     go_simp
     with_reducible rfl
    rotate_left
    ·simp only [Act.put, List.setIfInBounds_toArray, List.set_cons_zero, List.set_cons_succ, i64_w, i32_w]
     rfl
    refine pure_ (i := 1) (N := some 24) (v := ?_) (a' := ?_) #[true, true, false, false, false, false, false, false, false, false] rfl rfl (any_of HT_.out (by kernel_rfl)) (fun _ _ _ h => h) (Or.inl ⟨by rfl, ?_⟩) ?_ ?_
    rotate_left
    ·intro w'
     go_simp
     with_reducible rfl
    rotate_left
    ·simp only [Act.put, List.setIfInBounds_toArray, List.set_cons_zero, List.set_cons_succ, i64_w, i32_w]
     rfl
    refine pure_ (i := 3) (N := some 26) (v := ?_) (a' := ?_) #[true, true, false, true, false, false, false, false, false, false] rfl rfl (any_of HT_.out (by kernel_rfl)) (fun _ _ _ h => h) (Or.inl ⟨by rfl, ?_⟩) ?_ ?_
    rotate_left
    ·intro w'
     go_simp
     with_reducible rfl
    rotate_left
    ·simp only [Act.put, List.setIfInBounds_toArray, List.set_cons_zero, List.set_cons_succ, i64_w, i32_w]
     rfl
    refine pure_ (i := 6) (N := some 29) (v := ?_) (a' := ?_) #[true, true, false, true, false, false, true, false, false, false] rfl rfl (any_of HT_.out (by kernel_rfl)) (fun _ _ _ h => h) (Or.inl ⟨by rfl, ?_⟩) ?_ ?_
    rotate_left
    ·intro w'
     go_simp
     with_reducible rfl
    rotate_left
    ·simp only [Act.put, List.setIfInBounds_toArray, List.set_cons_zero, List.set_cons_succ, i64_w, i32_w]
     rfl
    refine take_ (i := 4) (N := some 27) (v := ?_) (a' := ?_) #[true, true, false, true, true, false, true, false, false, false] rfl rfl (take_ofW HT_.out HW_.out (by kernel_rfl)) (fun _ _ _ h => h) (Or.inl ⟨by rfl, ?_⟩) hHeld ?_ ?_
    rotate_left
    ·rintro w' ⟨s0, s1, s2, s3, s4, s5⟩
     go_simp
     with_reducible rfl
    rotate_left
    ·simp only [Act.put, List.setIfInBounds_toArray, List.set_cons_zero, List.set_cons_succ, i64_w, i32_w]
     rfl
    refine take_ (i := 7) (N := some 30) (v := ?_) (a' := ?_) #[true, true, false, true, true, false, true, true, false, false] rfl rfl (take_ofW HT_.out HW_.out (by kernel_rfl)) (fun _ _ _ h => h) (Or.inl ⟨by rfl, ?_⟩) hHeld ?_ ?_
    rotate_left
    ·rintro w' ⟨s0, s1, s2, s3, s4, s5⟩
     go_simp
     with_reducible rfl
    rotate_left
    ·simp only [Act.put, List.setIfInBounds_toArray, List.set_cons_zero, List.set_cons_succ, i64_w, i32_w]
     rfl
    refine one_ (i := 2) (N := some 25) #[true, true, true, true, true, false, true, true, false, false] rfl rfl (one_of HT_.out (by kernel_rfl)) (by decide) (fun K hK => ?_)
    refine goes_ Try.func68 (by kernel_rfl) rfl #[.int .i64 t244, .int .i64 t244] (by rfl) rfl rfl (by (try simp only [List.map_toArray, List.map_cons, List.map_nil]); first | done | rfl | (simp only [List.length_drop, List.length_take]; rfl)) ?_
    with_reducible refine (impl_FpMul.calls t244 t244 t246 _ A25.out).mono ?_
    rintro e w' ⟨rfl, ⟨nd, rfl⟩⟩
    refine ⟨_, rfl, ?_⟩
    refine hK.out _ _ ⟨bc BK241 0, bc BK241 1, bc BK241 2, bc BK242 0, bc BK242 1, bc BK242 2⟩ (fun hHeld => ?_)
    clear hK K
    refine norm_ (a' := ?_) ?_ ?_
    rotate_left
    ·show Act.put _ (some 25) _ = _
     simp only [Act.put, List.setIfInBounds_toArray, List.set_cons_zero, List.set_cons_succ, i64_w, i32_w]
     rfl
    refine one_ (i := 5) (N := some 28) #[true, true, true, true, true, true, true, true, false, false] rfl rfl (one_of HT_.out (by kernel_rfl)) (by decide) (fun K hK => ?_)
    refine goes_ Try.func76 (by kernel_rfl) rfl #[.int .i64 t246, .int .i64 a0_0] (by rfl) rfl rfl (by (try simp only [List.map_toArray, List.map_cons, List.map_nil]); first | done | rfl | (simp only [List.length_drop, List.length_take]; rfl)) ?_
    with_reducible refine (impl_FpSub.calls t246 a0_0 t247 _ A26.out).mono ?_
    rintro e w' ⟨rfl, ⟨nd, rfl⟩⟩
    refine ⟨_, rfl, ?_⟩
    refine hK.out _ _ ⟨bc BK241 0, bc BK241 1, bc BK241 2, bc BK242 0, bc BK242 1, bc BK242 2⟩ (fun hHeld => ?_)
    clear hK K
    refine norm_ (a' := ?_) ?_ ?_
    rotate_left
    ·show Act.put _ (some 28) _ = _
     simp only [Act.put, List.setIfInBounds_toArray, List.set_cons_zero, List.set_cons_succ, i64_w, i32_w]
     rfl
    refine one_ (i := 8) (N := some 31) #[true, true, true, true, true, true, true, true, true, false] rfl rfl (one_of HT_.out (by kernel_rfl)) (by decide) (fun K hK => ?_)
    refine goes_ Try.func76 (by kernel_rfl) rfl #[.int .i64 t247, .int .i64 a1_0] (by rfl) rfl rfl (by (try simp only [List.map_toArray, List.map_cons, List.map_nil]); first | done | rfl | (simp only [List.length_drop, List.length_take]; rfl)) ?_
    with_reducible refine (impl_FpSub.calls t247 a1_0 t248 _ A27.out).mono ?_
    rintro e w' ⟨rfl, ⟨nd, rfl⟩⟩
    refine ⟨_, rfl, ?_⟩
    refine hK.out _ _ ⟨bc BK241 0, bc BK241 1, bc BK241 2, bc BK242 0, bc BK242 1, bc BK242 2⟩ (fun hHeld => ?_)
    clear hK K
    refine norm_ (a' := ?_) ?_ ?_
    rotate_left
    ·show Act.put _ (some 31) _ = _
     simp only [Act.put, List.setIfInBounds_toArray, List.set_cons_zero, List.set_cons_succ, i64_w, i32_w]
     rfl
    refine pure_ (i := 9) (N := some 7) (v := ?_) (a' := ?_) #[true, true, true, true, true, true, true, true, true, true] rfl rfl (any_of HT_.out (by kernel_rfl)) (fun _ _ _ h => h) (Or.inl ⟨by rfl, ?_⟩) ?_ ?_
    rotate_left
    ·intro w'
     go_simp
     with_reducible rfl
    rotate_left
    ·simp only [Act.put, List.setIfInBounds_toArray, List.set_cons_zero, List.set_cons_succ, i64_w, i32_w]
     rfl
    refine done_ (done_of HT_.out (by kernel_rfl)) ?_
    try go_wp2
    (try simp only [World.drewN_drewN]); (try (rw [drewN_self w40]; generalize hq_ : World.drewN w40 _ = w40; replace BK241 : Aside0 (w40.heap[gb241]? = some (.cells #[.int .i64 a0_0, .int .i64 a0_1, .bool false] 48 (0, 0))) := ⟨by rw [← hq_]; exact (bP BK241)⟩; replace BK242 : Aside0 (w40.heap[gb242]? = some (.cells #[.int .i64 a1_0, .int .i64 a1_1, .bool false] 48 (0, 0))) := ⟨by rw [← hq_]; exact (bP BK242)⟩; replace BK243 : Aside0 (w40.heap[gb243]? = some (.cells #[.int .i64 0, .int .i64 0, .bool false] 48 (0, 0))) := ⟨by rw [← hq_]; exact (bP BK243)⟩; replace HB : Aside0 (Below w.heap.size w w40) := ⟨by rw [← hq_]; exact (bZ HB)⟩; clear hq_))
    replace BK241 := Aside0.mk (blk_drew BK241.out)
    replace BK242 := Aside0.mk (blk_drew BK242.out)
    replace BK243 := Aside0.mk (blk_drew BK243.out)
    replace HB := Aside0.mk (below_drew1 HB.out)
    refine start_ (n := 12) (S := fun w' => w'.cell? ⟨gb241, 0, none⟩ = some (.int .i64 a0_0) ∧ w'.cell? ⟨gb241, 1, none⟩ = some (.int .i64 a0_1) ∧ w'.cell? ⟨gb241, 2, none⟩ = some (.bool false)) (ds := []) #[false, false, false, false, false, false, false, false, false, false, false, false] (by kernel_rfl) rfl rfl ⟨bc BK241 0, bc BK241 1, bc BK241 2⟩ (fun hHeld => ?_); refine with_tabW impl_add.tab9 impl_add.bits9 (fun HT_ HW_ => ?_)
    generalize w40.drew = w41 at BK241 BK242 BK243 HB hHeld ⊢
    refine pure_ (i := 0) (N := some 32) (v := ?_) (a' := ?_) #[true, false, false, false, false, false, false, false, false, false, false, false] rfl rfl (any_of HT_.out (by kernel_rfl)) (fun _ _ _ h => h) (Or.inl ⟨by rfl, ?_⟩) ?_ ?_
    rotate_left
    ·intro w'
     go_simp
     with_reducible rfl
    rotate_left
    ·simp only [Act.put, List.setIfInBounds_toArray, List.set_cons_zero, List.set_cons_succ, i64_w, i32_w]
     rfl
    refine pure_ (i := 1) (N := some 33) (v := ?_) (a' := ?_) #[true, true, false, false, false, false, false, false, false, false, false, false] rfl rfl (any_of HT_.out (by kernel_rfl)) (fun _ _ _ h => h) (Or.inl ⟨by rfl, ?_⟩) ?_ ?_
    rotate_left
    ·intro w'
     go_simp
     with_reducible rfl
    rotate_left
    ·simp only [Act.put, List.setIfInBounds_toArray, List.set_cons_zero, List.set_cons_succ, i64_w, i32_w]
     rfl
    refine pure_ (i := 2) (N := some 34) (v := ?_) (a' := ?_) #[true, true, true, false, false, false, false, false, false, false, false, false] rfl rfl (any_of HT_.out (by kernel_rfl)) (fun _ _ _ h => h) (Or.inl ⟨by rfl, ?_⟩) ?_ ?_
    rotate_left
    ·intro w'
     go_simp
     with_reducible rfl
    rotate_left
    ·simp only [Act.put, List.setIfInBounds_toArray, List.set_cons_zero, List.set_cons_succ, i64_w, i32_w]
     rfl
    refine pure_ (i := 4) (N := some 36) (v := ?_) (a' := ?_) #[true, true, true, false, true, false, false, false, false, false, false, false] rfl rfl (any_of HT_.out (by kernel_rfl)) (fun _ _ _ h => h) (Or.inl ⟨by rfl, ?_⟩) ?_ ?_
    rotate_left
    ·intro w'
     go_simp
     with_reducible rfl
    rotate_left
    ·simp only [Act.put, List.setIfInBounds_toArray, List.set_cons_zero, List.set_cons_succ, i64_w, i32_w]
     rfl
    refine pure_ (i := 7) (N := some 39) (v := ?_) (a' := ?_) #[true, true, true, false, true, false, false, true, false, false, false, false] rfl rfl (any_of HT_.out (by kernel_rfl)) (fun _ _ _ h => h) (Or.inl ⟨by rfl, ?_⟩) ?_ ?_
    rotate_left
    ·intro w'
     go_simp
     with_reducible rfl
    rotate_left
    ·simp only [Act.put, List.setIfInBounds_toArray, List.set_cons_zero, List.set_cons_succ, i64_w, i32_w]
     rfl
    refine take_ (i := 3) (N := some 35) (v := ?_) (a' := ?_) #[true, true, true, true, true, false, false, true, false, false, false, false] rfl rfl (take_ofW HT_.out HW_.out (by kernel_rfl)) (fun _ _ _ h => h) (Or.inl ⟨by rfl, ?_⟩) hHeld ?_ ?_
    rotate_left
    ·rintro w' ⟨s0, s1, s2⟩
     go_simp
     with_reducible rfl
    rotate_left
    ·simp only [Act.put, List.setIfInBounds_toArray, List.set_cons_zero, List.set_cons_succ, i64_w, i32_w]
     rfl
    refine take_ (i := 8) (N := some 40) (v := ?_) (a' := ?_) #[true, true, true, true, true, false, false, true, true, false, false, false] rfl rfl (take_ofW HT_.out HW_.out (by kernel_rfl)) (fun _ _ _ h => h) (Or.inl ⟨by rfl, ?_⟩) hHeld ?_ ?_
    rotate_left
    ·rintro w' ⟨s0, s1, s2⟩
     go_simp
     with_reducible rfl
    rotate_left
    ·simp only [Act.put, List.setIfInBounds_toArray, List.set_cons_zero, List.set_cons_succ, i64_w, i32_w]
     rfl
    refine one_ (i := 5) (N := some 37) #[true, true, true, true, true, true, false, true, true, false, false, false] rfl rfl (one_of HT_.out (by kernel_rfl)) (by decide) (fun K hK => ?_)
    refine goes_ Try.func76 (by kernel_rfl) rfl #[.int .i64 a0_0, .int .i64 t248] (by rfl) rfl rfl (by (try simp only [List.map_toArray, List.map_cons, List.map_nil]); first | done | rfl | (simp only [List.length_drop, List.length_take]; rfl)) ?_
    with_reducible refine (impl_FpSub.calls a0_0 t248 t249 _ A28.out).mono ?_
    rintro e w' ⟨rfl, ⟨nd, rfl⟩⟩
    refine ⟨_, rfl, ?_⟩
    refine hK.out _ _ ⟨bc BK241 0, bc BK241 1, bc BK241 2⟩ (fun hHeld => ?_)
    clear hK K
    refine norm_ (a' := ?_) ?_ ?_
    rotate_left
    ·show Act.put _ (some 37) _ = _
     simp only [Act.put, List.setIfInBounds_toArray, List.set_cons_zero, List.set_cons_succ, i64_w, i32_w]
     rfl
    refine one_ (i := 6) (N := some 38) #[true, true, true, true, true, true, true, true, true, false, false, false] rfl rfl (one_of HT_.out (by kernel_rfl)) (by decide) (fun K hK => ?_)
    refine goes_ Try.func68 (by kernel_rfl) rfl #[.int .i64 t244, .int .i64 t249] (by rfl) rfl rfl (by (try simp only [List.map_toArray, List.map_cons, List.map_nil]); first | done | rfl | (simp only [List.length_drop, List.length_take]; rfl)) ?_
    with_reducible refine (impl_FpMul.calls t244 t249 t250 _ A29.out).mono ?_
    rintro e w' ⟨rfl, ⟨nd, rfl⟩⟩
    refine ⟨_, rfl, ?_⟩
    refine hK.out _ _ ⟨bc BK241 0, bc BK241 1, bc BK241 2⟩ (fun hHeld => ?_)
    clear hK K
    refine norm_ (a' := ?_) ?_ ?_
    rotate_left
    ·show Act.put _ (some 38) _ = _
     simp only [Act.put, List.setIfInBounds_toArray, List.set_cons_zero, List.set_cons_succ, i64_w, i32_w]
     rfl
    refine one_ (i := 9) (N := some 41) #[true, true, true, true, true, true, true, true, true, true, false, false] rfl rfl (one_of HT_.out (by kernel_rfl)) (by decide) (fun K hK => ?_)
    refine goes_ Try.func76 (by kernel_rfl) rfl #[.int .i64 t250, .int .i64 a0_1] (by rfl) rfl rfl (by (try simp only [List.map_toArray, List.map_cons, List.map_nil]); first | done | rfl | (simp only [List.length_drop, List.length_take]; rfl)) ?_
    with_reducible refine (impl_FpSub.calls t250 a0_1 t251 _ A30.out).mono ?_
    rintro e w' ⟨rfl, ⟨nd, rfl⟩⟩
    refine ⟨_, rfl, ?_⟩
    refine hK.out _ _ ⟨bc BK241 0, bc BK241 1, bc BK241 2⟩ (fun hHeld => ?_)
    clear hK K
    refine norm_ (a' := ?_) ?_ ?_
    rotate_left
    ·show Act.put _ (some 41) _ = _
     simp only [Act.put, List.setIfInBounds_toArray, List.set_cons_zero, List.set_cons_succ, i64_w, i32_w]
     rfl
    refine pure_ (i := 10) (N := some 42) (v := ?_) (a' := ?_) #[true, true, true, true, true, true, true, true, true, true, true, false] rfl rfl (any_of HT_.out (by kernel_rfl)) (fun _ _ _ h => h) (Or.inl ⟨by rfl, ?_⟩) ?_ ?_
    rotate_left
    ·intro w'
     go_simp
     with_reducible rfl
    rotate_left
    ·simp only [Act.put, List.setIfInBounds_toArray, List.set_cons_zero, List.set_cons_succ, i64_w, i32_w]
     rfl
    refine one_ (i := 11) (N := none) #[true, true, true, true, true, true, true, true, true, true, true, true] rfl rfl (one_of HT_.out (by kernel_rfl)) (by decide) (fun K hK => ?_)
    have hs42 : w41.cell? ⟨gb243, 0, none⟩ = some (.int .i64 0) := bc BK243 0
    have hfs42 := blk_frozen BK243.out 0
    have hns42_0 := NB241_243.out
    have hns42_1 := NB242_243.out
    have hms42_0 := NB243_241.out
    have hms42_1 := NB243_242.out
    have hs43 : w41.cell? ⟨gb243, 1, none⟩ = some (.int .i64 0) := bc BK243 1
    have hfs43 := blk_frozen BK243.out 1
    have hns43_0 := NB241_243.out
    have hns43_1 := NB242_243.out
    have hms43_0 := NB243_241.out
    have hms43_1 := NB243_242.out
    have hs44 : w41.cell? ⟨gb243, 2, none⟩ = some (.bool false) := bc BK243 2
    have hfs44 := blk_frozen BK243.out 2
    have hns44_0 := NB241_243.out
    have hns44_1 := NB242_243.out
    have hms44_0 := NB243_241.out
    have hms44_1 := NB243_242.out
    refine skip_ (w1 := ?_) (by rfl) rfl ?_ ?_
    rotate_left
    ·go_simp
     rfl
    refine hK.out _ _ ⟨((cell_far (p := ⟨gb243, _, none⟩) NB241_243.out _).trans (((cell_far (p := ⟨gb243, _, none⟩) NB241_243.out _).trans (((cell_far (p := ⟨gb243, _, none⟩) NB241_243.out _).trans (hHeld.1)))))), ((cell_far (p := ⟨gb243, _, none⟩) NB241_243.out _).trans (((cell_far (p := ⟨gb243, _, none⟩) NB241_243.out _).trans (((cell_far (p := ⟨gb243, _, none⟩) NB241_243.out _).trans (hHeld.2.1)))))), ((cell_far (p := ⟨gb243, _, none⟩) NB241_243.out _).trans (((cell_far (p := ⟨gb243, _, none⟩) NB241_243.out _).trans (((cell_far (p := ⟨gb243, _, none⟩) NB241_243.out _).trans (hHeld.2.2))))))⟩ (fun hHeld => ?_)
    clear hK K
    refine done_ (done_of HT_.out (by kernel_rfl)) ?_
    try go_wp2
    refine bodyPost_ret (results_cell_row rfl _ _ gb243 48 #[.int .i64 t248, .int .i64 t251, .bool false] (0, 0) _ rfl (by (with_reducible repeat (first | refine blk_drewN ?_ _ | refine blk_drew ?_ | refine blk_alloc ?_ _)); refine blk_put (cs := #[.int .i64 t248, .int .i64 t251, .bool false]) ?_ 2 _ rfl; (with_reducible repeat (first | refine blk_drewN ?_ _ | refine blk_drew ?_ | refine blk_alloc ?_ _)); refine blk_put (cs := #[.int .i64 t248, .int .i64 0, .bool false]) ?_ 1 _ rfl; (with_reducible repeat (first | refine blk_drewN ?_ _ | refine blk_drew ?_ | refine blk_alloc ?_ _)); refine blk_put (cs := #[.int .i64 0, .int .i64 0, .bool false]) ?_ 0 _ rfl; (with_reducible repeat (first | refine blk_drewN ?_ _ | refine blk_drew ?_ | refine blk_alloc ?_ _)); exact BK243.out) Try.underlying48 rfl (by kernel_rfl)) rfl ?_
    exact ⟨by first | rfl | (simp [errW_none, errW_some] <;> rfl) | (simp [*, errW_none, errW_some] <;> rfl), bZ HB⟩
   ·replace c24 := Bool.eq_false_iff.mpr c24
    subst c24
    have H1 : (some (0, 0, true)) = some (r1, r2, r3) := by rw [if_neg (show ¬ (false = true) by decide)] at H; exact H
    clear H
    have H := H1
    clear H1
    simp only [Option.some.injEq, Prod.mk.injEq] at H
    obtain ⟨rfl, rfl, rfl⟩ := H
    go_enter Try.func69, Try.ntmps69
    go_wp2_with (first | ((with_reducible refine gate_dst (N := 2) rfl ?_); refine box_event ?hg (N := 2) ?hd (cs := #[.int .i64 a0_0, .int .i64 a0_1, .bool false]) (t := 48) ?hr ?_; (case hd => rfl); (case hg => rfl); (case hr => first | (go_simp; done) | (go_simp; rfl)); intro gb241 hg w45 hbox hb; have BK241 := Aside0.mk (hbox); have GW241 := bG HB hg; have GE241 := bG HB hg; replace HB := bS HB hb; clear hb hbox hg) | ((with_reducible refine gate_dst (N := 3) rfl ?_); refine box_event ?hg (N := 3) ?hd (cs := #[.int .i64 a1_0, .int .i64 a1_1, .bool false]) (t := 48) ?hr ?_; (case hd => rfl); (case hg => rfl); (case hr => first | (go_simp; done) | (go_simp; rfl)); intro gb242 hg w46 hbox hb; have BK242 := Aside0.mk (hbox); have GW242 := bG HB hg; have GE242 := bG HB hg; replace HB := bS HB hb; have NB241_242 := bL BK241 hg; have NB242_241 := bR BK241 hg; replace BK241 := bB BK241 hb; clear hb hbox hg) | ((with_reducible refine gate_dst (N := 4) rfl ?_); refine box_event ?hg (N := 4) ?hd (cs := #[.int .i64 0, .int .i64 0, .bool false]) (t := 48) ?hr ?_; (case hd => rfl); (case hg => rfl); (case hr => first | (go_simp; done) | (go_simp; rfl)); intro gb243 hg w47 hbox hb; have BK243 := Aside0.mk (hbox); have GW243 := bG HB hg; have GE243 := bG HB hg; replace HB := bS HB hb; have NB241_243 := bL BK241 hg; have NB243_241 := bR BK241 hg; replace BK241 := bB BK241 hb; have NB242_243 := bL BK242 hg; have NB243_242 := bR BK242 hg; replace BK242 := bB BK242 hb; clear hb hbox hg; have hnb48 := NB241_242.out; have hnc48 := NB242_241.out; have hnb49 := NB241_243.out; have hnc49 := NB243_241.out; have hcz50_0 : w47.cell? ⟨gb241, 0, none⟩ = some (.int .i64 a0_0) := bc BK241 0; have hcz50_1 : w47.cell? ⟨gb241, 1, none⟩ = some (.int .i64 a0_1) := bc BK241 1; have hcz50_2 : w47.cell? ⟨gb241, 2, none⟩ = some (.bool false) := bc BK241 2; have hfz50_0 := blk_frozen BK241.out 0; have hfz50_1 := blk_frozen BK241.out 1; have hfz50_2 := blk_frozen BK241.out 2; have hnb51 := NB242_243.out; have hnc51 := NB243_242.out; have hcz52_0 : w47.cell? ⟨gb242, 0, none⟩ = some (.int .i64 a1_0) := bc BK242 0; have hcz52_1 : w47.cell? ⟨gb242, 1, none⟩ = some (.int .i64 a1_1) := bc BK242 1; have hcz52_2 : w47.cell? ⟨gb242, 2, none⟩ = some (.bool false) := bc BK242 2; have hfz52_0 := blk_frozen BK242.out 0; have hfz52_1 := blk_frozen BK242.out 1; have hfz52_2 := blk_frozen BK242.out 2) | ((with_reducible refine gate_callee (f := 78) rfl ?_); refine goesL_ (some 17) rfl rfl Try.func78 (by kernel_rfl) rfl #[.agg #[.int .i64 a0_0, .int .i64 a0_1, .bool false], .agg #[.int .i64 a1_0, .int .i64 a1_1, .bool false]] rfl (by (try simp only [List.map_toArray, List.map_cons, List.map_nil]); first | done | rfl | (simp only [List.length_drop, List.length_take]; rfl)) ?_; (with_reducible refine (impl_slopeOf.calls k a0_0 a0_1 false a1_0 a1_1 false t244 false _ A23.out).mono ?_); rintro e w53 ⟨rfl, hb⟩; refine ⟨_, rfl, ?_⟩; replace BK241 := bB BK241 hb; replace BK242 := bB BK242 hb; replace BK243 := bB BK243 hb; replace HB := bS HB hb; (try clear hb); (try clear hb2); (try clear hk); (try clear hi); have hcz54_0 : w53.cell? ⟨gb243, 0, none⟩ = some (.int .i64 0) := bc BK243 0; have hcz54_1 : w53.cell? ⟨gb243, 1, none⟩ = some (.int .i64 0) := bc BK243 1; have hcz54_2 : w53.cell? ⟨gb243, 2, none⟩ = some (.bool false) := bc BK243 2; have hfz54_0 := blk_frozen BK243.out 0; have hfz54_1 := blk_frozen BK243.out 1; have hfz54_2 := blk_frozen BK243.out 2))
    refine bodyPost_ret (results_cell_row rfl _ _ gb243 48 #[.int .i64 0, .int .i64 0, .bool true] (0, 0) _ rfl (by (with_reducible repeat (first | refine blk_drewN ?_ _ | refine blk_drew ?_ | refine blk_alloc ?_ _)); refine blk_put (cs := #[.int .i64 0, .int .i64 0, .bool false]) ?_ 2 _ rfl; (with_reducible repeat (first | refine blk_drewN ?_ _ | refine blk_drew ?_ | refine blk_alloc ?_ _)); refine blk_put (cs := #[.int .i64 0, .int .i64 0, .bool false]) ?_ 1 _ rfl; (with_reducible repeat (first | refine blk_drewN ?_ _ | refine blk_drew ?_ | refine blk_alloc ?_ _)); refine blk_put (cs := #[.int .i64 0, .int .i64 0, .bool false]) ?_ 0 _ rfl; (with_reducible repeat (first | refine blk_drewN ?_ _ | refine blk_drew ?_ | refine blk_alloc ?_ _)); exact BK243.out) Try.underlying48 rfl (by kernel_rfl)) rfl ?_
    exact ⟨by first | rfl | (simp [errW_none, errW_some] <;> rfl) | (simp [*, errW_none, errW_some] <;> rfl), bZ HB⟩
/-! ### impl_PointTimes: function 48 -/
def impl_PointTimes.l0 : Nat → Int → Int → Int → Bool → Int → Int → Bool → Option (Int × Int × Bool)
 | 0, _, _, _, _, _, _, _ => none
 | k + 1, x0, x253000, x253001, x253002, x255000, x255001, x255002 => if x0 > 0 then (if (Int.tmod x0 2) = 1 then ((impl_add.f k x255000 x255001 x255002 x253000 x253001 x253002).bind fun bt257 => ((impl_add.f k x253000 x253001 x253002 x253000 x253001 x253002).bind fun bt260 => (impl_PointTimes.l0 k (wrap64 (Int.tdiv x0 2)) bt260.1 bt260.2.1 bt260.2.2 bt257.1 bt257.2.1 bt257.2.2))) else ((impl_add.f k x253000 x253001 x253002 x253000 x253001 x253002).bind fun bt263 => (impl_PointTimes.l0 k (wrap64 (Int.tdiv x0 2)) bt263.1 bt263.2.1 bt263.2.2 x255000 x255001 x255002))) else (some (x255000, x255001, x255002))
def impl_PointTimes.f (k : Nat) (a0 : Int) (a1_0 : Int) (a1_1 : Int) (a1_2 : Bool) : Option (Int × Int × Bool) := (impl_PointOk.f a1_0 a1_1 a1_2).bind fun t255 => (if t255 = true then ((impl_remainder.f a0 12108).bind fun t256 => (impl_PointTimes.l0 k t256 a1_0 a1_1 a1_2 0 0 true)) else (some (0, 0, true)))
theorem impl_PointTimes.mono_l : ∀ k, (∀ y0 y1 y2 y3 y4 y5 y6, LeO (impl_PointTimes.l0 k y0 y1 y2 y3 y4 y5 y6) (impl_PointTimes.l0 (k + 1) y0 y1 y2 y3 y4 y5 y6))
 | 0 => fun _ _ _ _ _ _ _ r h => by simp [impl_PointTimes.l0] at h
 | k + 1 => by
  have ih0 := impl_PointTimes.mono_l k
  ·intro y0 y1 y2 y3 y4 y5 y6
   unfold impl_PointTimes.l0
   repeat' first
   | (with_reducible exact ih0 _ _ _ _ _ _ _)
   | (with_reducible exact impl_add.mono _ _ _ _ _ _ _)
   | (with_reducible exact LeO.refl _)
   | (with_reducible exact LeO.none _)
   | (with_reducible refine LeO.ite ?_ ?_)
   | (with_reducible refine LeO.bind ?_ (fun _ => ?_))
   | exact ih0 _ _ _ _ _ _ _
   | exact impl_add.mono _ _ _ _ _ _ _
   | exact LeO.none _
   | refine LeO.ite ?_ ?_
   | refine LeO.bind ?_ (fun _ => ?_)
theorem impl_PointTimes.mono : ∀ a0 a1 a2 a3 k, LeO (impl_PointTimes.f k a0 a1 a2 a3) (impl_PointTimes.f (k + 1) a0 a1 a2 a3) := by
 intro a0 a1 a2 a3 k
 have ih0 := impl_PointTimes.mono_l k
 unfold impl_PointTimes.f
 repeat' first
   | (with_reducible exact ih0 _ _ _ _ _ _ _)
   | (with_reducible exact impl_add.mono _ _ _ _ _ _ _)
   | (with_reducible exact LeO.refl _)
   | (with_reducible exact LeO.none _)
   | (with_reducible refine LeO.ite ?_ ?_)
   | (with_reducible refine LeO.bind ?_ (fun _ => ?_))
   | exact ih0 _ _ _ _ _ _ _
   | exact impl_add.mono _ _ _ _ _ _ _
   | exact LeO.none _
   | refine LeO.ite ?_ ?_
   | refine LeO.bind ?_ (fun _ => ?_)
set_option maxHeartbeats 8000000 in
set_option maxRecDepth 100000 in
theorem impl_PointTimes.calls (k : Nat) (a0 : Int) (a1_0 : Int) (a1_1 : Int) (a1_2 : Bool) (r1 : Int) (r2 : Int) (r3 : Bool) (w : World) (h : impl_PointTimes.f k a0 a1_0 a1_1 a1_2 = some (r1, r2, r3)) :
  Calls Try.prog 48 #[.int .i64 a0, .agg #[.int .i64 a1_0, .int .i64 a1_1, .bool a1_2]] w fun e w' => e = .returned (.agg #[.int .i64 r1, .int .i64 r2, .bool r3]) ∧ Below w.heap.size w w' := by
 have hu48 := Try.underlying48
 have HB := Aside0.mk (Below.refl w.heap.size w)
 have H : ((impl_PointOk.f a1_0 a1_1 a1_2).bind fun t255 => (if t255 = true then ((impl_remainder.f a0 12108).bind fun t256 => (impl_PointTimes.l0 k t256 a1_0 a1_1 a1_2 0 0 true)) else (some (0, 0, true)))) = some (r1, r2, r3) := h
 clear h
 replace H := Option.bind_eq_some_iff.mp H
 obtain ⟨t255, A30, H⟩ := H
 replace H : (if t255 = true then ((impl_remainder.f a0 12108).bind fun t256 => (impl_PointTimes.l0 k t256 a1_0 a1_1 a1_2 0 0 true)) else (some (0, 0, true))) = some (r1, r2, r3) := H
 have A3 := Aside0.mk A30
 clear A30
 by_cases c4 : t255 = true
 ·subst c4
  have H1 : ((impl_remainder.f a0 12108).bind fun t256 => (impl_PointTimes.l0 k t256 a1_0 a1_1 a1_2 0 0 true)) = some (r1, r2, r3) := by rw [if_pos rfl] at H; exact H
  clear H
  have H := H1
  clear H1
  replace H := Option.bind_eq_some_iff.mp H
  obtain ⟨t256, A50, H⟩ := H
  replace H : (impl_PointTimes.l0 k t256 a1_0 a1_1 a1_2 0 0 true) = some (r1, r2, r3) := H
  have A5 := Aside0.mk A50
  clear A50
  have H' := Aside0.mk H
  clear H
  go_enter Try.func48, Try.ntmps48
  go_wp2_with (first | ((with_reducible refine gate_dst (N := 3) rfl ?_); refine box_event ?hg (N := 3) ?hd (cs := #[.int .i64 a1_0, .int .i64 a1_1, .bool a1_2]) (t := 48) ?hr ?_; (case hd => rfl); (case hg => rfl); (case hr => first | (go_simp; done) | (go_simp; rfl)); intro gb252 hg w6 hbox hb; have BK252 := Aside0.mk (hbox); have GW252 := bG HB hg; have GE252 := bG HB hg; replace HB := bS HB hb; clear hb hbox hg) | ((with_reducible refine gate_dst (N := 4) rfl ?_); refine box_event ?hg (N := 4) ?hd (cs := #[.int .i64 0, .int .i64 0, .bool false]) (t := 48) ?hr ?_; (case hd => rfl); (case hg => rfl); (case hr => first | (go_simp; done) | (go_simp; rfl)); intro gb253 hg w7 hbox hb; have BK253 := Aside0.mk (hbox); have GW253 := bG HB hg; have GE253 := bG HB hg; replace HB := bS HB hb; have NB252_253 := bL BK252 hg; have NB253_252 := bR BK252 hg; replace BK252 := bB BK252 hb; clear hb hbox hg) | ((with_reducible refine gate_dst (N := 5) rfl ?_); refine box_event ?hg (N := 5) ?hd (cs := #[.int .i64 0, .int .i64 0, .bool false]) (t := 48) ?hr ?_; (case hd => rfl); (case hg => rfl); (case hr => first | (go_simp; done) | (go_simp; rfl)); intro gb254 hg w8 hbox hb; have BK254 := Aside0.mk (hbox); have GW254 := bG HB hg; have GE254 := bG HB hg; replace HB := bS HB hb; have NB252_254 := bL BK252 hg; have NB254_252 := bR BK252 hg; replace BK252 := bB BK252 hb; have NB253_254 := bL BK253 hg; have NB254_253 := bR BK253 hg; replace BK253 := bB BK253 hb; clear hb hbox hg; have hnb9 := NB254_252.out; have hnc9 := NB252_254.out; have hnb10 := NB254_253.out; have hnc10 := NB253_254.out; have hcz11_0 : w8.cell? ⟨gb254, 0, none⟩ = some (.int .i64 0) := bc BK254 0; have hcz11_1 : w8.cell? ⟨gb254, 1, none⟩ = some (.int .i64 0) := bc BK254 1; have hcz11_2 : w8.cell? ⟨gb254, 2, none⟩ = some (.bool false) := bc BK254 2; have hfz11_0 := blk_frozen BK254.out 0; have hfz11_1 := blk_frozen BK254.out 1; have hfz11_2 := blk_frozen BK254.out 2; have hnb12 := NB252_253.out; have hnc12 := NB253_252.out; have hcz13_0 : w8.cell? ⟨gb252, 0, none⟩ = some (.int .i64 a1_0) := bc BK252 0; have hcz13_1 : w8.cell? ⟨gb252, 1, none⟩ = some (.int .i64 a1_1) := bc BK252 1; have hcz13_2 : w8.cell? ⟨gb252, 2, none⟩ = some (.bool a1_2) := bc BK252 2; have hfz13_0 := blk_frozen BK252.out 0; have hfz13_1 := blk_frozen BK252.out 1; have hfz13_2 := blk_frozen BK252.out 2) | ((with_reducible refine gate_callee (f := 47) rfl ?_); refine goesL_ (some 8) rfl rfl Try.func47 (by kernel_rfl) rfl #[.agg #[.int .i64 a1_0, .int .i64 a1_1, .bool a1_2]] rfl (by (try simp only [List.map_toArray, List.map_cons, List.map_nil]); first | done | rfl | (simp only [List.length_drop, List.length_take]; rfl)) ?_; (with_reducible refine (impl_PointOk.calls a1_0 a1_1 a1_2 true _ A3.out).mono ?_); rintro e w14 ⟨rfl, hb⟩; refine ⟨_, rfl, ?_⟩; replace BK252 := bB BK252 hb; replace BK253 := bB BK253 hb; replace BK254 := Aside0.mk (blk_below (g := gb254) (o := .cells #[.int .i64 0, .int .i64 0, .bool true] 48 (0, 0)) (by (with_reducible repeat (first | refine blk_drewN ?_ _ | refine blk_drew ?_ | refine blk_alloc ?_ _)); refine blk_put (cs := #[.int .i64 0, .int .i64 0, .bool false]) ?_ 2 _ rfl; (with_reducible repeat (first | refine blk_drewN ?_ _ | refine blk_drew ?_ | refine blk_alloc ?_ _)); refine blk_put (cs := #[.int .i64 0, .int .i64 0, .bool false]) ?_ 1 _ rfl; (with_reducible repeat (first | refine blk_drewN ?_ _ | refine blk_drew ?_ | refine blk_alloc ?_ _)); refine blk_put (cs := #[.int .i64 0, .int .i64 0, .bool false]) ?_ 0 _ rfl; (with_reducible repeat (first | refine blk_drewN ?_ _ | refine blk_drew ?_ | refine blk_alloc ?_ _)); exact BK254.out) hb); replace HB := bS HB hb; (try clear hb); (try clear hb2); (try clear hk); (try clear hi)) | ((with_reducible refine gate_callee (f := 51) rfl ?_); refine goesL_ (some 12) rfl rfl Try.func51 (by kernel_rfl) rfl #[.int .i64 a0, .int .i64 12108] rfl (by (try simp only [List.map_toArray, List.map_cons, List.map_nil]); first | done | rfl | (simp only [List.length_drop, List.length_take]; rfl)) ?_; (with_reducible refine (impl_remainder.calls a0 12108 t256 _ A5.out).mono ?_); rintro e w' ⟨rfl, ⟨nd, rfl⟩⟩; refine ⟨_, rfl, ?_⟩))
  go_loopg [0] k (fun kq v0 w' => ∃ (x0_1 : Int) (x253000_1 : Int) (x253001_1 : Int) (x253002_1 : Bool) (x255000_1 : Int) (x255001_1 : Int) (x255002_1 : Bool), v0 = .int .i64 x0_1 ∧ Aside0 (impl_PointTimes.l0 kq x0_1 x253000_1 x253001_1 x253002_1 x255000_1 x255001_1 x255002_1 = some (r1, r2, r3)) ∧ Aside0 (kq ≤ k) ∧ Aside0 (w'.heap[gb252]? = some (.cells #[.int .i64 x253000_1, .int .i64 x253001_1, .bool x253002_1] 48 (0, 0))) ∧ Aside0 (w'.heap[gb253]? = some (.cells #[.int .i64 0, .int .i64 0, .bool false] 48 (0, 0))) ∧ Aside0 (w'.heap[gb254]? = some (.cells #[.int .i64 x255000_1, .int .i64 x255001_1, .bool x255002_1] 48 (0, 0))) ∧ Aside0 (Below w.heap.size w w'))
  case atStart => exact ⟨(t256), (a1_0), (a1_1), (a1_2), (0), (0), (true), (by first | rfl | (simp; done) | (simp [*]; done)), H', ⟨Nat.le_refl _⟩, ⟨bP BK252⟩, ⟨bP BK253⟩, ⟨bP BK254⟩, ⟨bZ HB⟩⟩
  case round =>
   clear H'
   try clear c1
   try clear p2
   try clear c4
   try clear c5
   try clear c9
   try clear c10
   try clear c12
   try clear hcz11_0
   try clear hcz11_1
   try clear hcz11_2
   try clear hcz13_0
   try clear hcz13_1
   try clear hcz13_2
   try clear hfz11_0
   try clear hfz11_1
   try clear hfz11_2
   try clear hfz13_0
   try clear hfz13_1
   try clear hfz13_2
   obtain ⟨x0_1, x253000_1, x253001_1, x253002_1, x255000_1, x255001_1, x255002_1, rfl, HA, HK1, BK252, BK253, BK254, HB⟩ := hrel
   cases gk with
   | zero => exact absurd HA.out (by simp [impl_PointTimes.l0])
   | succ k1 =>
    have H := HA.out
    clear HA
    simp only [impl_PointTimes.l0] at H
    by_cases c15 : x0_1 > 0
    ·rw [if_pos c15] at H
     have c15b0 : decide (0 < x0_1) = true := decide_eq_true c15
     clear c15
     by_cases c16 : (Int.tmod x0_1 2) = 1
     ·rw [if_pos c16] at H
      have c16b0 : ((Int.tmod x0_1 2) == 1) = true := beq_iff_eq.mpr c16
      have c16b1 : ((Int.tmod x0_1 2) != 1) = false := bne_eq_false_iff_eq.mpr c16
      clear c16
      replace H := Option.bind_eq_some_iff.mp H
      obtain ⟨⟨t257, t258, t259⟩, A170, H⟩ := H
      replace H : ((impl_add.f k1 x253000_1 x253001_1 x253002_1 x253000_1 x253001_1 x253002_1).bind fun bt260 => (impl_PointTimes.l0 k1 (wrap64 (Int.tdiv x0_1 2)) bt260.1 bt260.2.1 bt260.2.2 t257 t258 t259)) = some (r1, r2, r3) := H
      have A17 := Aside0.mk A170
      clear A170
      replace H := Option.bind_eq_some_iff.mp H
      obtain ⟨⟨t260, t261, t262⟩, A180, H⟩ := H
      replace H : (impl_PointTimes.l0 k1 (wrap64 (Int.tdiv x0_1 2)) t260 t261 t262 t257 t258 t259) = some (r1, r2, r3) := H
      have A18 := Aside0.mk A180
      clear A180
      have H' := Aside0.mk H
      clear H
      have hnb19 := NB254_252.out
      have hnc19 := NB252_254.out
      have hnb20 := NB254_253.out
      have hnc20 := NB253_254.out
      have hcz21_0 : wr.cell? ⟨gb254, 0, none⟩ = some (.int .i64 x255000_1) := bc BK254 0
      have hcz21_1 : wr.cell? ⟨gb254, 1, none⟩ = some (.int .i64 x255001_1) := bc BK254 1
      have hcz21_2 : wr.cell? ⟨gb254, 2, none⟩ = some (.bool x255002_1) := bc BK254 2
      have hfz21_0 := blk_frozen BK254.out 0
      have hfz21_1 := blk_frozen BK254.out 1
      have hfz21_2 := blk_frozen BK254.out 2
      have hnb22 := NB252_253.out
      have hnc22 := NB253_252.out
      have hcz23_0 : wr.cell? ⟨gb252, 0, none⟩ = some (.int .i64 x253000_1) := bc BK252 0
      have hcz23_1 : wr.cell? ⟨gb252, 1, none⟩ = some (.int .i64 x253001_1) := bc BK252 1
      have hcz23_2 : wr.cell? ⟨gb252, 2, none⟩ = some (.bool x253002_1) := bc BK252 2
      have hfz23_0 := blk_frozen BK252.out 0
      have hfz23_1 := blk_frozen BK252.out 1
      have hfz23_2 := blk_frozen BK252.out 2
      go_wp2_with (first | ((with_reducible refine gate_callee (f := 69) rfl ?_); refine goesL_ (some 22) rfl rfl Try.func69 (by kernel_rfl) rfl #[.agg #[.int .i64 x255000_1, .int .i64 x255001_1, .bool x255002_1], .agg #[.int .i64 x253000_1, .int .i64 x253001_1, .bool x253002_1]] rfl (by (try simp only [List.map_toArray, List.map_cons, List.map_nil]); first | done | rfl | (simp only [List.length_drop, List.length_take]; rfl)) ?_; (with_reducible refine (impl_add.calls k1 x255000_1 x255001_1 x255002_1 x253000_1 x253001_1 x253002_1 t257 t258 t259 _ A17.out).mono ?_); rintro e w24 ⟨rfl, hb⟩; refine ⟨_, rfl, ?_⟩; replace BK252 := bB BK252 hb; replace BK253 := bB BK253 hb; replace BK254 := bB BK254 hb; replace HB := bS HB hb; (try clear hb); (try clear hb2); (try clear hk); (try clear hi); have hcz25_0 : w24.cell? ⟨gb254, 0, none⟩ = some (.int .i64 x255000_1) := bc BK254 0; have hcz25_1 : w24.cell? ⟨gb254, 1, none⟩ = some (.int .i64 x255001_1) := bc BK254 1; have hcz25_2 : w24.cell? ⟨gb254, 2, none⟩ = some (.bool x255002_1) := bc BK254 2; have hfz25_0 := blk_frozen BK254.out 0; have hfz25_1 := blk_frozen BK254.out 1; have hfz25_2 := blk_frozen BK254.out 2; have hcz26_0 : w24.cell? ⟨gb252, 0, none⟩ = some (.int .i64 x253000_1) := bc BK252 0; have hcz26_1 : w24.cell? ⟨gb252, 1, none⟩ = some (.int .i64 x253001_1) := bc BK252 1; have hcz26_2 : w24.cell? ⟨gb252, 2, none⟩ = some (.bool x253002_1) := bc BK252 2; have hfz26_0 := blk_frozen BK252.out 0; have hfz26_1 := blk_frozen BK252.out 1; have hfz26_2 := blk_frozen BK252.out 2) | ((with_reducible refine gate_callee (f := 69) rfl ?_); refine goesL_ (some 25) rfl rfl Try.func69 (by kernel_rfl) rfl #[.agg #[.int .i64 x253000_1, .int .i64 x253001_1, .bool x253002_1], .agg #[.int .i64 x253000_1, .int .i64 x253001_1, .bool x253002_1]] rfl (by (try simp only [List.map_toArray, List.map_cons, List.map_nil]); first | done | rfl | (simp only [List.length_drop, List.length_take]; rfl)) ?_; (with_reducible refine (impl_add.calls k1 x253000_1 x253001_1 x253002_1 x253000_1 x253001_1 x253002_1 t260 t261 t262 _ A18.out).mono ?_); rintro e w27 ⟨rfl, hb⟩; refine ⟨_, rfl, ?_⟩; replace BK252 := bB BK252 hb; replace BK253 := bB BK253 hb; replace BK254 := Aside0.mk (blk_below (g := gb254) (o := .cells #[.int .i64 t257, .int .i64 t258, .bool t259] 48 (0, 0)) (by (with_reducible repeat (first | refine blk_drewN ?_ _ | refine blk_drew ?_ | refine blk_alloc ?_ _)); refine blk_put (cs := #[.int .i64 t257, .int .i64 t258, .bool x255002_1]) ?_ 2 _ rfl; (with_reducible repeat (first | refine blk_drewN ?_ _ | refine blk_drew ?_ | refine blk_alloc ?_ _)); refine blk_put (cs := #[.int .i64 t257, .int .i64 x255001_1, .bool x255002_1]) ?_ 1 _ rfl; (with_reducible repeat (first | refine blk_drewN ?_ _ | refine blk_drew ?_ | refine blk_alloc ?_ _)); refine blk_put (cs := #[.int .i64 x255000_1, .int .i64 x255001_1, .bool x255002_1]) ?_ 0 _ rfl; (with_reducible repeat (first | refine blk_drewN ?_ _ | refine blk_drew ?_ | refine blk_alloc ?_ _)); exact BK254.out) hb); replace HB := bS HB hb; (try clear hb); (try clear hb2); (try clear hk); (try clear hi); have hcz28_0 : w27.cell? ⟨gb252, 0, none⟩ = some (.int .i64 x253000_1) := bc BK252 0; have hcz28_1 : w27.cell? ⟨gb252, 1, none⟩ = some (.int .i64 x253001_1) := bc BK252 1; have hcz28_2 : w27.cell? ⟨gb252, 2, none⟩ = some (.bool x253002_1) := bc BK252 2; have hfz28_0 := blk_frozen BK252.out 0; have hfz28_1 := blk_frozen BK252.out 1; have hfz28_2 := blk_frozen BK252.out 2))
      go_roundg k1
      case measure => have := HK1.out; omega
      case rel => exact ⟨(wrap64 (Int.tdiv x0_1 2)), (t260), (t261), (t262), (t257), (t258), (t259), (by first | rfl | (simp; done) | (simp [*]; done)), H', ⟨by have := HK1.out; omega⟩, ⟨by (with_reducible repeat (first | refine blk_drewN ?_ _ | refine blk_drew ?_ | refine blk_alloc ?_ _)); refine blk_put (cs := #[.int .i64 t260, .int .i64 t261, .bool x253002_1]) ?_ 2 _ rfl; (with_reducible repeat (first | refine blk_drewN ?_ _ | refine blk_drew ?_ | refine blk_alloc ?_ _)); refine blk_put (cs := #[.int .i64 t260, .int .i64 x253001_1, .bool x253002_1]) ?_ 1 _ rfl; (with_reducible repeat (first | refine blk_drewN ?_ _ | refine blk_drew ?_ | refine blk_alloc ?_ _)); refine blk_put (cs := #[.int .i64 x253000_1, .int .i64 x253001_1, .bool x253002_1]) ?_ 0 _ rfl; (with_reducible repeat (first | refine blk_drewN ?_ _ | refine blk_drew ?_ | refine blk_alloc ?_ _)); exact BK252.out⟩, ⟨bP BK253⟩, ⟨bP BK254⟩, ⟨bZ HB⟩⟩
     ·rw [if_neg c16] at H
      have c16b0 : ((Int.tmod x0_1 2) == 1) = false := beq_eq_false_iff_ne.mpr c16
      have c16b1 : ((Int.tmod x0_1 2) != 1) = true := bne_iff_ne.mpr c16
      replace H := Option.bind_eq_some_iff.mp H
      obtain ⟨⟨t263, t264, t265⟩, A290, H⟩ := H
      replace H : (impl_PointTimes.l0 k1 (wrap64 (Int.tdiv x0_1 2)) t263 t264 t265 x255000_1 x255001_1 x255002_1) = some (r1, r2, r3) := H
      have A29 := Aside0.mk A290
      clear A290
      have H' := Aside0.mk H
      clear H
      have hnb30 := NB252_253.out
      have hnc30 := NB253_252.out
      have hnb31 := NB252_254.out
      have hnc31 := NB254_252.out
      have hcz32_0 : wr.cell? ⟨gb252, 0, none⟩ = some (.int .i64 x253000_1) := bc BK252 0
      have hcz32_1 : wr.cell? ⟨gb252, 1, none⟩ = some (.int .i64 x253001_1) := bc BK252 1
      have hcz32_2 : wr.cell? ⟨gb252, 2, none⟩ = some (.bool x253002_1) := bc BK252 2
      have hfz32_0 := blk_frozen BK252.out 0
      have hfz32_1 := blk_frozen BK252.out 1
      have hfz32_2 := blk_frozen BK252.out 2
      go_wp2_with (first | ((with_reducible refine gate_callee (f := 69) rfl ?_); refine goesL_ (some 25) rfl rfl Try.func69 (by kernel_rfl) rfl #[.agg #[.int .i64 x253000_1, .int .i64 x253001_1, .bool x253002_1], .agg #[.int .i64 x253000_1, .int .i64 x253001_1, .bool x253002_1]] rfl (by (try simp only [List.map_toArray, List.map_cons, List.map_nil]); first | done | rfl | (simp only [List.length_drop, List.length_take]; rfl)) ?_; (with_reducible refine (impl_add.calls k1 x253000_1 x253001_1 x253002_1 x253000_1 x253001_1 x253002_1 t263 t264 t265 _ A29.out).mono ?_); rintro e w33 ⟨rfl, hb⟩; refine ⟨_, rfl, ?_⟩; replace BK252 := bB BK252 hb; replace BK253 := bB BK253 hb; replace BK254 := bB BK254 hb; replace HB := bS HB hb; (try clear hb); (try clear hb2); (try clear hk); (try clear hi); have hcz34_0 : w33.cell? ⟨gb252, 0, none⟩ = some (.int .i64 x253000_1) := bc BK252 0; have hcz34_1 : w33.cell? ⟨gb252, 1, none⟩ = some (.int .i64 x253001_1) := bc BK252 1; have hcz34_2 : w33.cell? ⟨gb252, 2, none⟩ = some (.bool x253002_1) := bc BK252 2; have hfz34_0 := blk_frozen BK252.out 0; have hfz34_1 := blk_frozen BK252.out 1; have hfz34_2 := blk_frozen BK252.out 2))
      go_roundg k1
      case measure => have := HK1.out; omega
      case rel => exact ⟨(wrap64 (Int.tdiv x0_1 2)), (t263), (t264), (t265), (x255000_1), (x255001_1), (x255002_1), (by first | rfl | (simp; done) | (simp [*]; done)), H', ⟨by have := HK1.out; omega⟩, ⟨by (with_reducible repeat (first | refine blk_drewN ?_ _ | refine blk_drew ?_ | refine blk_alloc ?_ _)); refine blk_put (cs := #[.int .i64 t263, .int .i64 t264, .bool x253002_1]) ?_ 2 _ rfl; (with_reducible repeat (first | refine blk_drewN ?_ _ | refine blk_drew ?_ | refine blk_alloc ?_ _)); refine blk_put (cs := #[.int .i64 t263, .int .i64 x253001_1, .bool x253002_1]) ?_ 1 _ rfl; (with_reducible repeat (first | refine blk_drewN ?_ _ | refine blk_drew ?_ | refine blk_alloc ?_ _)); refine blk_put (cs := #[.int .i64 x253000_1, .int .i64 x253001_1, .bool x253002_1]) ?_ 0 _ rfl; (with_reducible repeat (first | refine blk_drewN ?_ _ | refine blk_drew ?_ | refine blk_alloc ?_ _)); exact BK252.out⟩, ⟨bP BK253⟩, ⟨bP BK254⟩, ⟨bZ HB⟩⟩
    ·rw [if_neg c15] at H
     have c15b0 : decide (0 < x0_1) = false := decide_eq_false c15
     clear c15
     simp only [Option.some.injEq, Prod.mk.injEq] at H
     obtain ⟨rfl, rfl, rfl⟩ := H
     have hnb35 := NB254_252.out
     have hnc35 := NB252_254.out
     have hnb36 := NB254_253.out
     have hnc36 := NB253_254.out
     have hcz37_0 : wr.cell? ⟨gb254, 0, none⟩ = some (.int .i64 x255000_1) := bc BK254 0
     have hcz37_1 : wr.cell? ⟨gb254, 1, none⟩ = some (.int .i64 x255001_1) := bc BK254 1
     have hcz37_2 : wr.cell? ⟨gb254, 2, none⟩ = some (.bool x255002_1) := bc BK254 2
     have hfz37_0 := blk_frozen BK254.out 0
     have hfz37_1 := blk_frozen BK254.out 1
     have hfz37_2 := blk_frozen BK254.out 2
     have hnb38 := NB253_252.out
     have hnc38 := NB252_253.out
     have hcz39_0 : wr.cell? ⟨gb253, 0, none⟩ = some (.int .i64 0) := bc BK253 0
     have hcz39_1 : wr.cell? ⟨gb253, 1, none⟩ = some (.int .i64 0) := bc BK253 1
     have hcz39_2 : wr.cell? ⟨gb253, 2, none⟩ = some (.bool false) := bc BK253 2
     have hfz39_0 := blk_frozen BK253.out 0
     have hfz39_1 := blk_frozen BK253.out 1
     have hfz39_2 := blk_frozen BK253.out 2
     go_wp2
     refine bodyPost_ret (results_cell_row rfl _ _ gb253 48 #[.int .i64 x255000_1, .int .i64 x255001_1, .bool x255002_1] (0, 0) _ rfl (by (with_reducible repeat (first | refine blk_drewN ?_ _ | refine blk_drew ?_ | refine blk_alloc ?_ _)); refine blk_put (cs := #[.int .i64 x255000_1, .int .i64 x255001_1, .bool false]) ?_ 2 _ rfl; (with_reducible repeat (first | refine blk_drewN ?_ _ | refine blk_drew ?_ | refine blk_alloc ?_ _)); refine blk_put (cs := #[.int .i64 x255000_1, .int .i64 0, .bool false]) ?_ 1 _ rfl; (with_reducible repeat (first | refine blk_drewN ?_ _ | refine blk_drew ?_ | refine blk_alloc ?_ _)); refine blk_put (cs := #[.int .i64 0, .int .i64 0, .bool false]) ?_ 0 _ rfl; (with_reducible repeat (first | refine blk_drewN ?_ _ | refine blk_drew ?_ | refine blk_alloc ?_ _)); exact BK253.out) Try.underlying48 rfl (by kernel_rfl)) rfl ?_
     exact ⟨by first | rfl | (simp [errW_none, errW_some] <;> rfl) | (simp [*, errW_none, errW_some] <;> rfl), bZ HB⟩
 ·replace c4 := Bool.eq_false_iff.mpr c4
  subst c4
  have H1 : (some (0, 0, true)) = some (r1, r2, r3) := by rw [if_neg (show ¬ (false = true) by decide)] at H; exact H
  clear H
  have H := H1
  clear H1
  simp only [Option.some.injEq, Prod.mk.injEq] at H
  obtain ⟨rfl, rfl, rfl⟩ := H
  go_enter Try.func48, Try.ntmps48
  go_wp2_with (first | ((with_reducible refine gate_dst (N := 3) rfl ?_); refine box_event ?hg (N := 3) ?hd (cs := #[.int .i64 a1_0, .int .i64 a1_1, .bool a1_2]) (t := 48) ?hr ?_; (case hd => rfl); (case hg => rfl); (case hr => first | (go_simp; done) | (go_simp; rfl)); intro gb252 hg w40 hbox hb; have BK252 := Aside0.mk (hbox); have GW252 := bG HB hg; have GE252 := bG HB hg; replace HB := bS HB hb; clear hb hbox hg) | ((with_reducible refine gate_dst (N := 4) rfl ?_); refine box_event ?hg (N := 4) ?hd (cs := #[.int .i64 0, .int .i64 0, .bool false]) (t := 48) ?hr ?_; (case hd => rfl); (case hg => rfl); (case hr => first | (go_simp; done) | (go_simp; rfl)); intro gb253 hg w41 hbox hb; have BK253 := Aside0.mk (hbox); have GW253 := bG HB hg; have GE253 := bG HB hg; replace HB := bS HB hb; have NB252_253 := bL BK252 hg; have NB253_252 := bR BK252 hg; replace BK252 := bB BK252 hb; clear hb hbox hg) | ((with_reducible refine gate_dst (N := 5) rfl ?_); refine box_event ?hg (N := 5) ?hd (cs := #[.int .i64 0, .int .i64 0, .bool false]) (t := 48) ?hr ?_; (case hd => rfl); (case hg => rfl); (case hr => first | (go_simp; done) | (go_simp; rfl)); intro gb254 hg w42 hbox hb; have BK254 := Aside0.mk (hbox); have GW254 := bG HB hg; have GE254 := bG HB hg; replace HB := bS HB hb; have NB252_254 := bL BK252 hg; have NB254_252 := bR BK252 hg; replace BK252 := bB BK252 hb; have NB253_254 := bL BK253 hg; have NB254_253 := bR BK253 hg; replace BK253 := bB BK253 hb; clear hb hbox hg; have hnb43 := NB254_252.out; have hnc43 := NB252_254.out; have hnb44 := NB254_253.out; have hnc44 := NB253_254.out; have hcz45_0 : w42.cell? ⟨gb254, 0, none⟩ = some (.int .i64 0) := bc BK254 0; have hcz45_1 : w42.cell? ⟨gb254, 1, none⟩ = some (.int .i64 0) := bc BK254 1; have hcz45_2 : w42.cell? ⟨gb254, 2, none⟩ = some (.bool false) := bc BK254 2; have hfz45_0 := blk_frozen BK254.out 0; have hfz45_1 := blk_frozen BK254.out 1; have hfz45_2 := blk_frozen BK254.out 2; have hnb46 := NB252_253.out; have hnc46 := NB253_252.out; have hcz47_0 : w42.cell? ⟨gb252, 0, none⟩ = some (.int .i64 a1_0) := bc BK252 0; have hcz47_1 : w42.cell? ⟨gb252, 1, none⟩ = some (.int .i64 a1_1) := bc BK252 1; have hcz47_2 : w42.cell? ⟨gb252, 2, none⟩ = some (.bool a1_2) := bc BK252 2; have hfz47_0 := blk_frozen BK252.out 0; have hfz47_1 := blk_frozen BK252.out 1; have hfz47_2 := blk_frozen BK252.out 2) | ((with_reducible refine gate_callee (f := 47) rfl ?_); refine goesL_ (some 8) rfl rfl Try.func47 (by kernel_rfl) rfl #[.agg #[.int .i64 a1_0, .int .i64 a1_1, .bool a1_2]] rfl (by (try simp only [List.map_toArray, List.map_cons, List.map_nil]); first | done | rfl | (simp only [List.length_drop, List.length_take]; rfl)) ?_; (with_reducible refine (impl_PointOk.calls a1_0 a1_1 a1_2 false _ A3.out).mono ?_); rintro e w48 ⟨rfl, hb⟩; refine ⟨_, rfl, ?_⟩; replace BK252 := bB BK252 hb; replace BK253 := bB BK253 hb; replace BK254 := Aside0.mk (blk_below (g := gb254) (o := .cells #[.int .i64 0, .int .i64 0, .bool true] 48 (0, 0)) (by (with_reducible repeat (first | refine blk_drewN ?_ _ | refine blk_drew ?_ | refine blk_alloc ?_ _)); refine blk_put (cs := #[.int .i64 0, .int .i64 0, .bool false]) ?_ 2 _ rfl; (with_reducible repeat (first | refine blk_drewN ?_ _ | refine blk_drew ?_ | refine blk_alloc ?_ _)); refine blk_put (cs := #[.int .i64 0, .int .i64 0, .bool false]) ?_ 1 _ rfl; (with_reducible repeat (first | refine blk_drewN ?_ _ | refine blk_drew ?_ | refine blk_alloc ?_ _)); refine blk_put (cs := #[.int .i64 0, .int .i64 0, .bool false]) ?_ 0 _ rfl; (with_reducible repeat (first | refine blk_drewN ?_ _ | refine blk_drew ?_ | refine blk_alloc ?_ _)); exact BK254.out) hb); replace HB := bS HB hb; (try clear hb); (try clear hb2); (try clear hk); (try clear hi); have hcz49_0 : w48.cell? ⟨gb254, 0, none⟩ = some (.int .i64 0) := bc BK254 0; have hcz49_1 : w48.cell? ⟨gb254, 1, none⟩ = some (.int .i64 0) := bc BK254 1; have hcz49_2 : w48.cell? ⟨gb254, 2, none⟩ = some (.bool true) := bc BK254 2; have hfz49_0 := blk_frozen BK254.out 0; have hfz49_1 := blk_frozen BK254.out 1; have hfz49_2 := blk_frozen BK254.out 2; have hcz50_0 : w48.cell? ⟨gb253, 0, none⟩ = some (.int .i64 0) := bc BK253 0; have hcz50_1 : w48.cell? ⟨gb253, 1, none⟩ = some (.int .i64 0) := bc BK253 1; have hcz50_2 : w48.cell? ⟨gb253, 2, none⟩ = some (.bool false) := bc BK253 2; have hfz50_0 := blk_frozen BK253.out 0; have hfz50_1 := blk_frozen BK253.out 1; have hfz50_2 := blk_frozen BK253.out 2))
  refine bodyPost_ret (results_cell_row rfl _ _ gb253 48 #[.int .i64 0, .int .i64 0, .bool true] (0, 0) _ rfl (by (with_reducible repeat (first | refine blk_drewN ?_ _ | refine blk_drew ?_ | refine blk_alloc ?_ _)); refine blk_put (cs := #[.int .i64 0, .int .i64 0, .bool false]) ?_ 2 _ rfl; (with_reducible repeat (first | refine blk_drewN ?_ _ | refine blk_drew ?_ | refine blk_alloc ?_ _)); refine blk_put (cs := #[.int .i64 0, .int .i64 0, .bool false]) ?_ 1 _ rfl; (with_reducible repeat (first | refine blk_drewN ?_ _ | refine blk_drew ?_ | refine blk_alloc ?_ _)); refine blk_put (cs := #[.int .i64 0, .int .i64 0, .bool false]) ?_ 0 _ rfl; (with_reducible repeat (first | refine blk_drewN ?_ _ | refine blk_drew ?_ | refine blk_alloc ?_ _)); exact BK253.out) Try.underlying48 rfl (by kernel_rfl)) rfl ?_
  exact ⟨by first | rfl | (simp [errW_none, errW_some] <;> rfl) | (simp [*, errW_none, errW_some] <;> rfl), bZ HB⟩
/-! ### impl_InGroup: function 29 -/
def impl_InGroup.f (k : Nat) (a0_0 : Int) (a0_1 : Int) (a0_2 : Bool) : Option (Bool) := (impl_PointOk.f a0_0 a0_1 a0_2).bind fun t267 => (if t267 = true then ((impl_PointTimes.f k 1009 a0_0 a0_1 a0_2).bind fun bt268 => (some bt268.2.2)) else (some false))
theorem impl_InGroup.mono : ∀ a0 a1 a2 k, LeO (impl_InGroup.f k a0 a1 a2) (impl_InGroup.f (k + 1) a0 a1 a2) := by
 intro a0 a1 a2 k
 unfold impl_InGroup.f
 repeat' first
   | (with_reducible exact impl_PointTimes.mono _ _ _ _ _)
   | (with_reducible exact LeO.refl _)
   | (with_reducible exact LeO.none _)
   | (with_reducible refine LeO.ite ?_ ?_)
   | (with_reducible refine LeO.bind ?_ (fun _ => ?_))
   | exact impl_PointTimes.mono _ _ _ _ _
   | exact LeO.none _
   | refine LeO.ite ?_ ?_
   | refine LeO.bind ?_ (fun _ => ?_)
set_option maxHeartbeats 8000000 in
set_option maxRecDepth 100000 in
theorem impl_InGroup.calls (k : Nat) (a0_0 : Int) (a0_1 : Int) (a0_2 : Bool) (r : Bool) (w : World) (h : impl_InGroup.f k a0_0 a0_1 a0_2 = some r) :
  Calls Try.prog 29 #[.agg #[.int .i64 a0_0, .int .i64 a0_1, .bool a0_2]] w fun e w' => e = .returned (.bool r) ∧ Below w.heap.size w w' := by
 have hu48 := Try.underlying48
 have hfd48_0 : ∀ (x0 : Int) (x1 : Int) (x2 : Bool) (w_ : World), (Instr.field 48 (.agg #[.int .i64 x0, .int .i64 x1, .bool x2]) 0).run Try.prog w_ = .ok (.int .i64 x0) w_ := fun _ _ _ _ => by kernel_rfl
 have hfd48_1 : ∀ (x0 : Int) (x1 : Int) (x2 : Bool) (w_ : World), (Instr.field 48 (.agg #[.int .i64 x0, .int .i64 x1, .bool x2]) 1).run Try.prog w_ = .ok (.int .i64 x1) w_ := fun _ _ _ _ => by kernel_rfl
 have hfd48_2 : ∀ (x0 : Int) (x1 : Int) (x2 : Bool) (w_ : World), (Instr.field 48 (.agg #[.int .i64 x0, .int .i64 x1, .bool x2]) 2).run Try.prog w_ = .ok (.bool x2) w_ := fun _ _ _ _ => by kernel_rfl
 have HB := Aside0.mk (Below.refl w.heap.size w)
 have H : ((impl_PointOk.f a0_0 a0_1 a0_2).bind fun t267 => (if t267 = true then ((impl_PointTimes.f k 1009 a0_0 a0_1 a0_2).bind fun bt268 => (some bt268.2.2)) else (some false))) = some r := h
 clear h
 replace H := Option.bind_eq_some_iff.mp H
 obtain ⟨t267, A20, H⟩ := H
 replace H : (if t267 = true then ((impl_PointTimes.f k 1009 a0_0 a0_1 a0_2).bind fun bt268 => (some bt268.2.2)) else (some false)) = some r := H
 have A2 := Aside0.mk A20
 clear A20
 by_cases c3 : t267 = true
 ·subst c3
  have H1 : ((impl_PointTimes.f k 1009 a0_0 a0_1 a0_2).bind fun bt268 => (some bt268.2.2)) = some r := by rw [if_pos rfl] at H; exact H
  clear H
  have H := H1
  clear H1
  replace H := Option.bind_eq_some_iff.mp H
  obtain ⟨⟨t268, t269, t270⟩, A40, H⟩ := H
  replace H : (some t270) = some r := H
  have A4 := Aside0.mk A40
  clear A40
  obtain rfl := Option.some.inj H
  go_enter Try.func29, Try.ntmps29
  go_wp2_with (first | ((with_reducible refine gate_dst (N := 1) rfl ?_); refine box_event ?hg (N := 1) ?hd (cs := #[.int .i64 a0_0, .int .i64 a0_1, .bool a0_2]) (t := 48) ?hr ?_; (case hd => rfl); (case hg => rfl); (case hr => first | (go_simp; done) | (go_simp; rfl)); intro gb266 hg w5 hbox hb; have BK266 := Aside0.mk (hbox); have GW266 := bG HB hg; have GE266 := bG HB hg; replace HB := bS HB hb; clear hb hbox hg; have hcz6_0 : w5.cell? ⟨gb266, 0, none⟩ = some (.int .i64 a0_0) := bc BK266 0; have hcz6_1 : w5.cell? ⟨gb266, 1, none⟩ = some (.int .i64 a0_1) := bc BK266 1; have hcz6_2 : w5.cell? ⟨gb266, 2, none⟩ = some (.bool a0_2) := bc BK266 2; have hfz6_0 := blk_frozen BK266.out 0; have hfz6_1 := blk_frozen BK266.out 1; have hfz6_2 := blk_frozen BK266.out 2) | ((with_reducible refine gate_callee (f := 47) rfl ?_); refine goesL_ (some 4) rfl rfl Try.func47 (by kernel_rfl) rfl #[.agg #[.int .i64 a0_0, .int .i64 a0_1, .bool a0_2]] rfl (by (try simp only [List.map_toArray, List.map_cons, List.map_nil]); first | done | rfl | (simp only [List.length_drop, List.length_take]; rfl)) ?_; (with_reducible refine (impl_PointOk.calls a0_0 a0_1 a0_2 true _ A2.out).mono ?_); rintro e w7 ⟨rfl, hb⟩; refine ⟨_, rfl, ?_⟩; replace BK266 := bB BK266 hb; replace HB := bS HB hb; (try clear hb); (try clear hb2); (try clear hk); (try clear hi); have hcz8_0 : w7.cell? ⟨gb266, 0, none⟩ = some (.int .i64 a0_0) := bc BK266 0; have hcz8_1 : w7.cell? ⟨gb266, 1, none⟩ = some (.int .i64 a0_1) := bc BK266 1; have hcz8_2 : w7.cell? ⟨gb266, 2, none⟩ = some (.bool a0_2) := bc BK266 2; have hfz8_0 := blk_frozen BK266.out 0; have hfz8_1 := blk_frozen BK266.out 1; have hfz8_2 := blk_frozen BK266.out 2) | (go_at_call 48; (with_reducible refine (impl_PointTimes.calls k 1009 a0_0 a0_1 a0_2 t268 t269 t270 _ A4.out).mono ?_); rintro e w9 ⟨rfl, hb⟩; replace BK266 := bB BK266 hb; replace HB := bS HB hb; (try clear hb); (try clear hb2); (try clear hk); (try clear hi)))
  go_ret
  exact ⟨by first | rfl | (simp [errW_none, errW_some] <;> rfl) | (simp [*, errW_none, errW_some] <;> rfl), bZ HB⟩
 ·replace c3 := Bool.eq_false_iff.mpr c3
  subst c3
  have H1 : (some false) = some r := by rw [if_neg (show ¬ (false = true) by decide)] at H; exact H
  clear H
  have H := H1
  clear H1
  obtain rfl := Option.some.inj H
  go_enter Try.func29, Try.ntmps29
  go_wp2_with (first | ((with_reducible refine gate_dst (N := 1) rfl ?_); refine box_event ?hg (N := 1) ?hd (cs := #[.int .i64 a0_0, .int .i64 a0_1, .bool a0_2]) (t := 48) ?hr ?_; (case hd => rfl); (case hg => rfl); (case hr => first | (go_simp; done) | (go_simp; rfl)); intro gb266 hg w10 hbox hb; have BK266 := Aside0.mk (hbox); have GW266 := bG HB hg; have GE266 := bG HB hg; replace HB := bS HB hb; clear hb hbox hg; have hcz11_0 : w10.cell? ⟨gb266, 0, none⟩ = some (.int .i64 a0_0) := bc BK266 0; have hcz11_1 : w10.cell? ⟨gb266, 1, none⟩ = some (.int .i64 a0_1) := bc BK266 1; have hcz11_2 : w10.cell? ⟨gb266, 2, none⟩ = some (.bool a0_2) := bc BK266 2; have hfz11_0 := blk_frozen BK266.out 0; have hfz11_1 := blk_frozen BK266.out 1; have hfz11_2 := blk_frozen BK266.out 2) | ((with_reducible refine gate_callee (f := 47) rfl ?_); refine goesL_ (some 4) rfl rfl Try.func47 (by kernel_rfl) rfl #[.agg #[.int .i64 a0_0, .int .i64 a0_1, .bool a0_2]] rfl (by (try simp only [List.map_toArray, List.map_cons, List.map_nil]); first | done | rfl | (simp only [List.length_drop, List.length_take]; rfl)) ?_; (with_reducible refine (impl_PointOk.calls a0_0 a0_1 a0_2 false _ A2.out).mono ?_); rintro e w12 ⟨rfl, hb⟩; refine ⟨_, rfl, ?_⟩; replace BK266 := bB BK266 hb; replace HB := bS HB hb; (try clear hb); (try clear hb2); (try clear hk); (try clear hi)))
  go_ret
  exact ⟨by first | rfl | (simp [errW_none, errW_some] <;> rfl) | (simp [*, errW_none, errW_some] <;> rfl), bZ HB⟩
/-! ### impl_CommitteeOk: function 11 -/
def impl_CommitteeOk.l0 : Nat → List (S48) → Int → Int → Option (Bool)
 | 0, _, _, _ => none
 | k + 1, x10, x11, x12 => if x12 < x11 then (if 0 ≤ x12 then (if x12 < (x10.length : Int) then (if (rd_T48 x10 x12).f2 = true then (some false) else ((impl_InGroup.f k ((rd_T48 x10 x12).f0) ((rd_T48 x10 x12).f1) ((rd_T48 x10 x12).f2)).bind fun t274 => (if t274 = true then (impl_CommitteeOk.l0 k x10 x11 (wrap64 (x12 + 1))) else (some false)))) else (none)) else (none)) else (some true)
def impl_CommitteeOk.f (k : Nat) (l0_0 : List (S48)) : Option (Bool) := if (l0_0.length : Int) = 8 then (impl_CommitteeOk.l0 k l0_0 (l0_0.length : Int) 0) else (some false)
theorem impl_CommitteeOk.mono_l : ∀ k, (∀ y0 y1 y2, LeO (impl_CommitteeOk.l0 k y0 y1 y2) (impl_CommitteeOk.l0 (k + 1) y0 y1 y2))
 | 0 => fun _ _ _ r h => by simp [impl_CommitteeOk.l0] at h
 | k + 1 => by
  have ih0 := impl_CommitteeOk.mono_l k
  ·intro y0 y1 y2
   unfold impl_CommitteeOk.l0
   repeat' first
   | (with_reducible exact ih0 _ _ _)
   | (with_reducible exact impl_InGroup.mono _ _ _ _)
   | (with_reducible exact LeO.refl _)
   | (with_reducible exact LeO.none _)
   | (with_reducible refine LeO.ite ?_ ?_)
   | (with_reducible refine LeO.bind ?_ (fun _ => ?_))
   | exact ih0 _ _ _
   | exact impl_InGroup.mono _ _ _ _
   | exact LeO.none _
   | refine LeO.ite ?_ ?_
   | refine LeO.bind ?_ (fun _ => ?_)
theorem impl_CommitteeOk.mono : ∀ a0 k, LeO (impl_CommitteeOk.f k a0) (impl_CommitteeOk.f (k + 1) a0) := by
 intro a0 k
 have ih0 := impl_CommitteeOk.mono_l k
 unfold impl_CommitteeOk.f
 repeat' first
   | (with_reducible exact ih0 _ _ _)
   | (with_reducible exact impl_InGroup.mono _ _ _ _)
   | (with_reducible exact LeO.refl _)
   | (with_reducible exact LeO.none _)
   | (with_reducible refine LeO.ite ?_ ?_)
   | (with_reducible refine LeO.bind ?_ (fun _ => ?_))
   | exact ih0 _ _ _
   | exact impl_InGroup.mono _ _ _ _
   | exact LeO.none _
   | refine LeO.ite ?_ ?_
   | refine LeO.bind ?_ (fun _ => ?_)
set_option maxHeartbeats 8000000 in
set_option maxRecDepth 100000 in
theorem impl_CommitteeOk.calls (k : Nat) (A0_0 : Option Addr) (c0_0 : Nat) (l0_0 : List (S48)) (r : Bool) (w : World) (hr0_0 : Kd.C k48 w A0_0 l0_0.length l0_0) (hc0_0 : l0_0.length ≤ c0_0) (h : impl_CommitteeOk.f k l0_0 = some r) :
  Calls Try.prog 11 #[.agg #[.slice A0_0 l0_0.length c0_0]] w fun e w' => e = .returned (.bool r) ∧ Below w.heap.size w w' := by
 have hu29 := Try.underlying29
 have hu48 := Try.underlying48
 have HR0_0 := Aside0.mk hr0_0
 have HC0_0 := Aside0.mk hc0_0
 clear hr0_0 hc0_0
 have HB := Aside0.mk (Below.refl w.heap.size w)
 have H : (if (l0_0.length : Int) = 8 then (impl_CommitteeOk.l0 k l0_0 (l0_0.length : Int) 0) else (some false)) = some r := h
 clear h
 by_cases c2 : (l0_0.length : Int) = 8
 ·rw [if_pos c2] at H
  have c2b0 : ((l0_0.length : Int) == 8) = true := beq_iff_eq.mpr c2
  have c2b1 : ((l0_0.length : Int) != 8) = false := bne_eq_false_iff_eq.mpr c2
  clear c2
  have H' := Aside0.mk H
  clear H
  go_enter Try.func11, Try.ntmps11
  go_wp2_with (first | ((with_reducible refine gate_dst (N := 1) rfl ?_); refine box_event ?hg (N := 1) ?hd (cs := #[.slice A0_0 l0_0.length c0_0]) (t := 29) ?hr ?_; (case hd => rfl); (case hg => rfl); (case hr => first | (go_simp; done) | (go_simp; rfl)); intro gb271 hg w3 hbox hb; have BK271 := Aside0.mk (hbox); have GW271 := bG HB hg; have GE271 := bG HB hg; replace HB := bS HB hb; clear hb hbox hg; have hcz4_0 : w3.cell? ⟨gb271, 0, none⟩ = some (.slice A0_0 l0_0.length c0_0) := bc BK271 0; have hfz4_0 := blk_frozen BK271.out 0))
  go_loopg [12] k (fun kq v12 w' => ∃ (x12_1 : Int), v12 = .int .i64 x12_1 ∧ Aside0 (impl_CommitteeOk.l0 kq l0_0 (l0_0.length : Int) x12_1 = some r) ∧ Aside0 (kq ≤ k) ∧ Aside0 (w'.heap[gb271]? = some (.cells #[(.slice A0_0 l0_0.length c0_0)] 29 (0, 0))) ∧ Aside0 (Below w.heap.size w w'))
  case atStart => exact ⟨(0), (by first | rfl | (simp; done) | (simp [*]; done)), H', ⟨Nat.le_refl _⟩, ⟨bP BK271⟩, ⟨bZ HB⟩⟩
  case round =>
   clear H'
   try clear c1
   try clear c2
   try clear c2b0
   try clear c2b1
   try clear p2
   try clear hcz4_0
   try clear hfz4_0
   obtain ⟨x12_1, rfl, HA, HK1, BK271, HB⟩ := hrel
   cases gk with
   | zero => exact absurd HA.out (by simp [impl_CommitteeOk.l0])
   | succ k1 =>
    have H := HA.out
    clear HA
    simp only [impl_CommitteeOk.l0] at H
    by_cases c5 : x12_1 < (l0_0.length : Int)
    ·rw [if_pos c5] at H
     have c5b0 : decide (x12_1 < (l0_0.length : Int)) = true := decide_eq_true c5
     clear c5
     by_cases c6 : 0 ≤ x12_1
     ·rw [if_pos c6] at H
      have c6b0 : decide (0 ≤ x12_1) = true := decide_eq_true c6
      clear c6
      by_cases c7 : x12_1 < (l0_0.length : Int)
      ·rw [if_pos c7] at H
       have c7b0 : decide (x12_1 < (l0_0.length : Int)) = true := decide_eq_true c7
       clear c7
       obtain ⟨bq8, hbq8⟩ : ∃ b_ : Bool, b_ = ((rd_T48 l0_0 x12_1).f2) := ⟨_, rfl⟩
       replace H : (if bq8 = true then (some false) else ((impl_InGroup.f k1 ((rd_T48 l0_0 x12_1).f0) ((rd_T48 l0_0 x12_1).f1) (bq8)).bind fun t274 => (if t274 = true then (impl_CommitteeOk.l0 k1 l0_0 (l0_0.length : Int) (wrap64 (x12_1 + 1))) else (some false)))) = some r := by rw [← hbq8] at H; exact H
       have Nbq8 := Aside0.mk hbq8
       clear hbq8
       by_cases c9 : bq8 = true
       ·subst c9
        have H1 : (some false) = some r := by rw [if_pos rfl] at H; exact H
        clear H
        have H := H1
        clear H1
        obtain rfl := Option.some.inj H
        have p272 : 0 ≤ (x12_1 : Int) := of_decide_eq_true (by first | (with_reducible assumption) | assumption)
        have q272 : x12_1 < (l0_0.length : Int) := of_decide_eq_true (by first | (with_reducible assumption) | assumption)
        obtain ⟨ad272, e272, hx272_0, hx272_1, hx272_2⟩ := at_T48 HR0_0.out x12_1 p272 q272
        (try rw [← Nbq8.out] at hx272_2)
        cases e272
        replace hx272_0 := (HB.out.cell (World.block_lt_of_cell? w _ hx272_0)).trans hx272_0
        replace hx272_1 := (HB.out.cell (World.block_lt_of_cell? w _ hx272_1)).trans hx272_1
        replace hx272_2 := (HB.out.cell (World.block_lt_of_cell? w _ hx272_2)).trans hx272_2
        replace p272 := eq_true p272
        replace q272 := eq_true q272
        go_wp2_with (first | ((with_reducible refine gate_dst (N := 4) rfl ?_); refine box_event ?hg (N := 4) ?hd (cs := #[.int .i64 0, .int .i64 0, .bool false]) (t := 48) ?hr ?_; (case hd => rfl); (case hg => rfl); (case hr => first | (go_simp; done) | (go_simp; rfl)); intro gb273 hg w10 hbox hb; have BK273 := Aside0.mk (hbox); have GW273 := bG HB hg; have GE273 := bG HB hg; replace HB := bS HB hb; have NB271_273 := bL BK271 hg; have NB273_271 := bR BK271 hg; replace BK271 := bB BK271 hb; clear hb hbox hg; have hnb11 := NB273_271.out; have hnc11 := NB271_273.out; have hcz12_0 : w10.cell? ⟨gb273, 0, none⟩ = some (.int .i64 0) := bc BK273 0; have hcz12_1 : w10.cell? ⟨gb273, 1, none⟩ = some (.int .i64 0) := bc BK273 1; have hcz12_2 : w10.cell? ⟨gb273, 2, none⟩ = some (.bool false) := bc BK273 2; have hfz12_0 := blk_frozen BK273.out 0; have hfz12_1 := blk_frozen BK273.out 1; have hfz12_2 := blk_frozen BK273.out 2))
        go_ret
        exact ⟨by first | rfl | (simp [errW_none, errW_some] <;> rfl) | (simp [*, errW_none, errW_some] <;> rfl), bZ HB⟩
       ·replace c9 := Bool.eq_false_iff.mpr c9
        subst c9
        have H1 : ((impl_InGroup.f k1 ((rd_T48 l0_0 x12_1).f0) ((rd_T48 l0_0 x12_1).f1) (false)).bind fun t274 => (if t274 = true then (impl_CommitteeOk.l0 k1 l0_0 (l0_0.length : Int) (wrap64 (x12_1 + 1))) else (some false))) = some r := by rw [if_neg (show ¬ (false = true) by decide)] at H; exact H
        clear H
        have H := H1
        clear H1
        replace H := Option.bind_eq_some_iff.mp H
        obtain ⟨t274, A130, H⟩ := H
        replace H : (if t274 = true then (impl_CommitteeOk.l0 k1 l0_0 (l0_0.length : Int) (wrap64 (x12_1 + 1))) else (some false)) = some r := H
        have A13 := Aside0.mk A130
        clear A130
        by_cases c14 : t274 = true
        ·subst c14
         have H1 : (impl_CommitteeOk.l0 k1 l0_0 (l0_0.length : Int) (wrap64 (x12_1 + 1))) = some r := by rw [if_pos rfl] at H; exact H
         clear H
         have H := H1
         clear H1
         have H' := Aside0.mk H
         clear H
         have p272 : 0 ≤ (x12_1 : Int) := of_decide_eq_true (by first | (with_reducible assumption) | assumption)
         have q272 : x12_1 < (l0_0.length : Int) := of_decide_eq_true (by first | (with_reducible assumption) | assumption)
         obtain ⟨ad272, e272, hx272_0, hx272_1, hx272_2⟩ := at_T48 HR0_0.out x12_1 p272 q272
         (try rw [← Nbq8.out] at hx272_2)
         cases e272
         replace hx272_0 := (HB.out.cell (World.block_lt_of_cell? w _ hx272_0)).trans hx272_0
         replace hx272_1 := (HB.out.cell (World.block_lt_of_cell? w _ hx272_1)).trans hx272_1
         replace hx272_2 := (HB.out.cell (World.block_lt_of_cell? w _ hx272_2)).trans hx272_2
         replace p272 := eq_true p272
         replace q272 := eq_true q272
         go_wp2_with (first | ((with_reducible refine gate_dst (N := 4) rfl ?_); refine box_event ?hg (N := 4) ?hd (cs := #[.int .i64 0, .int .i64 0, .bool false]) (t := 48) ?hr ?_; (case hd => rfl); (case hg => rfl); (case hr => first | (go_simp; done) | (go_simp; rfl)); intro gb273 hg w15 hbox hb; have BK273 := Aside0.mk (hbox); have GW273 := bG HB hg; have GE273 := bG HB hg; replace HB := bS HB hb; have NB271_273 := bL BK271 hg; have NB273_271 := bR BK271 hg; replace BK271 := bB BK271 hb; clear hb hbox hg; have hnb16 := NB273_271.out; have hnc16 := NB271_273.out; have hcz17_0 : w15.cell? ⟨gb273, 0, none⟩ = some (.int .i64 0) := bc BK273 0; have hcz17_1 : w15.cell? ⟨gb273, 1, none⟩ = some (.int .i64 0) := bc BK273 1; have hcz17_2 : w15.cell? ⟨gb273, 2, none⟩ = some (.bool false) := bc BK273 2; have hfz17_0 := blk_frozen BK273.out 0; have hfz17_1 := blk_frozen BK273.out 1; have hfz17_2 := blk_frozen BK273.out 2) | (go_at_call 29; (with_reducible refine (impl_InGroup.calls k1 ((rd_T48 l0_0 x12_1).f0) ((rd_T48 l0_0 x12_1).f1) false true _ A13.out).mono ?_); rintro e w18 ⟨rfl, hb⟩; replace BK271 := bB BK271 hb; replace BK273 := Aside0.mk (blk_below (g := gb273) (o := .cells #[.int .i64 ((rd_T48 l0_0 x12_1).f0), .int .i64 ((rd_T48 l0_0 x12_1).f1), .bool false] 48 (0, 0)) (by (with_reducible repeat (first | refine blk_drewN ?_ _ | refine blk_drew ?_ | refine blk_alloc ?_ _)); refine blk_put (cs := #[.int .i64 ((rd_T48 l0_0 x12_1).f0), .int .i64 ((rd_T48 l0_0 x12_1).f1), .bool false]) ?_ 2 _ rfl; (with_reducible repeat (first | refine blk_drewN ?_ _ | refine blk_drew ?_ | refine blk_alloc ?_ _)); refine blk_put (cs := #[.int .i64 ((rd_T48 l0_0 x12_1).f0), .int .i64 0, .bool false]) ?_ 1 _ rfl; (with_reducible repeat (first | refine blk_drewN ?_ _ | refine blk_drew ?_ | refine blk_alloc ?_ _)); refine blk_put (cs := #[.int .i64 0, .int .i64 0, .bool false]) ?_ 0 _ rfl; (with_reducible repeat (first | refine blk_drewN ?_ _ | refine blk_drew ?_ | refine blk_alloc ?_ _)); exact BK273.out) hb); replace HB := bS HB hb; (try clear hb); (try clear hb2); (try clear hk); (try clear hi)))
         go_roundg k1
         case measure => have := HK1.out; omega
         case rel => exact ⟨(wrap64 (x12_1 + 1)), (by first | rfl | (simp; done) | (simp [*]; done)), H', ⟨by have := HK1.out; omega⟩, ⟨bP BK271⟩, ⟨bZ HB⟩⟩
        ·replace c14 := Bool.eq_false_iff.mpr c14
         subst c14
         have H1 : (some false) = some r := by rw [if_neg (show ¬ (false = true) by decide)] at H; exact H
         clear H
         have H := H1
         clear H1
         obtain rfl := Option.some.inj H
         have p272 : 0 ≤ (x12_1 : Int) := of_decide_eq_true (by first | (with_reducible assumption) | assumption)
         have q272 : x12_1 < (l0_0.length : Int) := of_decide_eq_true (by first | (with_reducible assumption) | assumption)
         obtain ⟨ad272, e272, hx272_0, hx272_1, hx272_2⟩ := at_T48 HR0_0.out x12_1 p272 q272
         (try rw [← Nbq8.out] at hx272_2)
         cases e272
         replace hx272_0 := (HB.out.cell (World.block_lt_of_cell? w _ hx272_0)).trans hx272_0
         replace hx272_1 := (HB.out.cell (World.block_lt_of_cell? w _ hx272_1)).trans hx272_1
         replace hx272_2 := (HB.out.cell (World.block_lt_of_cell? w _ hx272_2)).trans hx272_2
         replace p272 := eq_true p272
         replace q272 := eq_true q272
         go_wp2_with (first | ((with_reducible refine gate_dst (N := 4) rfl ?_); refine box_event ?hg (N := 4) ?hd (cs := #[.int .i64 0, .int .i64 0, .bool false]) (t := 48) ?hr ?_; (case hd => rfl); (case hg => rfl); (case hr => first | (go_simp; done) | (go_simp; rfl)); intro gb273 hg w19 hbox hb; have BK273 := Aside0.mk (hbox); have GW273 := bG HB hg; have GE273 := bG HB hg; replace HB := bS HB hb; have NB271_273 := bL BK271 hg; have NB273_271 := bR BK271 hg; replace BK271 := bB BK271 hb; clear hb hbox hg; have hnb20 := NB273_271.out; have hnc20 := NB271_273.out; have hcz21_0 : w19.cell? ⟨gb273, 0, none⟩ = some (.int .i64 0) := bc BK273 0; have hcz21_1 : w19.cell? ⟨gb273, 1, none⟩ = some (.int .i64 0) := bc BK273 1; have hcz21_2 : w19.cell? ⟨gb273, 2, none⟩ = some (.bool false) := bc BK273 2; have hfz21_0 := blk_frozen BK273.out 0; have hfz21_1 := blk_frozen BK273.out 1; have hfz21_2 := blk_frozen BK273.out 2) | (go_at_call 29; (with_reducible refine (impl_InGroup.calls k1 ((rd_T48 l0_0 x12_1).f0) ((rd_T48 l0_0 x12_1).f1) false false _ A13.out).mono ?_); rintro e w22 ⟨rfl, hb⟩; replace BK271 := bB BK271 hb; replace BK273 := Aside0.mk (blk_below (g := gb273) (o := .cells #[.int .i64 ((rd_T48 l0_0 x12_1).f0), .int .i64 ((rd_T48 l0_0 x12_1).f1), .bool false] 48 (0, 0)) (by (with_reducible repeat (first | refine blk_drewN ?_ _ | refine blk_drew ?_ | refine blk_alloc ?_ _)); refine blk_put (cs := #[.int .i64 ((rd_T48 l0_0 x12_1).f0), .int .i64 ((rd_T48 l0_0 x12_1).f1), .bool false]) ?_ 2 _ rfl; (with_reducible repeat (first | refine blk_drewN ?_ _ | refine blk_drew ?_ | refine blk_alloc ?_ _)); refine blk_put (cs := #[.int .i64 ((rd_T48 l0_0 x12_1).f0), .int .i64 0, .bool false]) ?_ 1 _ rfl; (with_reducible repeat (first | refine blk_drewN ?_ _ | refine blk_drew ?_ | refine blk_alloc ?_ _)); refine blk_put (cs := #[.int .i64 0, .int .i64 0, .bool false]) ?_ 0 _ rfl; (with_reducible repeat (first | refine blk_drewN ?_ _ | refine blk_drew ?_ | refine blk_alloc ?_ _)); exact BK273.out) hb); replace HB := bS HB hb; (try clear hb); (try clear hb2); (try clear hk); (try clear hi)))
         go_ret
         exact ⟨by first | rfl | (simp [errW_none, errW_some] <;> rfl) | (simp [*, errW_none, errW_some] <;> rfl), bZ HB⟩
      ·rw [if_neg c7] at H
       exact absurd H (by simp)
     ·rw [if_neg c6] at H
      exact absurd H (by simp)
    ·rw [if_neg c5] at H
     have c5b0 : decide (x12_1 < (l0_0.length : Int)) = false := decide_eq_false c5
     clear c5
     obtain rfl := Option.some.inj H
     go_wp2
     go_ret
     exact ⟨by first | rfl | (simp [errW_none, errW_some] <;> rfl) | (simp [*, errW_none, errW_some] <;> rfl), bZ HB⟩
 ·rw [if_neg c2] at H
  have c2b0 : ((l0_0.length : Int) == 8) = false := beq_eq_false_iff_ne.mpr c2
  have c2b1 : ((l0_0.length : Int) != 8) = true := bne_iff_ne.mpr c2
  obtain rfl := Option.some.inj H
  go_enter Try.func11, Try.ntmps11
  go_wp2_with (first | ((with_reducible refine gate_dst (N := 1) rfl ?_); refine box_event ?hg (N := 1) ?hd (cs := #[.slice A0_0 l0_0.length c0_0]) (t := 29) ?hr ?_; (case hd => rfl); (case hg => rfl); (case hr => first | (go_simp; done) | (go_simp; rfl)); intro gb271 hg w23 hbox hb; have BK271 := Aside0.mk (hbox); have GW271 := bG HB hg; have GE271 := bG HB hg; replace HB := bS HB hb; clear hb hbox hg; have hcz24_0 : w23.cell? ⟨gb271, 0, none⟩ = some (.slice A0_0 l0_0.length c0_0) := bc BK271 0; have hfz24_0 := blk_frozen BK271.out 0))
  go_ret
  exact ⟨by first | rfl | (simp [errW_none, errW_some] <;> rfl) | (simp [*, errW_none, errW_some] <;> rfl), bZ HB⟩
/-! ### impl_PointText: function 40 -/
def impl_PointText.f (a0_0 : Int) (a0_1 : Int) (a0_2 : Bool) : Option (ByteArray) := (impl_PointOk.f a0_0 a0_1 a0_2).bind fun t466 => (if t466 = true then (if a0_2 = true then (some (⟨#[0, 0, 0]⟩ : ByteArray)) else (some (strOfNums (([((wrap64 (a0_0 + 1)) / 256) % 256, (wrap64 (a0_0 + 1)) % 256, (Int.tmod a0_1 2) % 256] : List Int))))) else (some (⟨#[]⟩ : ByteArray)))
set_option maxHeartbeats 8000000 in
set_option maxRecDepth 100000 in
theorem impl_PointText.calls (a0_0 : Int) (a0_1 : Int) (a0_2 : Bool) (r : ByteArray) (w : World) (h : impl_PointText.f a0_0 a0_1 a0_2 = some r) :
  Calls Try.prog 40 #[.agg #[.int .i64 a0_0, .int .i64 a0_1, .bool a0_2]] w fun e w' => e = .returned (.string r) ∧ Below w.heap.size w w' := by
 have hu48 := Try.underlying48
 have HB := Aside0.mk (Below.refl w.heap.size w)
 have H : ((impl_PointOk.f a0_0 a0_1 a0_2).bind fun t466 => (if t466 = true then (if a0_2 = true then (some (⟨#[0, 0, 0]⟩ : ByteArray)) else (some (strOfNums (([((wrap64 (a0_0 + 1)) / 256) % 256, (wrap64 (a0_0 + 1)) % 256, (Int.tmod a0_1 2) % 256] : List Int))))) else (some (⟨#[]⟩ : ByteArray)))) = some r := h
 clear h
 replace H := Option.bind_eq_some_iff.mp H
 obtain ⟨t466, A20, H⟩ := H
 replace H : (if t466 = true then (if a0_2 = true then (some (⟨#[0, 0, 0]⟩ : ByteArray)) else (some (strOfNums (([((wrap64 (a0_0 + 1)) / 256) % 256, (wrap64 (a0_0 + 1)) % 256, (Int.tmod a0_1 2) % 256] : List Int))))) else (some (⟨#[]⟩ : ByteArray))) = some r := H
 have A2 := Aside0.mk A20
 clear A20
 by_cases c3 : t466 = true
 ·subst c3
  have H1 : (if a0_2 = true then (some (⟨#[0, 0, 0]⟩ : ByteArray)) else (some (strOfNums (([((wrap64 (a0_0 + 1)) / 256) % 256, (wrap64 (a0_0 + 1)) % 256, (Int.tmod a0_1 2) % 256] : List Int))))) = some r := by rw [if_pos rfl] at H; exact H
  clear H
  have H := H1
  clear H1
  by_cases c4 : a0_2 = true
  ·subst c4
   have H1 : (some (⟨#[0, 0, 0]⟩ : ByteArray)) = some r := by rw [if_pos rfl] at H; exact H
   clear H
   have H := H1
   clear H1
   obtain rfl := Option.some.inj H
   go_enter Try.func40, Try.ntmps40
   go_wp2_with (first | ((with_reducible refine gate_dst (N := 1) rfl ?_); refine box_event ?hg (N := 1) ?hd (cs := #[.int .i64 a0_0, .int .i64 a0_1, .bool true]) (t := 48) ?hr ?_; (case hd => rfl); (case hg => rfl); (case hr => first | (go_simp; done) | (go_simp; rfl)); intro gb465 hg w5 hbox hb; have BK465 := Aside0.mk (hbox); have GW465 := bG HB hg; have GE465 := bG HB hg; replace HB := bS HB hb; clear hb hbox hg; have hcz6_0 : w5.cell? ⟨gb465, 0, none⟩ = some (.int .i64 a0_0) := bc BK465 0; have hcz6_1 : w5.cell? ⟨gb465, 1, none⟩ = some (.int .i64 a0_1) := bc BK465 1; have hcz6_2 : w5.cell? ⟨gb465, 2, none⟩ = some (.bool true) := bc BK465 2; have hfz6_0 := blk_frozen BK465.out 0; have hfz6_1 := blk_frozen BK465.out 1; have hfz6_2 := blk_frozen BK465.out 2) | ((with_reducible refine gate_callee (f := 47) rfl ?_); refine goesL_ (some 5) rfl rfl Try.func47 (by kernel_rfl) rfl #[.agg #[.int .i64 a0_0, .int .i64 a0_1, .bool true]] rfl (by (try simp only [List.map_toArray, List.map_cons, List.map_nil]); first | done | rfl | (simp only [List.length_drop, List.length_take]; rfl)) ?_; (with_reducible refine (impl_PointOk.calls a0_0 a0_1 true true _ A2.out).mono ?_); rintro e w7 ⟨rfl, hb⟩; refine ⟨_, rfl, ?_⟩; replace BK465 := bB BK465 hb; replace HB := bS HB hb; (try clear hb); (try clear hb2); (try clear hk); (try clear hi); have hcz8_0 : w7.cell? ⟨gb465, 0, none⟩ = some (.int .i64 a0_0) := bc BK465 0; have hcz8_1 : w7.cell? ⟨gb465, 1, none⟩ = some (.int .i64 a0_1) := bc BK465 1; have hcz8_2 : w7.cell? ⟨gb465, 2, none⟩ = some (.bool true) := bc BK465 2; have hfz8_0 := blk_frozen BK465.out 0; have hfz8_1 := blk_frozen BK465.out 1; have hfz8_2 := blk_frozen BK465.out 2))
   go_ret
   exact ⟨by first | rfl | (simp [errW_none, errW_some] <;> rfl) | (simp [*, errW_none, errW_some] <;> rfl), bZ HB⟩
  ·replace c4 := Bool.eq_false_iff.mpr c4
   subst c4
   have H1 : (some (strOfNums (([((wrap64 (a0_0 + 1)) / 256) % 256, (wrap64 (a0_0 + 1)) % 256, (Int.tmod a0_1 2) % 256] : List Int)))) = some r := by rw [if_neg (show ¬ (false = true) by decide)] at H; exact H
   clear H
   have H := H1
   clear H1
   obtain ⟨y467, hy467⟩ : ∃ y_ : List Int, y_ = (([((wrap64 (a0_0 + 1)) / 256) % 256, (wrap64 (a0_0 + 1)) % 256, (Int.tmod a0_1 2) % 256] : List Int)) := ⟨_, rfl⟩
   replace H : (some (strOfNums y467)) = some r := by first | (rw [hy467]; with_reducible exact H) | (have H2_ := (Option.bind_some _ _).symm.trans H; rw [hy467]; with_reducible exact H2_) | (have H2_ := (Option.bind_some _ _).symm.trans H; with_reducible exact H2_) | with_reducible exact H | (rw [hy467]; exact H) | exact H
   have Ny467 := Aside0.mk hy467
   clear hy467
   obtain rfl := Option.some.inj H
   go_enter Try.func40, Try.ntmps40
   go_wp2_with (first | ((with_reducible refine gate_dst (N := 1) rfl ?_); refine box_event ?hg (N := 1) ?hd (cs := #[.int .i64 a0_0, .int .i64 a0_1, .bool false]) (t := 48) ?hr ?_; (case hd => rfl); (case hg => rfl); (case hr => first | (go_simp; done) | (go_simp; rfl)); intro gb465 hg w9 hbox hb; have BK465 := Aside0.mk (hbox); have GW465 := bG HB hg; have GE465 := bG HB hg; replace HB := bS HB hb; clear hb hbox hg; have hcz10_0 : w9.cell? ⟨gb465, 0, none⟩ = some (.int .i64 a0_0) := bc BK465 0; have hcz10_1 : w9.cell? ⟨gb465, 1, none⟩ = some (.int .i64 a0_1) := bc BK465 1; have hcz10_2 : w9.cell? ⟨gb465, 2, none⟩ = some (.bool false) := bc BK465 2; have hfz10_0 := blk_frozen BK465.out 0; have hfz10_1 := blk_frozen BK465.out 1; have hfz10_2 := blk_frozen BK465.out 2) | ((with_reducible refine gate_callee (f := 47) rfl ?_); refine goesL_ (some 5) rfl rfl Try.func47 (by kernel_rfl) rfl #[.agg #[.int .i64 a0_0, .int .i64 a0_1, .bool false]] rfl (by (try simp only [List.map_toArray, List.map_cons, List.map_nil]); first | done | rfl | (simp only [List.length_drop, List.length_take]; rfl)) ?_; (with_reducible refine (impl_PointOk.calls a0_0 a0_1 false true _ A2.out).mono ?_); rintro e w11 ⟨rfl, hb⟩; refine ⟨_, rfl, ?_⟩; replace BK465 := bB BK465 hb; replace HB := bS HB hb; (try clear hb); (try clear hb2); (try clear hk); (try clear hi); have hcz12_0 : w11.cell? ⟨gb465, 0, none⟩ = some (.int .i64 a0_0) := bc BK465 0; have hcz12_1 : w11.cell? ⟨gb465, 1, none⟩ = some (.int .i64 a0_1) := bc BK465 1; have hcz12_2 : w11.cell? ⟨gb465, 2, none⟩ = some (.bool false) := bc BK465 2; have hfz12_0 := blk_frozen BK465.out 0; have hfz12_1 := blk_frozen BK465.out 1; have hfz12_2 := blk_frozen BK465.out 2) | ((with_reducible refine gate_dst (N := 21) rfl ?_); refine Kd.R_lit (Kd.int .u8) _ 5 ?hg (N := 21) ?hd (xs := ([((wrap64 (a0_0 + 1)) / 256) % 256, (wrap64 (a0_0 + 1)) % 256, (Int.tmod a0_1 2) % 256] : List Int)) (inner := [.int .u8 (((wrap64 (a0_0 + 1)) / 256) % 256), .int .u8 ((wrap64 (a0_0 + 1)) % 256), .int .u8 ((Int.tmod a0_1 2) % 256)]) (ok := fun _ => True) (okp := fun _ => True) ?hr ?hp (fun _ hk => hk) trivial (Below.refl _ _) (Nat.le_refl _) (by simp) ?_; (case hd => rfl); (case hg => rfl); (case hr => first | (go_simp; done) | (go_simp; rfl)); (case hp => exact (Reps.one (show Kd.M (Kd.int .u8) _ _ _ (((wrap64 (a0_0 + 1)) / 256) % 256) [.int .u8 (((wrap64 (a0_0 + 1)) / 256) % 256)] from rfl) (Reps.one (show Kd.M (Kd.int .u8) _ _ _ ((wrap64 (a0_0 + 1)) % 256) [.int .u8 ((wrap64 (a0_0 + 1)) % 256)] from rfl) (Reps.one (show Kd.M (Kd.int .u8) _ _ _ ((Int.tmod a0_1 2) % 256) [.int .u8 ((Int.tmod a0_1 2) % 256)] from rfl) (Reps.none _ _))))); intro v468 w13 ho14 hb hg_ hnew_; clear hg_ hnew_; (first | rw [← Ny467.out] at ho14 | (simp only [Int.reduceToNat] at ho14; rw [← Ny467.out] at ho14)); have HO469 := Aside0.mk (Kd.R_lower ho14 (below_size (bZ HB))); replace BK465 := bB BK465 hb; replace HB := bS HB hb; clear hb ho14; have hcv15 := own_string (P := Try.prog) Try.underlying68 Try.underlying5 Try.underlying9 (Kd.own_of_R HO469.out)))
   go_ret
   exact ⟨by first | rfl | (simp [errW_none, errW_some] <;> rfl) | (simp [*, errW_none, errW_some] <;> rfl), bZ HB⟩
 ·replace c3 := Bool.eq_false_iff.mpr c3
  subst c3
  have H1 : (some (⟨#[]⟩ : ByteArray)) = some r := by rw [if_neg (show ¬ (false = true) by decide)] at H; exact H
  clear H
  have H := H1
  clear H1
  obtain rfl := Option.some.inj H
  go_enter Try.func40, Try.ntmps40
  go_wp2_with (first | ((with_reducible refine gate_dst (N := 1) rfl ?_); refine box_event ?hg (N := 1) ?hd (cs := #[.int .i64 a0_0, .int .i64 a0_1, .bool a0_2]) (t := 48) ?hr ?_; (case hd => rfl); (case hg => rfl); (case hr => first | (go_simp; done) | (go_simp; rfl)); intro gb465 hg w16 hbox hb; have BK465 := Aside0.mk (hbox); have GW465 := bG HB hg; have GE465 := bG HB hg; replace HB := bS HB hb; clear hb hbox hg; have hcz17_0 : w16.cell? ⟨gb465, 0, none⟩ = some (.int .i64 a0_0) := bc BK465 0; have hcz17_1 : w16.cell? ⟨gb465, 1, none⟩ = some (.int .i64 a0_1) := bc BK465 1; have hcz17_2 : w16.cell? ⟨gb465, 2, none⟩ = some (.bool a0_2) := bc BK465 2; have hfz17_0 := blk_frozen BK465.out 0; have hfz17_1 := blk_frozen BK465.out 1; have hfz17_2 := blk_frozen BK465.out 2) | ((with_reducible refine gate_callee (f := 47) rfl ?_); refine goesL_ (some 5) rfl rfl Try.func47 (by kernel_rfl) rfl #[.agg #[.int .i64 a0_0, .int .i64 a0_1, .bool a0_2]] rfl (by (try simp only [List.map_toArray, List.map_cons, List.map_nil]); first | done | rfl | (simp only [List.length_drop, List.length_take]; rfl)) ?_; (with_reducible refine (impl_PointOk.calls a0_0 a0_1 a0_2 false _ A2.out).mono ?_); rintro e w18 ⟨rfl, hb⟩; refine ⟨_, rfl, ?_⟩; replace BK465 := bB BK465 hb; replace HB := bS HB hb; (try clear hb); (try clear hb2); (try clear hk); (try clear hi)))
  go_ret
  exact ⟨by first | rfl | (simp [errW_none, errW_some] <;> rfl) | (simp [*, errW_none, errW_some] <;> rfl), bZ HB⟩
/-! ### impl_keyTexts: function 39 -/
def impl_keyTexts.l0 : Nat → List ByteArray → List (S48) → Int → Int → Option (List ByteArray)
 | 0, _, _, _, _ => none
 | k + 1, x3, x7, x8, x9 => if x9 < x8 then (if 0 ≤ x9 then (if x9 < (x7.length : Int) then ((impl_PointText.f ((rd_T48 x7 x9).f0) ((rd_T48 x7 x9).f1) ((rd_T48 x7 x9).f2)).bind fun t473 => (if x3.length < 8796093022208 then (impl_keyTexts.l0 k (x3 ++ [t473]) x7 x8 (wrap64 (x9 + 1))) else (none))) else (none)) else (none)) else (some x3)
def impl_keyTexts.f (k : Nat) (l0_0 : List (S48)) : Option (List ByteArray) := impl_keyTexts.l0 k ([] : List ByteArray) l0_0 (l0_0.length : Int) 0
theorem impl_keyTexts.mono_l : ∀ k, (∀ y0 y1 y2 y3, LeO (impl_keyTexts.l0 k y0 y1 y2 y3) (impl_keyTexts.l0 (k + 1) y0 y1 y2 y3))
 | 0 => fun _ _ _ _ r h => by simp [impl_keyTexts.l0] at h
 | k + 1 => by
  have ih0 := impl_keyTexts.mono_l k
  ·intro y0 y1 y2 y3
   unfold impl_keyTexts.l0
   repeat' first
   | (with_reducible exact ih0 _ _ _ _)
   | (with_reducible exact LeO.refl _)
   | (with_reducible exact LeO.none _)
   | (with_reducible refine LeO.ite ?_ ?_)
   | (with_reducible refine LeO.bind ?_ (fun _ => ?_))
   | exact ih0 _ _ _ _
   | exact LeO.none _
   | refine LeO.ite ?_ ?_
   | refine LeO.bind ?_ (fun _ => ?_)
theorem impl_keyTexts.mono : ∀ a0 k, LeO (impl_keyTexts.f k a0) (impl_keyTexts.f (k + 1) a0) := by
 intro a0 k
 have ih0 := impl_keyTexts.mono_l k
 unfold impl_keyTexts.f
 repeat' first
   | (with_reducible exact ih0 _ _ _ _)
   | (with_reducible exact LeO.refl _)
   | (with_reducible exact LeO.none _)
   | (with_reducible refine LeO.ite ?_ ?_)
   | (with_reducible refine LeO.bind ?_ (fun _ => ?_))
   | exact ih0 _ _ _ _
   | exact LeO.none _
   | refine LeO.ite ?_ ?_
   | refine LeO.bind ?_ (fun _ => ?_)
set_option maxHeartbeats 8000000 in
set_option maxRecDepth 100000 in
theorem impl_keyTexts.calls (k : Nat) (A0_0 : Option Addr) (c0_0 : Nat) (l0_0 : List (S48)) (r : List ByteArray) (w : World) (hr0_0 : Kd.C k48 w A0_0 l0_0.length l0_0) (hc0_0 : l0_0.length ≤ c0_0) (h : impl_keyTexts.f k l0_0 = some r) :
  Calls Try.prog 39 #[.agg #[.slice A0_0 l0_0.length c0_0]] w fun e w' => ∃ v0_ : Value, e = .returned (v0_) ∧ Kd.R Kd.string 9 w' w.heap.size (fun _ => True) v0_ r ∧ Below w.heap.size w w' := by
 have hu29 := Try.underlying29
 have hu48 := Try.underlying48
 have HR0_0 := Aside0.mk hr0_0
 have HC0_0 := Aside0.mk hc0_0
 clear hr0_0 hc0_0
 have HB := Aside0.mk (Below.refl w.heap.size w)
 have H : (impl_keyTexts.l0 k ([] : List ByteArray) l0_0 (l0_0.length : Int) 0) = some r := h
 clear h
 have H' := Aside0.mk H
 clear H
 go_enter Try.func39, Try.ntmps39
 go_wp2_with (first | ((with_reducible refine gate_dst (N := 1) rfl ?_); refine box_event ?hg (N := 1) ?hd (cs := #[.slice A0_0 l0_0.length c0_0]) (t := 29) ?hr ?_; (case hd => rfl); (case hg => rfl); (case hr => first | (go_simp; done) | (go_simp; rfl)); intro gb470 hg w2 hbox hb; have BK470 := Aside0.mk (hbox); have GW470 := bG HB hg; have GE470 := bG HB hg; replace HB := bS HB hb; clear hb hbox hg; have hcz3_0 : w2.cell? ⟨gb470, 0, none⟩ = some (.slice A0_0 l0_0.length c0_0) := bc BK470 0; have hfz3_0 := blk_frozen BK470.out 0))
 go_loopg [3, 9] k (fun kq v3 v9 w' => ∃ (x3_1 : List ByteArray) (x9_1 : Int), v9 = .int .i64 x9_1 ∧ Aside0 (impl_keyTexts.l0 kq x3_1 l0_0 (l0_0.length : Int) x9_1 = some r) ∧ Aside0 (kq ≤ k) ∧ Aside0 (Kd.R Kd.string 9 w' w.heap.size (fun _ => True) v3 x3_1) ∧ Aside0 (w'.heap[gb470]? = some (.cells #[(.slice A0_0 l0_0.length c0_0)] 29 (0, 0))) ∧ Aside0 (Below w.heap.size w w'))
 case atStart => exact ⟨(([] : List ByteArray)), (0), (by first | rfl | (simp; done) | (simp [*]; done)), H', ⟨Nat.le_refl _⟩, ⟨by first | exact Kd.R_nil _ _ _ _ _ | exact Kd.N_nil _ _ _ _ _ | exact Kd.V_nil _ _ _ _ _ | exact Kd.Q_nil _ _ _ _ _ | exact Kd.S_nil _ _ _ _ _⟩, ⟨bP BK470⟩, ⟨bZ HB⟩⟩
 case round =>
  clear H'
  try clear p2
  try clear c3
  try clear hcz3_0
  try clear hfz3_0
  obtain ⟨x3_1, x9_1, rfl, HA, HK1, HO_3, BK470, HB⟩ := hrel
  cases gk with
  | zero => exact absurd HA.out (by simp [impl_keyTexts.l0])
  | succ k1 =>
   have H := HA.out
   clear HA
   simp only [impl_keyTexts.l0] at H
   by_cases c4 : x9_1 < (l0_0.length : Int)
   ·rw [if_pos c4] at H
    have c4b0 : decide (x9_1 < (l0_0.length : Int)) = true := decide_eq_true c4
    clear c4
    by_cases c5 : 0 ≤ x9_1
    ·rw [if_pos c5] at H
     have c5b0 : decide (0 ≤ x9_1) = true := decide_eq_true c5
     clear c5
     by_cases c6 : x9_1 < (l0_0.length : Int)
     ·rw [if_pos c6] at H
      have c6b0 : decide (x9_1 < (l0_0.length : Int)) = true := decide_eq_true c6
      clear c6
      replace H := Option.bind_eq_some_iff.mp H
      obtain ⟨t473, A70, H⟩ := H
      replace H : (if x3_1.length < 8796093022208 then (impl_keyTexts.l0 k1 (x3_1 ++ [t473]) l0_0 (l0_0.length : Int) (wrap64 (x9_1 + 1))) else (none)) = some r := H
      have A7 := Aside0.mk A70
      clear A70
      by_cases c8 : x3_1.length < 8796093022208
      ·rw [if_pos c8] at H
       have LMc8 := Aside0.mk c8
       clear c8
       obtain ⟨y474, hy474⟩ : ∃ y_ : List ByteArray, y_ = (x3_1 ++ [t473]) := ⟨_, rfl⟩
       replace H : (impl_keyTexts.l0 k1 y474 l0_0 (l0_0.length : Int) (wrap64 (x9_1 + 1))) = some r := by first | (rw [hy474]; with_reducible exact H) | (have H2_ := (Option.bind_some _ _).symm.trans H; rw [hy474]; with_reducible exact H2_) | (have H2_ := (Option.bind_some _ _).symm.trans H; with_reducible exact H2_) | with_reducible exact H | (rw [hy474]; exact H) | exact H
       have Ny474 := Aside0.mk hy474
       clear hy474
       have H' := Aside0.mk H
       clear H
       have p471 : 0 ≤ (x9_1 : Int) := of_decide_eq_true (by first | (with_reducible assumption) | assumption)
       have q471 : x9_1 < (l0_0.length : Int) := of_decide_eq_true (by first | (with_reducible assumption) | assumption)
       obtain ⟨ad471, e471, hx471_0, hx471_1, hx471_2⟩ := at_T48 HR0_0.out x9_1 p471 q471
       cases e471
       replace hx471_0 := (HB.out.cell (World.block_lt_of_cell? w _ hx471_0)).trans hx471_0
       replace hx471_1 := (HB.out.cell (World.block_lt_of_cell? w _ hx471_1)).trans hx471_1
       replace hx471_2 := (HB.out.cell (World.block_lt_of_cell? w _ hx471_2)).trans hx471_2
       replace p471 := eq_true p471
       replace q471 := eq_true q471
       go_wp2_with (first | ((with_reducible refine gate_dst (N := 5) rfl ?_); refine box_event ?hg (N := 5) ?hd (cs := #[.int .i64 0, .int .i64 0, .bool false]) (t := 48) ?hr ?_; (case hd => rfl); (case hg => rfl); (case hr => first | (go_simp; done) | (go_simp; rfl)); intro gb472 hg w9 hbox hb; replace HO_3 := Aside0.mk (Kd.R_below (by (with_reducible repeat (first | apply Kd.R_alloc | apply Kd.R_drewN | apply Kd.R_drew)); exact HO_3.out) hb); have BK472 := Aside0.mk (hbox); have GW472 := bG HB hg; have GE472 := bG HB hg; replace HB := bS HB hb; have NB470_472 := bL BK470 hg; have NB472_470 := bR BK470 hg; replace BK470 := bB BK470 hb; clear hb hbox hg; have hnb10 := NB472_470.out; have hnc10 := NB470_472.out; have hcz11_0 : w9.cell? ⟨gb472, 0, none⟩ = some (.int .i64 0) := bc BK472 0; have hcz11_1 : w9.cell? ⟨gb472, 1, none⟩ = some (.int .i64 0) := bc BK472 1; have hcz11_2 : w9.cell? ⟨gb472, 2, none⟩ = some (.bool false) := bc BK472 2; have hfz11_0 := blk_frozen BK472.out 0; have hfz11_1 := blk_frozen BK472.out 1; have hfz11_2 := blk_frozen BK472.out 2) | ((with_reducible refine gate_callee (f := 40) rfl ?_); refine goesL_ (some 15) rfl rfl Try.func40 (by kernel_rfl) rfl #[.agg #[.int .i64 ((rd_T48 l0_0 x9_1).f0), .int .i64 ((rd_T48 l0_0 x9_1).f1), .bool ((rd_T48 l0_0 x9_1).f2)]] rfl (by (try simp only [List.map_toArray, List.map_cons, List.map_nil]); first | done | rfl | (simp only [List.length_drop, List.length_take]; rfl)) ?_; (with_reducible refine (impl_PointText.calls ((rd_T48 l0_0 x9_1).f0) ((rd_T48 l0_0 x9_1).f1) ((rd_T48 l0_0 x9_1).f2) t473 _ A7.out).mono ?_); rintro e w12 ⟨rfl, hb⟩; refine ⟨_, rfl, ?_⟩; replace HO_3 := Aside0.mk (Kd.R_below (by (with_reducible repeat (first | apply Kd.R_alloc | apply Kd.R_drewN | apply Kd.R_drew)); exact (Kd.R_mono (Kd.R_far (p := ⟨gb472, 2, none⟩) (Kd.R_far (p := ⟨gb472, 1, none⟩) (Kd.R_far (p := ⟨gb472, 0, none⟩) (Kd.R_types HO_3.out BK472.out (by decide)) (fun _ hk => hk.2) (.int .i64 ((rd_T48 l0_0 x9_1).f0))) (fun _ hk => hk.2) (.int .i64 ((rd_T48 l0_0 x9_1).f1))) (fun _ hk => hk.2) (.bool ((rd_T48 l0_0 x9_1).f2))) (fun _ h_ => h_.1))) hb); replace BK470 := bB BK470 hb; replace BK472 := Aside0.mk (blk_below (g := gb472) (o := .cells #[.int .i64 ((rd_T48 l0_0 x9_1).f0), .int .i64 ((rd_T48 l0_0 x9_1).f1), .bool ((rd_T48 l0_0 x9_1).f2)] 48 (0, 0)) (by (with_reducible repeat (first | refine blk_drewN ?_ _ | refine blk_drew ?_ | refine blk_alloc ?_ _)); refine blk_put (cs := #[.int .i64 ((rd_T48 l0_0 x9_1).f0), .int .i64 ((rd_T48 l0_0 x9_1).f1), .bool false]) ?_ 2 _ rfl; (with_reducible repeat (first | refine blk_drewN ?_ _ | refine blk_drew ?_ | refine blk_alloc ?_ _)); refine blk_put (cs := #[.int .i64 ((rd_T48 l0_0 x9_1).f0), .int .i64 0, .bool false]) ?_ 1 _ rfl; (with_reducible repeat (first | refine blk_drewN ?_ _ | refine blk_drew ?_ | refine blk_alloc ?_ _)); refine blk_put (cs := #[.int .i64 0, .int .i64 0, .bool false]) ?_ 0 _ rfl; (with_reducible repeat (first | refine blk_drewN ?_ _ | refine blk_drew ?_ | refine blk_alloc ?_ _)); exact BK472.out) hb); replace HB := bS HB hb; (try clear hb); (try clear hb2); (try clear hk); (try clear hi)) | ((with_reducible refine gate_builtin (b := .append) (xs := #[.tmp 13, .tmp 16]) rfl ?_); at_builtin; refine Kd.R_append Kd.string (w0 := w) w.heap.size rfl (.tmp 13) (.tmp 16) 58 9 (.string ⟨#[]⟩) 16 rfl Try.underlying58 info9 rfl (by decide) (by omega) u3 x3_1 t473 [.string t473] (fun _ => True) (fun _ => False) rfl rfl ?aP (fun _ hk => hk.elim) ?aF ?aO ?aB ?aS ?aL ?_; (case aP => exact rfl); (case aB => exact (bZ HB)); (case aF => exact (fun _ _ => trivial)); (case aO => exact (by (with_reducible repeat (first | apply Kd.R_alloc | apply Kd.R_drewN | apply Kd.R_drew)); exact HO_3.out)); (case aS => exact (below_size (bZ HB))); (case aL => have := LMc8.out; omega); intro v475 w13 ho hb hg hat; rw [← Ny474.out] at ho; replace BK470 := Aside0.mk (blk_grown (bP BK470) hg (Kd.R_ne HO_3.out BK470.out (by decide))); replace BK472 := Aside0.mk (blk_grown (bP BK472) hg (Kd.R_ne HO_3.out BK472.out (by decide))); replace HB := Aside0.mk (hb); have HO476 := Aside0.mk (ho); clear HO_3; clear ho hb hg hat))
       go_roundg k1
       case measure => have := HK1.out; omega
       case rel => exact ⟨(y474), (wrap64 (x9_1 + 1)), (by first | rfl | (simp; done) | (simp [*]; done)), H', ⟨by have := HK1.out; omega⟩, ⟨by (with_reducible repeat (first | apply Kd.R_alloc | apply Kd.R_drewN | apply Kd.R_drew)); exact HO476.out⟩, ⟨bP BK470⟩, ⟨bZ HB⟩⟩
      ·rw [if_neg c8] at H
       exact absurd H (by simp)
     ·rw [if_neg c6] at H
      exact absurd H (by simp)
    ·rw [if_neg c5] at H
     exact absurd H (by simp)
   ·rw [if_neg c4] at H
    have c4b0 : decide (x9_1 < (l0_0.length : Int)) = false := decide_eq_false c4
    clear c4
    obtain rfl := Option.some.inj H
    go_wp2
    go_ret
    exact ⟨_, by first | rfl | (simp [errW_none, errW_some] <;> rfl) | (simp [*, errW_none, errW_some] <;> rfl), by (with_reducible repeat (first | apply Kd.R_alloc | apply Kd.R_drewN | apply Kd.R_drew)); exact HO_3.out, bZ HB⟩
/-! ### impl_PointAdd: function 56 -/
def impl_PointAdd.f (k : Nat) (a0_0 : Int) (a0_1 : Int) (a0_2 : Bool) (a1_0 : Int) (a1_1 : Int) (a1_2 : Bool) : Option (Int × Int × Bool) := (impl_PointOk.f a0_0 a0_1 a0_2).bind fun t480 => (if t480 = true then ((impl_PointOk.f a1_0 a1_1 a1_2).bind fun t481 => (if t481 = true then ((impl_add.f k a0_0 a0_1 a0_2 a1_0 a1_1 a1_2).bind fun bt482 => (some (bt482.1, bt482.2.1, bt482.2.2))) else (some (0, 0, true)))) else (some (0, 0, true)))
theorem impl_PointAdd.mono : ∀ a0 a1 a2 a3 a4 a5 k, LeO (impl_PointAdd.f k a0 a1 a2 a3 a4 a5) (impl_PointAdd.f (k + 1) a0 a1 a2 a3 a4 a5) := by
 intro a0 a1 a2 a3 a4 a5 k
 unfold impl_PointAdd.f
 repeat' first
   | (with_reducible exact impl_add.mono _ _ _ _ _ _ _)
   | (with_reducible exact LeO.refl _)
   | (with_reducible exact LeO.none _)
   | (with_reducible refine LeO.ite ?_ ?_)
   | (with_reducible refine LeO.bind ?_ (fun _ => ?_))
   | exact impl_add.mono _ _ _ _ _ _ _
   | exact LeO.none _
   | refine LeO.ite ?_ ?_
   | refine LeO.bind ?_ (fun _ => ?_)
set_option maxHeartbeats 8000000 in
set_option maxRecDepth 100000 in
theorem impl_PointAdd.calls (k : Nat) (a0_0 : Int) (a0_1 : Int) (a0_2 : Bool) (a1_0 : Int) (a1_1 : Int) (a1_2 : Bool) (r1 : Int) (r2 : Int) (r3 : Bool) (w : World) (h : impl_PointAdd.f k a0_0 a0_1 a0_2 a1_0 a1_1 a1_2 = some (r1, r2, r3)) :
  Calls Try.prog 56 #[.agg #[.int .i64 a0_0, .int .i64 a0_1, .bool a0_2], .agg #[.int .i64 a1_0, .int .i64 a1_1, .bool a1_2]] w fun e w' => e = .returned (.agg #[.int .i64 r1, .int .i64 r2, .bool r3]) ∧ Below w.heap.size w w' := by
 have hu48 := Try.underlying48
 have HB := Aside0.mk (Below.refl w.heap.size w)
 have H : ((impl_PointOk.f a0_0 a0_1 a0_2).bind fun t480 => (if t480 = true then ((impl_PointOk.f a1_0 a1_1 a1_2).bind fun t481 => (if t481 = true then ((impl_add.f k a0_0 a0_1 a0_2 a1_0 a1_1 a1_2).bind fun bt482 => (some (bt482.1, bt482.2.1, bt482.2.2))) else (some (0, 0, true)))) else (some (0, 0, true)))) = some (r1, r2, r3) := h
 clear h
 replace H := Option.bind_eq_some_iff.mp H
 obtain ⟨t480, A30, H⟩ := H
 replace H : (if t480 = true then ((impl_PointOk.f a1_0 a1_1 a1_2).bind fun t481 => (if t481 = true then ((impl_add.f k a0_0 a0_1 a0_2 a1_0 a1_1 a1_2).bind fun bt482 => (some (bt482.1, bt482.2.1, bt482.2.2))) else (some (0, 0, true)))) else (some (0, 0, true))) = some (r1, r2, r3) := H
 have A3 := Aside0.mk A30
 clear A30
 by_cases c4 : t480 = true
 ·subst c4
  have H1 : ((impl_PointOk.f a1_0 a1_1 a1_2).bind fun t481 => (if t481 = true then ((impl_add.f k a0_0 a0_1 a0_2 a1_0 a1_1 a1_2).bind fun bt482 => (some (bt482.1, bt482.2.1, bt482.2.2))) else (some (0, 0, true)))) = some (r1, r2, r3) := by rw [if_pos rfl] at H; exact H
  clear H
  have H := H1
  clear H1
  replace H := Option.bind_eq_some_iff.mp H
  obtain ⟨t481, A50, H⟩ := H
  replace H : (if t481 = true then ((impl_add.f k a0_0 a0_1 a0_2 a1_0 a1_1 a1_2).bind fun bt482 => (some (bt482.1, bt482.2.1, bt482.2.2))) else (some (0, 0, true))) = some (r1, r2, r3) := H
  have A5 := Aside0.mk A50
  clear A50
  by_cases c6 : t481 = true
  ·subst c6
   have H1 : ((impl_add.f k a0_0 a0_1 a0_2 a1_0 a1_1 a1_2).bind fun bt482 => (some (bt482.1, bt482.2.1, bt482.2.2))) = some (r1, r2, r3) := by rw [if_pos rfl] at H; exact H
   clear H
   have H := H1
   clear H1
   replace H := Option.bind_eq_some_iff.mp H
   obtain ⟨⟨t482, t483, t484⟩, A70, H⟩ := H
   replace H : (some (t482, t483, t484)) = some (r1, r2, r3) := H
   have A7 := Aside0.mk A70
   clear A70
   simp only [Option.some.injEq, Prod.mk.injEq] at H
   obtain ⟨rfl, rfl, rfl⟩ := H
   go_enter Try.func56, Try.ntmps56
   go_wp2_with (first | ((with_reducible refine gate_dst (N := 2) rfl ?_); refine box_event ?hg (N := 2) ?hd (cs := #[.int .i64 a0_0, .int .i64 a0_1, .bool a0_2]) (t := 48) ?hr ?_; (case hd => rfl); (case hg => rfl); (case hr => first | (go_simp; done) | (go_simp; rfl)); intro gb477 hg w8 hbox hb; have BK477 := Aside0.mk (hbox); have GW477 := bG HB hg; have GE477 := bG HB hg; replace HB := bS HB hb; clear hb hbox hg) | ((with_reducible refine gate_dst (N := 3) rfl ?_); refine box_event ?hg (N := 3) ?hd (cs := #[.int .i64 a1_0, .int .i64 a1_1, .bool a1_2]) (t := 48) ?hr ?_; (case hd => rfl); (case hg => rfl); (case hr => first | (go_simp; done) | (go_simp; rfl)); intro gb478 hg w9 hbox hb; have BK478 := Aside0.mk (hbox); have GW478 := bG HB hg; have GE478 := bG HB hg; replace HB := bS HB hb; have NB477_478 := bL BK477 hg; have NB478_477 := bR BK477 hg; replace BK477 := bB BK477 hb; clear hb hbox hg) | ((with_reducible refine gate_dst (N := 4) rfl ?_); refine box_event ?hg (N := 4) ?hd (cs := #[.int .i64 0, .int .i64 0, .bool false]) (t := 48) ?hr ?_; (case hd => rfl); (case hg => rfl); (case hr => first | (go_simp; done) | (go_simp; rfl)); intro gb479 hg w10 hbox hb; have BK479 := Aside0.mk (hbox); have GW479 := bG HB hg; have GE479 := bG HB hg; replace HB := bS HB hb; have NB477_479 := bL BK477 hg; have NB479_477 := bR BK477 hg; replace BK477 := bB BK477 hb; have NB478_479 := bL BK478 hg; have NB479_478 := bR BK478 hg; replace BK478 := bB BK478 hb; clear hb hbox hg; have hnb11 := NB477_478.out; have hnc11 := NB478_477.out; have hnb12 := NB477_479.out; have hnc12 := NB479_477.out; have hcz13_0 : w10.cell? ⟨gb477, 0, none⟩ = some (.int .i64 a0_0) := bc BK477 0; have hcz13_1 : w10.cell? ⟨gb477, 1, none⟩ = some (.int .i64 a0_1) := bc BK477 1; have hcz13_2 : w10.cell? ⟨gb477, 2, none⟩ = some (.bool a0_2) := bc BK477 2; have hfz13_0 := blk_frozen BK477.out 0; have hfz13_1 := blk_frozen BK477.out 1; have hfz13_2 := blk_frozen BK477.out 2) | ((with_reducible refine gate_callee (f := 47) rfl ?_); refine goesL_ (some 6) rfl rfl Try.func47 (by kernel_rfl) rfl #[.agg #[.int .i64 a0_0, .int .i64 a0_1, .bool a0_2]] rfl (by (try simp only [List.map_toArray, List.map_cons, List.map_nil]); first | done | rfl | (simp only [List.length_drop, List.length_take]; rfl)) ?_; (with_reducible refine (impl_PointOk.calls a0_0 a0_1 a0_2 true _ A3.out).mono ?_); rintro e w14 ⟨rfl, hb⟩; refine ⟨_, rfl, ?_⟩; replace BK477 := bB BK477 hb; replace BK478 := bB BK478 hb; replace BK479 := bB BK479 hb; replace HB := bS HB hb; (try clear hb); (try clear hb2); (try clear hk); (try clear hi); have hnb15 := NB478_479.out; have hnc15 := NB479_478.out; have hcz16_0 : w14.cell? ⟨gb478, 0, none⟩ = some (.int .i64 a1_0) := bc BK478 0; have hcz16_1 : w14.cell? ⟨gb478, 1, none⟩ = some (.int .i64 a1_1) := bc BK478 1; have hcz16_2 : w14.cell? ⟨gb478, 2, none⟩ = some (.bool a1_2) := bc BK478 2; have hfz16_0 := blk_frozen BK478.out 0; have hfz16_1 := blk_frozen BK478.out 1; have hfz16_2 := blk_frozen BK478.out 2) | (go_at_call 47; (with_reducible refine (impl_PointOk.calls a1_0 a1_1 a1_2 true _ A5.out).mono ?_); rintro e w17 ⟨rfl, hb⟩; replace BK477 := bB BK477 hb; replace BK478 := bB BK478 hb; replace BK479 := bB BK479 hb; replace HB := bS HB hb; (try clear hb); (try clear hb2); (try clear hk); (try clear hi); have hcz18_0 : w17.cell? ⟨gb477, 0, none⟩ = some (.int .i64 a0_0) := bc BK477 0; have hcz18_1 : w17.cell? ⟨gb477, 1, none⟩ = some (.int .i64 a0_1) := bc BK477 1; have hcz18_2 : w17.cell? ⟨gb477, 2, none⟩ = some (.bool a0_2) := bc BK477 2; have hfz18_0 := blk_frozen BK477.out 0; have hfz18_1 := blk_frozen BK477.out 1; have hfz18_2 := blk_frozen BK477.out 2; have hcz19_0 : w17.cell? ⟨gb478, 0, none⟩ = some (.int .i64 a1_0) := bc BK478 0; have hcz19_1 : w17.cell? ⟨gb478, 1, none⟩ = some (.int .i64 a1_1) := bc BK478 1; have hcz19_2 : w17.cell? ⟨gb478, 2, none⟩ = some (.bool a1_2) := bc BK478 2; have hfz19_0 := blk_frozen BK478.out 0; have hfz19_1 := blk_frozen BK478.out 1; have hfz19_2 := blk_frozen BK478.out 2) | ((with_reducible refine gate_callee (f := 69) rfl ?_); refine goesL_ (some 16) rfl rfl Try.func69 (by kernel_rfl) rfl #[.agg #[.int .i64 a0_0, .int .i64 a0_1, .bool a0_2], .agg #[.int .i64 a1_0, .int .i64 a1_1, .bool a1_2]] rfl (by (try simp only [List.map_toArray, List.map_cons, List.map_nil]); first | done | rfl | (simp only [List.length_drop, List.length_take]; rfl)) ?_; (with_reducible refine (impl_add.calls k a0_0 a0_1 a0_2 a1_0 a1_1 a1_2 t482 t483 t484 _ A7.out).mono ?_); rintro e w20 ⟨rfl, hb⟩; refine ⟨_, rfl, ?_⟩; replace BK477 := bB BK477 hb; replace BK478 := bB BK478 hb; replace BK479 := bB BK479 hb; replace HB := bS HB hb; (try clear hb); (try clear hb2); (try clear hk); (try clear hi); have hcz21_0 : w20.cell? ⟨gb479, 0, none⟩ = some (.int .i64 0) := bc BK479 0; have hcz21_1 : w20.cell? ⟨gb479, 1, none⟩ = some (.int .i64 0) := bc BK479 1; have hcz21_2 : w20.cell? ⟨gb479, 2, none⟩ = some (.bool false) := bc BK479 2; have hfz21_0 := blk_frozen BK479.out 0; have hfz21_1 := blk_frozen BK479.out 1; have hfz21_2 := blk_frozen BK479.out 2))
   refine bodyPost_ret (results_cell_row rfl _ _ gb479 48 #[.int .i64 t482, .int .i64 t483, .bool t484] (0, 0) _ rfl (by (with_reducible repeat (first | refine blk_drewN ?_ _ | refine blk_drew ?_ | refine blk_alloc ?_ _)); refine blk_put (cs := #[.int .i64 t482, .int .i64 t483, .bool false]) ?_ 2 _ rfl; (with_reducible repeat (first | refine blk_drewN ?_ _ | refine blk_drew ?_ | refine blk_alloc ?_ _)); refine blk_put (cs := #[.int .i64 t482, .int .i64 0, .bool false]) ?_ 1 _ rfl; (with_reducible repeat (first | refine blk_drewN ?_ _ | refine blk_drew ?_ | refine blk_alloc ?_ _)); refine blk_put (cs := #[.int .i64 0, .int .i64 0, .bool false]) ?_ 0 _ rfl; (with_reducible repeat (first | refine blk_drewN ?_ _ | refine blk_drew ?_ | refine blk_alloc ?_ _)); exact BK479.out) Try.underlying48 rfl (by kernel_rfl)) rfl ?_
   exact ⟨by first | rfl | (simp [errW_none, errW_some] <;> rfl) | (simp [*, errW_none, errW_some] <;> rfl), bZ HB⟩
  ·replace c6 := Bool.eq_false_iff.mpr c6
   subst c6
   have H1 : (some (0, 0, true)) = some (r1, r2, r3) := by rw [if_neg (show ¬ (false = true) by decide)] at H; exact H
   clear H
   have H := H1
   clear H1
   simp only [Option.some.injEq, Prod.mk.injEq] at H
   obtain ⟨rfl, rfl, rfl⟩ := H
   go_enter Try.func56, Try.ntmps56
   go_wp2_with (first | ((with_reducible refine gate_dst (N := 2) rfl ?_); refine box_event ?hg (N := 2) ?hd (cs := #[.int .i64 a0_0, .int .i64 a0_1, .bool a0_2]) (t := 48) ?hr ?_; (case hd => rfl); (case hg => rfl); (case hr => first | (go_simp; done) | (go_simp; rfl)); intro gb477 hg w22 hbox hb; have BK477 := Aside0.mk (hbox); have GW477 := bG HB hg; have GE477 := bG HB hg; replace HB := bS HB hb; clear hb hbox hg) | ((with_reducible refine gate_dst (N := 3) rfl ?_); refine box_event ?hg (N := 3) ?hd (cs := #[.int .i64 a1_0, .int .i64 a1_1, .bool a1_2]) (t := 48) ?hr ?_; (case hd => rfl); (case hg => rfl); (case hr => first | (go_simp; done) | (go_simp; rfl)); intro gb478 hg w23 hbox hb; have BK478 := Aside0.mk (hbox); have GW478 := bG HB hg; have GE478 := bG HB hg; replace HB := bS HB hb; have NB477_478 := bL BK477 hg; have NB478_477 := bR BK477 hg; replace BK477 := bB BK477 hb; clear hb hbox hg) | ((with_reducible refine gate_dst (N := 4) rfl ?_); refine box_event ?hg (N := 4) ?hd (cs := #[.int .i64 0, .int .i64 0, .bool false]) (t := 48) ?hr ?_; (case hd => rfl); (case hg => rfl); (case hr => first | (go_simp; done) | (go_simp; rfl)); intro gb479 hg w24 hbox hb; have BK479 := Aside0.mk (hbox); have GW479 := bG HB hg; have GE479 := bG HB hg; replace HB := bS HB hb; have NB477_479 := bL BK477 hg; have NB479_477 := bR BK477 hg; replace BK477 := bB BK477 hb; have NB478_479 := bL BK478 hg; have NB479_478 := bR BK478 hg; replace BK478 := bB BK478 hb; clear hb hbox hg; have hnb25 := NB477_478.out; have hnc25 := NB478_477.out; have hnb26 := NB477_479.out; have hnc26 := NB479_477.out; have hcz27_0 : w24.cell? ⟨gb477, 0, none⟩ = some (.int .i64 a0_0) := bc BK477 0; have hcz27_1 : w24.cell? ⟨gb477, 1, none⟩ = some (.int .i64 a0_1) := bc BK477 1; have hcz27_2 : w24.cell? ⟨gb477, 2, none⟩ = some (.bool a0_2) := bc BK477 2; have hfz27_0 := blk_frozen BK477.out 0; have hfz27_1 := blk_frozen BK477.out 1; have hfz27_2 := blk_frozen BK477.out 2) | ((with_reducible refine gate_callee (f := 47) rfl ?_); refine goesL_ (some 6) rfl rfl Try.func47 (by kernel_rfl) rfl #[.agg #[.int .i64 a0_0, .int .i64 a0_1, .bool a0_2]] rfl (by (try simp only [List.map_toArray, List.map_cons, List.map_nil]); first | done | rfl | (simp only [List.length_drop, List.length_take]; rfl)) ?_; (with_reducible refine (impl_PointOk.calls a0_0 a0_1 a0_2 true _ A3.out).mono ?_); rintro e w28 ⟨rfl, hb⟩; refine ⟨_, rfl, ?_⟩; replace BK477 := bB BK477 hb; replace BK478 := bB BK478 hb; replace BK479 := bB BK479 hb; replace HB := bS HB hb; (try clear hb); (try clear hb2); (try clear hk); (try clear hi); have hnb29 := NB478_479.out; have hnc29 := NB479_478.out; have hcz30_0 : w28.cell? ⟨gb478, 0, none⟩ = some (.int .i64 a1_0) := bc BK478 0; have hcz30_1 : w28.cell? ⟨gb478, 1, none⟩ = some (.int .i64 a1_1) := bc BK478 1; have hcz30_2 : w28.cell? ⟨gb478, 2, none⟩ = some (.bool a1_2) := bc BK478 2; have hfz30_0 := blk_frozen BK478.out 0; have hfz30_1 := blk_frozen BK478.out 1; have hfz30_2 := blk_frozen BK478.out 2) | (go_at_call 47; (with_reducible refine (impl_PointOk.calls a1_0 a1_1 a1_2 false _ A5.out).mono ?_); rintro e w31 ⟨rfl, hb⟩; replace BK477 := bB BK477 hb; replace BK478 := bB BK478 hb; replace BK479 := bB BK479 hb; replace HB := bS HB hb; (try clear hb); (try clear hb2); (try clear hk); (try clear hi); have hcz32_0 : w31.cell? ⟨gb479, 0, none⟩ = some (.int .i64 0) := bc BK479 0; have hcz32_1 : w31.cell? ⟨gb479, 1, none⟩ = some (.int .i64 0) := bc BK479 1; have hcz32_2 : w31.cell? ⟨gb479, 2, none⟩ = some (.bool false) := bc BK479 2; have hfz32_0 := blk_frozen BK479.out 0; have hfz32_1 := blk_frozen BK479.out 1; have hfz32_2 := blk_frozen BK479.out 2))
   refine bodyPost_ret (results_cell_row rfl _ _ gb479 48 #[.int .i64 0, .int .i64 0, .bool true] (0, 0) _ rfl (by (with_reducible repeat (first | refine blk_drewN ?_ _ | refine blk_drew ?_ | refine blk_alloc ?_ _)); refine blk_put (cs := #[.int .i64 0, .int .i64 0, .bool false]) ?_ 2 _ rfl; (with_reducible repeat (first | refine blk_drewN ?_ _ | refine blk_drew ?_ | refine blk_alloc ?_ _)); refine blk_put (cs := #[.int .i64 0, .int .i64 0, .bool false]) ?_ 1 _ rfl; (with_reducible repeat (first | refine blk_drewN ?_ _ | refine blk_drew ?_ | refine blk_alloc ?_ _)); refine blk_put (cs := #[.int .i64 0, .int .i64 0, .bool false]) ?_ 0 _ rfl; (with_reducible repeat (first | refine blk_drewN ?_ _ | refine blk_drew ?_ | refine blk_alloc ?_ _)); exact BK479.out) Try.underlying48 rfl (by kernel_rfl)) rfl ?_
   exact ⟨by first | rfl | (simp [errW_none, errW_some] <;> rfl) | (simp [*, errW_none, errW_some] <;> rfl), bZ HB⟩
 ·replace c4 := Bool.eq_false_iff.mpr c4
  subst c4
  have H1 : (some (0, 0, true)) = some (r1, r2, r3) := by rw [if_neg (show ¬ (false = true) by decide)] at H; exact H
  clear H
  have H := H1
  clear H1
  simp only [Option.some.injEq, Prod.mk.injEq] at H
  obtain ⟨rfl, rfl, rfl⟩ := H
  go_enter Try.func56, Try.ntmps56
  go_wp2_with (first | ((with_reducible refine gate_dst (N := 2) rfl ?_); refine box_event ?hg (N := 2) ?hd (cs := #[.int .i64 a0_0, .int .i64 a0_1, .bool a0_2]) (t := 48) ?hr ?_; (case hd => rfl); (case hg => rfl); (case hr => first | (go_simp; done) | (go_simp; rfl)); intro gb477 hg w33 hbox hb; have BK477 := Aside0.mk (hbox); have GW477 := bG HB hg; have GE477 := bG HB hg; replace HB := bS HB hb; clear hb hbox hg) | ((with_reducible refine gate_dst (N := 3) rfl ?_); refine box_event ?hg (N := 3) ?hd (cs := #[.int .i64 a1_0, .int .i64 a1_1, .bool a1_2]) (t := 48) ?hr ?_; (case hd => rfl); (case hg => rfl); (case hr => first | (go_simp; done) | (go_simp; rfl)); intro gb478 hg w34 hbox hb; have BK478 := Aside0.mk (hbox); have GW478 := bG HB hg; have GE478 := bG HB hg; replace HB := bS HB hb; have NB477_478 := bL BK477 hg; have NB478_477 := bR BK477 hg; replace BK477 := bB BK477 hb; clear hb hbox hg) | ((with_reducible refine gate_dst (N := 4) rfl ?_); refine box_event ?hg (N := 4) ?hd (cs := #[.int .i64 0, .int .i64 0, .bool false]) (t := 48) ?hr ?_; (case hd => rfl); (case hg => rfl); (case hr => first | (go_simp; done) | (go_simp; rfl)); intro gb479 hg w35 hbox hb; have BK479 := Aside0.mk (hbox); have GW479 := bG HB hg; have GE479 := bG HB hg; replace HB := bS HB hb; have NB477_479 := bL BK477 hg; have NB479_477 := bR BK477 hg; replace BK477 := bB BK477 hb; have NB478_479 := bL BK478 hg; have NB479_478 := bR BK478 hg; replace BK478 := bB BK478 hb; clear hb hbox hg; have hnb36 := NB477_478.out; have hnc36 := NB478_477.out; have hnb37 := NB477_479.out; have hnc37 := NB479_477.out; have hcz38_0 : w35.cell? ⟨gb477, 0, none⟩ = some (.int .i64 a0_0) := bc BK477 0; have hcz38_1 : w35.cell? ⟨gb477, 1, none⟩ = some (.int .i64 a0_1) := bc BK477 1; have hcz38_2 : w35.cell? ⟨gb477, 2, none⟩ = some (.bool a0_2) := bc BK477 2; have hfz38_0 := blk_frozen BK477.out 0; have hfz38_1 := blk_frozen BK477.out 1; have hfz38_2 := blk_frozen BK477.out 2) | ((with_reducible refine gate_callee (f := 47) rfl ?_); refine goesL_ (some 6) rfl rfl Try.func47 (by kernel_rfl) rfl #[.agg #[.int .i64 a0_0, .int .i64 a0_1, .bool a0_2]] rfl (by (try simp only [List.map_toArray, List.map_cons, List.map_nil]); first | done | rfl | (simp only [List.length_drop, List.length_take]; rfl)) ?_; (with_reducible refine (impl_PointOk.calls a0_0 a0_1 a0_2 false _ A3.out).mono ?_); rintro e w39 ⟨rfl, hb⟩; refine ⟨_, rfl, ?_⟩; replace BK477 := bB BK477 hb; replace BK478 := bB BK478 hb; replace BK479 := bB BK479 hb; replace HB := bS HB hb; (try clear hb); (try clear hb2); (try clear hk); (try clear hi); have hnb40 := NB479_478.out; have hnc40 := NB478_479.out; have hcz41_0 : w39.cell? ⟨gb479, 0, none⟩ = some (.int .i64 0) := bc BK479 0; have hcz41_1 : w39.cell? ⟨gb479, 1, none⟩ = some (.int .i64 0) := bc BK479 1; have hcz41_2 : w39.cell? ⟨gb479, 2, none⟩ = some (.bool false) := bc BK479 2; have hfz41_0 := blk_frozen BK479.out 0; have hfz41_1 := blk_frozen BK479.out 1; have hfz41_2 := blk_frozen BK479.out 2))
  refine bodyPost_ret (results_cell_row rfl _ _ gb479 48 #[.int .i64 0, .int .i64 0, .bool true] (0, 0) _ rfl (by (with_reducible repeat (first | refine blk_drewN ?_ _ | refine blk_drew ?_ | refine blk_alloc ?_ _)); refine blk_put (cs := #[.int .i64 0, .int .i64 0, .bool false]) ?_ 2 _ rfl; (with_reducible repeat (first | refine blk_drewN ?_ _ | refine blk_drew ?_ | refine blk_alloc ?_ _)); refine blk_put (cs := #[.int .i64 0, .int .i64 0, .bool false]) ?_ 1 _ rfl; (with_reducible repeat (first | refine blk_drewN ?_ _ | refine blk_drew ?_ | refine blk_alloc ?_ _)); refine blk_put (cs := #[.int .i64 0, .int .i64 0, .bool false]) ?_ 0 _ rfl; (with_reducible repeat (first | refine blk_drewN ?_ _ | refine blk_drew ?_ | refine blk_alloc ?_ _)); exact BK479.out) Try.underlying48 rfl (by kernel_rfl)) rfl ?_
  exact ⟨by first | rfl | (simp [errW_none, errW_some] <;> rfl) | (simp [*, errW_none, errW_some] <;> rfl), bZ HB⟩
/-! ### impl_SumPoints: function 41 -/
def impl_SumPoints.l0 : Nat → List (S48) → Int → Int → Int → Int → Bool → Option (Int × Int × Bool)
 | 0, _, _, _, _, _, _ => none
 | k + 1, x7, x8, x9, x487000, x487001, x487002 => if x9 < x8 then (if 0 ≤ x9 then (if x9 < (x7.length : Int) then ((impl_PointAdd.f k x487000 x487001 x487002 ((rd_T48 x7 x9).f0) ((rd_T48 x7 x9).f1) ((rd_T48 x7 x9).f2)).bind fun bt489 => (impl_SumPoints.l0 k x7 x8 (wrap64 (x9 + 1)) bt489.1 bt489.2.1 bt489.2.2)) else (none)) else (none)) else (some (x487000, x487001, x487002))
def impl_SumPoints.f (k : Nat) (l0 : List (S48)) : Option (Int × Int × Bool) := impl_SumPoints.l0 k l0 (l0.length : Int) 0 0 0 true
theorem impl_SumPoints.mono_l : ∀ k, (∀ y0 y1 y2 y3 y4 y5, LeO (impl_SumPoints.l0 k y0 y1 y2 y3 y4 y5) (impl_SumPoints.l0 (k + 1) y0 y1 y2 y3 y4 y5))
 | 0 => fun _ _ _ _ _ _ r h => by simp [impl_SumPoints.l0] at h
 | k + 1 => by
  have ih0 := impl_SumPoints.mono_l k
  ·intro y0 y1 y2 y3 y4 y5
   unfold impl_SumPoints.l0
   repeat' first
   | (with_reducible exact ih0 _ _ _ _ _ _)
   | (with_reducible exact impl_PointAdd.mono _ _ _ _ _ _ _)
   | (with_reducible exact LeO.refl _)
   | (with_reducible exact LeO.none _)
   | (with_reducible refine LeO.ite ?_ ?_)
   | (with_reducible refine LeO.bind ?_ (fun _ => ?_))
   | exact ih0 _ _ _ _ _ _
   | exact impl_PointAdd.mono _ _ _ _ _ _ _
   | exact LeO.none _
   | refine LeO.ite ?_ ?_
   | refine LeO.bind ?_ (fun _ => ?_)
theorem impl_SumPoints.mono : ∀ a0 k, LeO (impl_SumPoints.f k a0) (impl_SumPoints.f (k + 1) a0) := by
 intro a0 k
 have ih0 := impl_SumPoints.mono_l k
 unfold impl_SumPoints.f
 repeat' first
   | (with_reducible exact ih0 _ _ _ _ _ _)
   | (with_reducible exact impl_PointAdd.mono _ _ _ _ _ _ _)
   | (with_reducible exact LeO.refl _)
   | (with_reducible exact LeO.none _)
   | (with_reducible refine LeO.ite ?_ ?_)
   | (with_reducible refine LeO.bind ?_ (fun _ => ?_))
   | exact ih0 _ _ _ _ _ _
   | exact impl_PointAdd.mono _ _ _ _ _ _ _
   | exact LeO.none _
   | refine LeO.ite ?_ ?_
   | refine LeO.bind ?_ (fun _ => ?_)
set_option maxHeartbeats 8000000 in
set_option maxRecDepth 100000 in
theorem impl_SumPoints.calls (k : Nat) (A0 : Option Addr) (c0 : Nat) (l0 : List (S48)) (r1 : Int) (r2 : Int) (r3 : Bool) (w : World) (hr0 : Kd.C k48 w A0 l0.length l0) (hc0 : l0.length ≤ c0) (h : impl_SumPoints.f k l0 = some (r1, r2, r3)) :
  Calls Try.prog 41 #[.slice A0 l0.length c0] w fun e w' => e = .returned (.agg #[.int .i64 r1, .int .i64 r2, .bool r3]) ∧ Below w.heap.size w w' := by
 have hu48 := Try.underlying48
 have HR0 := Aside0.mk hr0
 have HC0 := Aside0.mk hc0
 clear hr0 hc0
 have HB := Aside0.mk (Below.refl w.heap.size w)
 have H : (impl_SumPoints.l0 k l0 (l0.length : Int) 0 0 0 true) = some (r1, r2, r3) := h
 clear h
 have H' := Aside0.mk H
 clear H
 go_enter Try.func41, Try.ntmps41
 go_wp2_with (first | ((with_reducible refine gate_dst (N := 2) rfl ?_); refine box_event ?hg (N := 2) ?hd (cs := #[.int .i64 0, .int .i64 0, .bool false]) (t := 48) ?hr ?_; (case hd => rfl); (case hg => rfl); (case hr => first | (go_simp; done) | (go_simp; rfl)); intro gb485 hg w2 hbox hb; have BK485 := Aside0.mk (hbox); have GW485 := bG HB hg; have GE485 := bG HB hg; replace HB := bS HB hb; clear hb hbox hg) | ((with_reducible refine gate_dst (N := 3) rfl ?_); refine box_event ?hg (N := 3) ?hd (cs := #[.int .i64 0, .int .i64 0, .bool false]) (t := 48) ?hr ?_; (case hd => rfl); (case hg => rfl); (case hr => first | (go_simp; done) | (go_simp; rfl)); intro gb486 hg w3 hbox hb; have BK486 := Aside0.mk (hbox); have GW486 := bG HB hg; have GE486 := bG HB hg; replace HB := bS HB hb; have NB485_486 := bL BK485 hg; have NB486_485 := bR BK485 hg; replace BK485 := bB BK485 hb; clear hb hbox hg; have hnb4 := NB486_485.out; have hnc4 := NB485_486.out; have hcz5_0 : w3.cell? ⟨gb486, 0, none⟩ = some (.int .i64 0) := bc BK486 0; have hcz5_1 : w3.cell? ⟨gb486, 1, none⟩ = some (.int .i64 0) := bc BK486 1; have hcz5_2 : w3.cell? ⟨gb486, 2, none⟩ = some (.bool false) := bc BK486 2; have hfz5_0 := blk_frozen BK486.out 0; have hfz5_1 := blk_frozen BK486.out 1; have hfz5_2 := blk_frozen BK486.out 2))
 go_loopg [9] k (fun kq v9 w' => ∃ (x9_1 : Int) (x487000_1 : Int) (x487001_1 : Int) (x487002_1 : Bool), v9 = .int .i64 x9_1 ∧ Aside0 (impl_SumPoints.l0 kq l0 (l0.length : Int) x9_1 x487000_1 x487001_1 x487002_1 = some (r1, r2, r3)) ∧ Aside0 (kq ≤ k) ∧ Aside0 (w'.heap[gb485]? = some (.cells #[.int .i64 0, .int .i64 0, .bool false] 48 (0, 0))) ∧ Aside0 (w'.heap[gb486]? = some (.cells #[.int .i64 x487000_1, .int .i64 x487001_1, .bool x487002_1] 48 (0, 0))) ∧ Aside0 (Below w.heap.size w w'))
 case atStart => exact ⟨(0), (0), (0), (true), (by first | rfl | (simp; done) | (simp [*]; done)), H', ⟨Nat.le_refl _⟩, ⟨bP BK485⟩, ⟨by (with_reducible repeat (first | refine blk_drewN ?_ _ | refine blk_drew ?_ | refine blk_alloc ?_ _)); refine blk_put (cs := #[.int .i64 0, .int .i64 0, .bool false]) ?_ 2 _ rfl; (with_reducible repeat (first | refine blk_drewN ?_ _ | refine blk_drew ?_ | refine blk_alloc ?_ _)); refine blk_put (cs := #[.int .i64 0, .int .i64 0, .bool false]) ?_ 1 _ rfl; (with_reducible repeat (first | refine blk_drewN ?_ _ | refine blk_drew ?_ | refine blk_alloc ?_ _)); refine blk_put (cs := #[.int .i64 0, .int .i64 0, .bool false]) ?_ 0 _ rfl; (with_reducible repeat (first | refine blk_drewN ?_ _ | refine blk_drew ?_ | refine blk_alloc ?_ _)); exact BK486.out⟩, ⟨bZ HB⟩⟩
 case round =>
  clear H'
  try clear p2
  try clear c4
  try clear hcz5_0
  try clear hcz5_1
  try clear hcz5_2
  try clear hfz5_0
  try clear hfz5_1
  try clear hfz5_2
  obtain ⟨x9_1, x487000_1, x487001_1, x487002_1, rfl, HA, HK1, BK485, BK486, HB⟩ := hrel
  cases gk with
  | zero => exact absurd HA.out (by simp [impl_SumPoints.l0])
  | succ k1 =>
   have H := HA.out
   clear HA
   simp only [impl_SumPoints.l0] at H
   by_cases c6 : x9_1 < (l0.length : Int)
   ·rw [if_pos c6] at H
    have c6b0 : decide (x9_1 < (l0.length : Int)) = true := decide_eq_true c6
    clear c6
    by_cases c7 : 0 ≤ x9_1
    ·rw [if_pos c7] at H
     have c7b0 : decide (0 ≤ x9_1) = true := decide_eq_true c7
     clear c7
     by_cases c8 : x9_1 < (l0.length : Int)
     ·rw [if_pos c8] at H
      have c8b0 : decide (x9_1 < (l0.length : Int)) = true := decide_eq_true c8
      clear c8
      replace H := Option.bind_eq_some_iff.mp H
      obtain ⟨⟨t489, t490, t491⟩, A90, H⟩ := H
      replace H : (impl_SumPoints.l0 k1 l0 (l0.length : Int) (wrap64 (x9_1 + 1)) t489 t490 t491) = some (r1, r2, r3) := H
      have A9 := Aside0.mk A90
      clear A90
      have H' := Aside0.mk H
      clear H
      have p487 : 0 ≤ (x9_1 : Int) := of_decide_eq_true (by first | (with_reducible assumption) | assumption)
      have q487 : x9_1 < (l0.length : Int) := of_decide_eq_true (by first | (with_reducible assumption) | assumption)
      obtain ⟨ad487, e487, hx487_0, hx487_1, hx487_2⟩ := at_T48 HR0.out x9_1 p487 q487
      cases e487
      replace hx487_0 := (HB.out.cell (World.block_lt_of_cell? w _ hx487_0)).trans hx487_0
      replace hx487_1 := (HB.out.cell (World.block_lt_of_cell? w _ hx487_1)).trans hx487_1
      replace hx487_2 := (HB.out.cell (World.block_lt_of_cell? w _ hx487_2)).trans hx487_2
      replace p487 := eq_true p487
      replace q487 := eq_true q487
      go_wp2_with (first | ((with_reducible refine gate_dst (N := 5) rfl ?_); refine box_event ?hg (N := 5) ?hd (cs := #[.int .i64 0, .int .i64 0, .bool false]) (t := 48) ?hr ?_; (case hd => rfl); (case hg => rfl); (case hr => first | (go_simp; done) | (go_simp; rfl)); intro gb488 hg w10 hbox hb; have BK488 := Aside0.mk (hbox); have GW488 := bG HB hg; have GE488 := bG HB hg; replace HB := bS HB hb; have NB485_488 := bL BK485 hg; have NB488_485 := bR BK485 hg; replace BK485 := bB BK485 hb; have NB486_488 := bL BK486 hg; have NB488_486 := bR BK486 hg; replace BK486 := bB BK486 hb; clear hb hbox hg; have hnb11 := NB488_485.out; have hnc11 := NB485_488.out; have hnb12 := NB488_486.out; have hnc12 := NB486_488.out; have hcz13_0 : w10.cell? ⟨gb488, 0, none⟩ = some (.int .i64 0) := bc BK488 0; have hcz13_1 : w10.cell? ⟨gb488, 1, none⟩ = some (.int .i64 0) := bc BK488 1; have hcz13_2 : w10.cell? ⟨gb488, 2, none⟩ = some (.bool false) := bc BK488 2; have hfz13_0 := blk_frozen BK488.out 0; have hfz13_1 := blk_frozen BK488.out 1; have hfz13_2 := blk_frozen BK488.out 2; have hnb14 := NB486_485.out; have hnc14 := NB485_486.out; have hcz15_0 : w10.cell? ⟨gb486, 0, none⟩ = some (.int .i64 x487000_1) := bc BK486 0; have hcz15_1 : w10.cell? ⟨gb486, 1, none⟩ = some (.int .i64 x487001_1) := bc BK486 1; have hcz15_2 : w10.cell? ⟨gb486, 2, none⟩ = some (.bool x487002_1) := bc BK486 2; have hfz15_0 := blk_frozen BK486.out 0; have hfz15_1 := blk_frozen BK486.out 1; have hfz15_2 := blk_frozen BK486.out 2) | ((with_reducible refine gate_callee (f := 56) rfl ?_); refine goesL_ (some 15) rfl rfl Try.func56 (by kernel_rfl) rfl #[.agg #[.int .i64 x487000_1, .int .i64 x487001_1, .bool x487002_1], .agg #[.int .i64 ((rd_T48 l0 x9_1).f0), .int .i64 ((rd_T48 l0 x9_1).f1), .bool ((rd_T48 l0 x9_1).f2)]] rfl (by (try simp only [List.map_toArray, List.map_cons, List.map_nil]); first | done | rfl | (simp only [List.length_drop, List.length_take]; rfl)) ?_; (with_reducible refine (impl_PointAdd.calls k1 x487000_1 x487001_1 x487002_1 ((rd_T48 l0 x9_1).f0) ((rd_T48 l0 x9_1).f1) ((rd_T48 l0 x9_1).f2) t489 t490 t491 _ A9.out).mono ?_); rintro e w16 ⟨rfl, hb⟩; refine ⟨_, rfl, ?_⟩; replace BK485 := bB BK485 hb; replace BK486 := bB BK486 hb; replace BK488 := Aside0.mk (blk_below (g := gb488) (o := .cells #[.int .i64 ((rd_T48 l0 x9_1).f0), .int .i64 ((rd_T48 l0 x9_1).f1), .bool ((rd_T48 l0 x9_1).f2)] 48 (0, 0)) (by (with_reducible repeat (first | refine blk_drewN ?_ _ | refine blk_drew ?_ | refine blk_alloc ?_ _)); refine blk_put (cs := #[.int .i64 ((rd_T48 l0 x9_1).f0), .int .i64 ((rd_T48 l0 x9_1).f1), .bool false]) ?_ 2 _ rfl; (with_reducible repeat (first | refine blk_drewN ?_ _ | refine blk_drew ?_ | refine blk_alloc ?_ _)); refine blk_put (cs := #[.int .i64 ((rd_T48 l0 x9_1).f0), .int .i64 0, .bool false]) ?_ 1 _ rfl; (with_reducible repeat (first | refine blk_drewN ?_ _ | refine blk_drew ?_ | refine blk_alloc ?_ _)); refine blk_put (cs := #[.int .i64 0, .int .i64 0, .bool false]) ?_ 0 _ rfl; (with_reducible repeat (first | refine blk_drewN ?_ _ | refine blk_drew ?_ | refine blk_alloc ?_ _)); exact BK488.out) hb); replace HB := bS HB hb; (try clear hb); (try clear hb2); (try clear hk); (try clear hi); have hcz17_0 : w16.cell? ⟨gb486, 0, none⟩ = some (.int .i64 x487000_1) := bc BK486 0; have hcz17_1 : w16.cell? ⟨gb486, 1, none⟩ = some (.int .i64 x487001_1) := bc BK486 1; have hcz17_2 : w16.cell? ⟨gb486, 2, none⟩ = some (.bool x487002_1) := bc BK486 2; have hfz17_0 := blk_frozen BK486.out 0; have hfz17_1 := blk_frozen BK486.out 1; have hfz17_2 := blk_frozen BK486.out 2))
      go_roundg k1
      case measure => have := HK1.out; omega
      case rel => exact ⟨(wrap64 (x9_1 + 1)), (t489), (t490), (t491), (by first | rfl | (simp; done) | (simp [*]; done)), H', ⟨by have := HK1.out; omega⟩, ⟨bP BK485⟩, ⟨by (with_reducible repeat (first | refine blk_drewN ?_ _ | refine blk_drew ?_ | refine blk_alloc ?_ _)); refine blk_put (cs := #[.int .i64 t489, .int .i64 t490, .bool x487002_1]) ?_ 2 _ rfl; (with_reducible repeat (first | refine blk_drewN ?_ _ | refine blk_drew ?_ | refine blk_alloc ?_ _)); refine blk_put (cs := #[.int .i64 t489, .int .i64 x487001_1, .bool x487002_1]) ?_ 1 _ rfl; (with_reducible repeat (first | refine blk_drewN ?_ _ | refine blk_drew ?_ | refine blk_alloc ?_ _)); refine blk_put (cs := #[.int .i64 x487000_1, .int .i64 x487001_1, .bool x487002_1]) ?_ 0 _ rfl; (with_reducible repeat (first | refine blk_drewN ?_ _ | refine blk_drew ?_ | refine blk_alloc ?_ _)); exact BK486.out⟩, ⟨bZ HB⟩⟩
     ·rw [if_neg c8] at H
      exact absurd H (by simp)
    ·rw [if_neg c7] at H
     exact absurd H (by simp)
   ·rw [if_neg c6] at H
    have c6b0 : decide (x9_1 < (l0.length : Int)) = false := decide_eq_false c6
    clear c6
    simp only [Option.some.injEq, Prod.mk.injEq] at H
    obtain ⟨rfl, rfl, rfl⟩ := H
    have hnb18 := NB486_485.out
    have hnc18 := NB485_486.out
    have hcz19_0 : wr.cell? ⟨gb486, 0, none⟩ = some (.int .i64 x487000_1) := bc BK486 0
    have hcz19_1 : wr.cell? ⟨gb486, 1, none⟩ = some (.int .i64 x487001_1) := bc BK486 1
    have hcz19_2 : wr.cell? ⟨gb486, 2, none⟩ = some (.bool x487002_1) := bc BK486 2
    have hfz19_0 := blk_frozen BK486.out 0
    have hfz19_1 := blk_frozen BK486.out 1
    have hfz19_2 := blk_frozen BK486.out 2
    have hcz20_0 : wr.cell? ⟨gb485, 0, none⟩ = some (.int .i64 0) := bc BK485 0
    have hcz20_1 : wr.cell? ⟨gb485, 1, none⟩ = some (.int .i64 0) := bc BK485 1
    have hcz20_2 : wr.cell? ⟨gb485, 2, none⟩ = some (.bool false) := bc BK485 2
    have hfz20_0 := blk_frozen BK485.out 0
    have hfz20_1 := blk_frozen BK485.out 1
    have hfz20_2 := blk_frozen BK485.out 2
    go_wp2
    refine bodyPost_ret (results_cell_row rfl _ _ gb485 48 #[.int .i64 x487000_1, .int .i64 x487001_1, .bool x487002_1] (0, 0) _ rfl (by (with_reducible repeat (first | refine blk_drewN ?_ _ | refine blk_drew ?_ | refine blk_alloc ?_ _)); refine blk_put (cs := #[.int .i64 x487000_1, .int .i64 x487001_1, .bool false]) ?_ 2 _ rfl; (with_reducible repeat (first | refine blk_drewN ?_ _ | refine blk_drew ?_ | refine blk_alloc ?_ _)); refine blk_put (cs := #[.int .i64 x487000_1, .int .i64 0, .bool false]) ?_ 1 _ rfl; (with_reducible repeat (first | refine blk_drewN ?_ _ | refine blk_drew ?_ | refine blk_alloc ?_ _)); refine blk_put (cs := #[.int .i64 0, .int .i64 0, .bool false]) ?_ 0 _ rfl; (with_reducible repeat (first | refine blk_drewN ?_ _ | refine blk_drew ?_ | refine blk_alloc ?_ _)); exact BK485.out) Try.underlying48 rfl (by kernel_rfl)) rfl ?_
    exact ⟨by first | rfl | (simp [errW_none, errW_some] <;> rfl) | (simp [*, errW_none, errW_some] <;> rfl), bZ HB⟩
/-! ### impl_CommitteeText: function 23 -/
def impl_CommitteeText.l0 : Nat → ByteArray → List ByteArray → Int → Int → List (S48) → Option (ByteArray × Bool)
 | 0, _, _, _, _, _ => none
 | k + 1, x4, x11, x12, x13, x493000 => if x13 < x12 then (if 0 ≤ x13 then (if x13 < (x11.length : Int) then (if x4.size + (rdOf ByteArray.empty x11 x13).size ≤ 9223372036854775807 then (impl_CommitteeText.l0 k (x4 ++ (rdOf ByteArray.empty x11 x13)) x11 x12 (wrap64 (x13 + 1)) x493000) else (none)) else (none)) else (none)) else ((impl_SumPoints.f k x493000).bind fun bt498 => ((impl_PointText.f bt498.1 bt498.2.1 bt498.2.2).bind fun t501 => (if x4.size + t501.size ≤ 9223372036854775807 then (some (x4 ++ t501, true)) else (none))))
def impl_CommitteeText.f (k : Nat) (l0_0 : List (S48)) : Option (ByteArray × Bool) := (impl_CommitteeOk.f k l0_0).bind fun t493 => (if t493 = true then ((impl_keyTexts.f k l0_0).bind fun t494 => (impl_CommitteeText.l0 k (⟨#[]⟩ : ByteArray) t494 (t494.length : Int) 0 l0_0)) else (some ((⟨#[]⟩ : ByteArray), false)))
theorem impl_CommitteeText.mono_l : ∀ k, (∀ y0 y1 y2 y3 y4, LeO (impl_CommitteeText.l0 k y0 y1 y2 y3 y4) (impl_CommitteeText.l0 (k + 1) y0 y1 y2 y3 y4))
 | 0 => fun _ _ _ _ _ r h => by simp [impl_CommitteeText.l0] at h
 | k + 1 => by
  have ih0 := impl_CommitteeText.mono_l k
  ·intro y0 y1 y2 y3 y4
   unfold impl_CommitteeText.l0
   repeat' first
   | (with_reducible exact ih0 _ _ _ _ _)
   | (with_reducible exact impl_CommitteeOk.mono _ _)
   | (with_reducible exact impl_SumPoints.mono _ _)
   | (with_reducible exact impl_keyTexts.mono _ _)
   | (with_reducible exact LeO.refl _)
   | (with_reducible exact LeO.none _)
   | (with_reducible refine LeO.ite ?_ ?_)
   | (with_reducible refine LeO.bind ?_ (fun _ => ?_))
   | exact ih0 _ _ _ _ _
   | exact impl_CommitteeOk.mono _ _
   | exact impl_SumPoints.mono _ _
   | exact impl_keyTexts.mono _ _
   | exact LeO.none _
   | refine LeO.ite ?_ ?_
   | refine LeO.bind ?_ (fun _ => ?_)
theorem impl_CommitteeText.mono : ∀ a0 k, LeO (impl_CommitteeText.f k a0) (impl_CommitteeText.f (k + 1) a0) := by
 intro a0 k
 have ih0 := impl_CommitteeText.mono_l k
 unfold impl_CommitteeText.f
 repeat' first
   | (with_reducible exact ih0 _ _ _ _ _)
   | (with_reducible exact impl_CommitteeOk.mono _ _)
   | (with_reducible exact impl_SumPoints.mono _ _)
   | (with_reducible exact impl_keyTexts.mono _ _)
   | (with_reducible exact LeO.refl _)
   | (with_reducible exact LeO.none _)
   | (with_reducible refine LeO.ite ?_ ?_)
   | (with_reducible refine LeO.bind ?_ (fun _ => ?_))
   | exact ih0 _ _ _ _ _
   | exact impl_CommitteeOk.mono _ _
   | exact impl_SumPoints.mono _ _
   | exact impl_keyTexts.mono _ _
   | exact LeO.none _
   | refine LeO.ite ?_ ?_
   | refine LeO.bind ?_ (fun _ => ?_)
set_option maxHeartbeats 8000000 in
set_option maxRecDepth 100000 in
theorem impl_CommitteeText.calls (k : Nat) (A0_0 : Option Addr) (c0_0 : Nat) (l0_0 : List (S48)) (r1 : ByteArray) (r2 : Bool) (w : World) (hr0_0 : Kd.C k48 w A0_0 l0_0.length l0_0) (hc0_0 : l0_0.length ≤ c0_0) (h : impl_CommitteeText.f k l0_0 = some (r1, r2)) :
  Calls Try.prog 23 #[.agg #[.slice A0_0 l0_0.length c0_0]] w fun e w' => e = .returned (.tuple #[.string r1, .bool r2]) ∧ Below w.heap.size w w' := by
 have hu29 := Try.underlying29
 have HR0_0 := Aside0.mk hr0_0
 have HC0_0 := Aside0.mk hc0_0
 clear hr0_0 hc0_0
 have HB := Aside0.mk (Below.refl w.heap.size w)
 have H : ((impl_CommitteeOk.f k l0_0).bind fun t493 => (if t493 = true then ((impl_keyTexts.f k l0_0).bind fun t494 => (impl_CommitteeText.l0 k (⟨#[]⟩ : ByteArray) t494 (t494.length : Int) 0 l0_0)) else (some ((⟨#[]⟩ : ByteArray), false)))) = some (r1, r2) := h
 clear h
 replace H := Option.bind_eq_some_iff.mp H
 obtain ⟨t493, A20, H⟩ := H
 replace H : (if t493 = true then ((impl_keyTexts.f k l0_0).bind fun t494 => (impl_CommitteeText.l0 k (⟨#[]⟩ : ByteArray) t494 (t494.length : Int) 0 l0_0)) else (some ((⟨#[]⟩ : ByteArray), false))) = some (r1, r2) := H
 have A2 := Aside0.mk A20
 clear A20
 by_cases c3 : t493 = true
 ·subst c3
  have H1 : ((impl_keyTexts.f k l0_0).bind fun t494 => (impl_CommitteeText.l0 k (⟨#[]⟩ : ByteArray) t494 (t494.length : Int) 0 l0_0)) = some (r1, r2) := by rw [if_pos rfl] at H; exact H
  clear H
  have H := H1
  clear H1
  replace H := Option.bind_eq_some_iff.mp H
  obtain ⟨t494, A40, H⟩ := H
  replace H : (impl_CommitteeText.l0 k (⟨#[]⟩ : ByteArray) t494 (t494.length : Int) 0 l0_0) = some (r1, r2) := H
  have A4 := Aside0.mk A40
  clear A40
  have H' := Aside0.mk H
  clear H
  go_enter Try.func23, Try.ntmps23
  go_wp2_with (first | ((with_reducible refine gate_dst (N := 1) rfl ?_); refine box_event ?hg (N := 1) ?hd (cs := #[.slice A0_0 l0_0.length c0_0]) (t := 29) ?hr ?_; (case hd => rfl); (case hg => rfl); (case hr => first | (go_simp; done) | (go_simp; rfl)); intro gb492 hg w5 hbox hb; have BK492 := Aside0.mk (hbox); have GW492 := bG HB hg; have GE492 := bG HB hg; replace HB := bS HB hb; clear hb hbox hg; have hcz6_0 : w5.cell? ⟨gb492, 0, none⟩ = some (.slice A0_0 l0_0.length c0_0) := bc BK492 0; have hfz6_0 := blk_frozen BK492.out 0) | ((with_reducible refine gate_callee (f := 11) rfl ?_); refine goesL_ (some 8) rfl rfl Try.func11 (by kernel_rfl) rfl #[.agg #[.slice A0_0 l0_0.length c0_0]] rfl (by (try simp only [List.map_toArray, List.map_cons, List.map_nil]); first | done | rfl | (simp only [List.length_drop, List.length_take]; rfl)) ?_; (with_reducible refine (impl_CommitteeOk.calls k _ _ l0_0 true _ ?side1 ?side2 A2.out).mono ?_); (case side1 => repeat (first | exact (Kd.C_below HR0_0.out HB.out) | (with_reducible refine Kd.C_alloc ?_ _) | (with_reducible refine Kd.C_drewN ?_ _) | (with_reducible refine Kd.C_drew ?_))); (case side2 => exact HC0_0.out); rintro e w7 ⟨rfl, hb⟩; refine ⟨_, rfl, ?_⟩; replace BK492 := bB BK492 hb; replace HB := bS HB hb; (try clear hb); (try clear hb2); (try clear hk); (try clear hi); have hcz8_0 : w7.cell? ⟨gb492, 0, none⟩ = some (.slice A0_0 l0_0.length c0_0) := bc BK492 0; have hfz8_0 := blk_frozen BK492.out 0) | ((with_reducible refine gate_callee (f := 39) rfl ?_); refine goesL_ (some 11) rfl rfl Try.func39 (by kernel_rfl) rfl #[.agg #[.slice A0_0 l0_0.length c0_0]] rfl (by (try simp only [List.map_toArray, List.map_cons, List.map_nil]); first | done | rfl | (simp only [List.length_drop, List.length_take]; rfl)) ?_; (with_reducible refine (impl_keyTexts.calls k _ _ l0_0 t494 _ ?side1 ?side2 A4.out).mono ?_); (case side1 => repeat (first | exact (Kd.C_below HR0_0.out HB.out) | (with_reducible refine Kd.C_alloc ?_ _) | (with_reducible refine Kd.C_drewN ?_ _) | (with_reducible refine Kd.C_drew ?_))); (case side2 => exact HC0_0.out); rintro e w9 ⟨v495, rfl, ho0, hb⟩; refine ⟨_, rfl, ?_⟩; have HO496 := Aside0.mk (Kd.R_lower ho0 (below_size (bZ HB))); replace BK492 := bB BK492 hb; replace HB := bS HB hb; (try clear hb); (try clear hb2); (try clear hk); (try clear hi); (try clear ho0); obtain ⟨Ao10, co10, eo10⟩ := Kd.R_slice HO496.out; subst eo10))
  go_loopg [4, 13] k (fun kq v4 v13 w' => ∃ (x4_1 : ByteArray) (x13_1 : Int), v4 = .string x4_1 ∧ v13 = .int .i64 x13_1 ∧ Aside0 (impl_CommitteeText.l0 kq x4_1 t494 (t494.length : Int) x13_1 l0_0 = some (r1, r2)) ∧ Aside0 (kq ≤ k) ∧ Aside0 (Kd.R Kd.string 9 w' w.heap.size (fun _ => True) (.slice Ao10 t494.length co10) t494) ∧ Aside0 (w'.heap[gb492]? = some (.cells #[(.slice A0_0 l0_0.length c0_0)] 29 (0, 0))) ∧ Aside0 (Below w.heap.size w w'))
  case atStart => exact ⟨((⟨#[]⟩ : ByteArray)), (0), (by first | rfl | (simp; done) | (simp [*]; done)), (by first | rfl | (simp; done) | (simp [*]; done)), H', ⟨Nat.le_refl _⟩, ⟨by (with_reducible repeat (first | apply Kd.R_alloc | apply Kd.R_drewN | apply Kd.R_drew)); exact HO496.out⟩, ⟨bP BK492⟩, ⟨bZ HB⟩⟩
  case round =>
   clear H'
   try clear c1
   try clear c2
   try clear p2
   try clear c3
   try clear hcz6_0
   try clear hcz8_0
   try clear hfz6_0
   try clear hfz8_0
   obtain ⟨x4_1, x13_1, rfl, rfl, HA, HK1, HO_11, BK492, HB⟩ := hrel
   cases gk with
   | zero => exact absurd HA.out (by simp [impl_CommitteeText.l0])
   | succ k1 =>
    have H := HA.out
    clear HA
    simp only [impl_CommitteeText.l0] at H
    by_cases c11 : x13_1 < (t494.length : Int)
    ·rw [if_pos c11] at H
     have c11b0 : decide (x13_1 < (t494.length : Int)) = true := decide_eq_true c11
     clear c11
     by_cases c12 : 0 ≤ x13_1
     ·rw [if_pos c12] at H
      have c12b0 : decide (0 ≤ x13_1) = true := decide_eq_true c12
      clear c12
      by_cases c13 : x13_1 < (t494.length : Int)
      ·rw [if_pos c13] at H
       have c13b0 : decide (x13_1 < (t494.length : Int)) = true := decide_eq_true c13
       clear c13
       by_cases c14 : x4_1.size + (rdOf ByteArray.empty t494 x13_1).size ≤ 9223372036854775807
       ·rw [if_pos c14] at H
        have c14b0 := eq_true c14
        have c14b1 : decide (x4_1.size + (rdOf ByteArray.empty t494 x13_1).size ≤ 9223372036854775807) = true := decide_eq_true c14
        try have c14b2 : (9223372036854775807 < x4_1.size + (rdOf ByteArray.empty t494 x13_1).size) = False := eq_false (Nat.not_lt.2 c14)
        try simp only [ByteArray.size_append] at c14b2
        have H' := Aside0.mk H
        clear H
        have p497 : 0 ≤ (x13_1 : Int) := of_decide_eq_true (by first | (with_reducible assumption) | assumption)
        have q497 : x13_1 < (t494.length : Int) := of_decide_eq_true (by first | (with_reducible assumption) | assumption)
        obtain ⟨ad497, e497, hx497_0⟩ := Kd.at_string (Kd.R_reads' HO_11.out).2.2 x13_1 p497 q497
        cases e497
        replace p497 := eq_true p497
        replace q497 := eq_true q497
        go_wp2
        go_roundg k1
        case measure => have := HK1.out; omega
        case rel => exact ⟨(x4_1 ++ (rdOf ByteArray.empty t494 x13_1)), (wrap64 (x13_1 + 1)), (by first | rfl | (simp; done) | (simp [*]; done)), (by first | rfl | (simp; done) | (simp [*]; done)), H', ⟨by have := HK1.out; omega⟩, ⟨by (with_reducible repeat (first | apply Kd.R_alloc | apply Kd.R_drewN | apply Kd.R_drew)); exact HO_11.out⟩, ⟨bP BK492⟩, ⟨bZ HB⟩⟩
       ·rw [if_neg c14] at H
        exact absurd H (by simp)
      ·rw [if_neg c13] at H
       exact absurd H (by simp)
     ·rw [if_neg c12] at H
      exact absurd H (by simp)
    ·rw [if_neg c11] at H
     have c11b0 : decide (x13_1 < (t494.length : Int)) = false := decide_eq_false c11
     clear c11
     replace H := Option.bind_eq_some_iff.mp H
     obtain ⟨⟨t498, t499, t500⟩, A150, H⟩ := H
     replace H : ((impl_PointText.f t498 t499 t500).bind fun t501 => (if x4_1.size + t501.size ≤ 9223372036854775807 then (some (x4_1 ++ t501, true)) else (none))) = some (r1, r2) := H
     have A15 := Aside0.mk A150
     clear A150
     replace H := Option.bind_eq_some_iff.mp H
     obtain ⟨t501, A160, H⟩ := H
     replace H : (if x4_1.size + t501.size ≤ 9223372036854775807 then (some (x4_1 ++ t501, true)) else (none)) = some (r1, r2) := H
     have A16 := Aside0.mk A160
     clear A160
     by_cases c17 : x4_1.size + t501.size ≤ 9223372036854775807
     ·rw [if_pos c17] at H
      have c17b0 := eq_true c17
      have c17b1 : decide (x4_1.size + t501.size ≤ 9223372036854775807) = true := decide_eq_true c17
      try have c17b2 : (9223372036854775807 < x4_1.size + t501.size) = False := eq_false (Nat.not_lt.2 c17)
      try simp only [ByteArray.size_append] at c17b2
      simp only [Option.some.injEq, Prod.mk.injEq] at H
      obtain ⟨rfl, rfl⟩ := H
      have hcz18_0 : wr.cell? ⟨gb492, 0, none⟩ = some (.slice A0_0 l0_0.length c0_0) := bc BK492 0
      have hfz18_0 := blk_frozen BK492.out 0
      go_wp2_with (first | ((with_reducible refine gate_callee (f := 41) rfl ?_); refine goesL_ (some 24) rfl rfl Try.func41 (by kernel_rfl) rfl #[.slice A0_0 l0_0.length c0_0] rfl (by (try simp only [List.map_toArray, List.map_cons, List.map_nil]); first | done | rfl | (simp only [List.length_drop, List.length_take]; rfl)) ?_; (with_reducible refine (impl_SumPoints.calls k1 _ _ l0_0 t498 t499 t500 _ ?side1 ?side2 A15.out).mono ?_); (case side1 => repeat (first | exact (Kd.C_below HR0_0.out HB.out) | (with_reducible refine Kd.C_alloc ?_ _) | (with_reducible refine Kd.C_drewN ?_ _) | (with_reducible refine Kd.C_drew ?_))); (case side2 => exact HC0_0.out); rintro e w19 ⟨rfl, hb⟩; refine ⟨_, rfl, ?_⟩; replace HO_11 := Aside0.mk (Kd.R_below (by (with_reducible repeat (first | apply Kd.R_alloc | apply Kd.R_drewN | apply Kd.R_drew)); exact HO_11.out) hb); replace BK492 := bB BK492 hb; replace HB := bS HB hb; (try clear hb); (try clear hb2); (try clear hk); (try clear hi)) | ((with_reducible refine gate_callee (f := 40) rfl ?_); refine goesL_ (some 25) rfl rfl Try.func40 (by kernel_rfl) rfl #[.agg #[.int .i64 t498, .int .i64 t499, .bool t500]] rfl (by (try simp only [List.map_toArray, List.map_cons, List.map_nil]); first | done | rfl | (simp only [List.length_drop, List.length_take]; rfl)) ?_; (with_reducible refine (impl_PointText.calls t498 t499 t500 t501 _ A16.out).mono ?_); rintro e w20 ⟨rfl, hb⟩; refine ⟨_, rfl, ?_⟩; replace HO_11 := Aside0.mk (Kd.R_below (by (with_reducible repeat (first | apply Kd.R_alloc | apply Kd.R_drewN | apply Kd.R_drew)); exact HO_11.out) hb); replace BK492 := bB BK492 hb; replace HB := bS HB hb; (try clear hb); (try clear hb2); (try clear hk); (try clear hi)))
      go_ret2
      exact ⟨by first | rfl | (simp [errW_none, errW_some] <;> rfl) | (simp [*, errW_none, errW_some] <;> rfl), bZ HB⟩
     ·rw [if_neg c17] at H
      exact absurd H (by simp)
 ·replace c3 := Bool.eq_false_iff.mpr c3
  subst c3
  have H1 : (some ((⟨#[]⟩ : ByteArray), false)) = some (r1, r2) := by rw [if_neg (show ¬ (false = true) by decide)] at H; exact H
  clear H
  have H := H1
  clear H1
  simp only [Option.some.injEq, Prod.mk.injEq] at H
  obtain ⟨rfl, rfl⟩ := H
  go_enter Try.func23, Try.ntmps23
  go_wp2_with (first | ((with_reducible refine gate_dst (N := 1) rfl ?_); refine box_event ?hg (N := 1) ?hd (cs := #[.slice A0_0 l0_0.length c0_0]) (t := 29) ?hr ?_; (case hd => rfl); (case hg => rfl); (case hr => first | (go_simp; done) | (go_simp; rfl)); intro gb492 hg w21 hbox hb; have BK492 := Aside0.mk (hbox); have GW492 := bG HB hg; have GE492 := bG HB hg; replace HB := bS HB hb; clear hb hbox hg; have hcz22_0 : w21.cell? ⟨gb492, 0, none⟩ = some (.slice A0_0 l0_0.length c0_0) := bc BK492 0; have hfz22_0 := blk_frozen BK492.out 0) | ((with_reducible refine gate_callee (f := 11) rfl ?_); refine goesL_ (some 8) rfl rfl Try.func11 (by kernel_rfl) rfl #[.agg #[.slice A0_0 l0_0.length c0_0]] rfl (by (try simp only [List.map_toArray, List.map_cons, List.map_nil]); first | done | rfl | (simp only [List.length_drop, List.length_take]; rfl)) ?_; (with_reducible refine (impl_CommitteeOk.calls k _ _ l0_0 false _ ?side1 ?side2 A2.out).mono ?_); (case side1 => repeat (first | exact (Kd.C_below HR0_0.out HB.out) | (with_reducible refine Kd.C_alloc ?_ _) | (with_reducible refine Kd.C_drewN ?_ _) | (with_reducible refine Kd.C_drew ?_))); (case side2 => exact HC0_0.out); rintro e w23 ⟨rfl, hb⟩; refine ⟨_, rfl, ?_⟩; replace BK492 := bB BK492 hb; replace HB := bS HB hb; (try clear hb); (try clear hb2); (try clear hk); (try clear hi)))
  go_ret2
  exact ⟨by first | rfl | (simp [errW_none, errW_some] <;> rfl) | (simp [*, errW_none, errW_some] <;> rfl), bZ HB⟩
/-! ### impl_FpRoot: function 61 -/
def impl_FpRoot.f (k : Nat) (a0 : Int) : Option (Int × Bool) := (impl_powerMod.f k a0 3027 12107).bind fun t549 => ((impl_FpMul.f t549 t549).bind fun t550 => ((impl_FpOf.f a0).bind fun t551 => (if t550 = t551 then ((impl_FpOf.f (wrap64 (-t549))).bind fun t552 => (some (mn t549 t552, true))) else (some (0, false)))))
theorem impl_FpRoot.mono : ∀ a0 k, LeO (impl_FpRoot.f k a0) (impl_FpRoot.f (k + 1) a0) := by
 intro a0 k
 unfold impl_FpRoot.f
 repeat' first
   | (with_reducible exact impl_powerMod.mono _ _ _ _)
   | (with_reducible exact LeO.refl _)
   | (with_reducible exact LeO.none _)
   | (with_reducible refine LeO.ite ?_ ?_)
   | (with_reducible refine LeO.bind ?_ (fun _ => ?_))
   | exact impl_powerMod.mono _ _ _ _
   | exact LeO.none _
   | refine LeO.ite ?_ ?_
   | refine LeO.bind ?_ (fun _ => ?_)
set_option maxHeartbeats 8000000 in
set_option maxRecDepth 100000 in
theorem impl_FpRoot.calls (k : Nat) (a0 : Int) (r1 : Int) (r2 : Bool) (w : World) (h : impl_FpRoot.f k a0 = some (r1, r2)) :
  Calls Try.prog 61 #[.int .i64 a0] w fun e w' => e = .returned (.tuple #[.int .i64 r1, .bool r2]) ∧ Below w.heap.size w w' := by
 have HB := Aside0.mk (Below.refl w.heap.size w)
 have H : ((impl_powerMod.f k a0 3027 12107).bind fun t549 => ((impl_FpMul.f t549 t549).bind fun t550 => ((impl_FpOf.f a0).bind fun t551 => (if t550 = t551 then ((impl_FpOf.f (wrap64 (-t549))).bind fun t552 => (some (mn t549 t552, true))) else (some (0, false)))))) = some (r1, r2) := h
 clear h
 replace H := Option.bind_eq_some_iff.mp H
 obtain ⟨t549, A20, H⟩ := H
 replace H : ((impl_FpMul.f t549 t549).bind fun t550 => ((impl_FpOf.f a0).bind fun t551 => (if t550 = t551 then ((impl_FpOf.f (wrap64 (-t549))).bind fun t552 => (some (mn t549 t552, true))) else (some (0, false))))) = some (r1, r2) := H
 have A2 := Aside0.mk A20
 clear A20
 replace H := Option.bind_eq_some_iff.mp H
 obtain ⟨t550, A30, H⟩ := H
 replace H : ((impl_FpOf.f a0).bind fun t551 => (if t550 = t551 then ((impl_FpOf.f (wrap64 (-t549))).bind fun t552 => (some (mn t549 t552, true))) else (some (0, false)))) = some (r1, r2) := H
 have A3 := Aside0.mk A30
 clear A30
 replace H := Option.bind_eq_some_iff.mp H
 obtain ⟨t551, A40, H⟩ := H
 replace H : (if t550 = t551 then ((impl_FpOf.f (wrap64 (-t549))).bind fun t552 => (some (mn t549 t552, true))) else (some (0, false))) = some (r1, r2) := H
 have A4 := Aside0.mk A40
 clear A40
 by_cases c5 : t550 = t551
 ·rw [if_pos c5] at H
  have c5b0 : (t550 == t551) = true := beq_iff_eq.mpr c5
  have c5b1 : (t550 != t551) = false := bne_eq_false_iff_eq.mpr c5
  clear c5
  replace H := Option.bind_eq_some_iff.mp H
  obtain ⟨t552, A60, H⟩ := H
  replace H : (some (mn t549 t552, true)) = some (r1, r2) := H
  have A6 := Aside0.mk A60
  clear A60
  obtain ⟨ji7, hji7⟩ : ∃ j_ : Int, (mn t549 t552) = j_ := ⟨_, rfl⟩
  replace H : (some (ji7, true)) = some (r1, r2) := by first | (rw [hji7] at H; exact H) | (simp only [hji7] at H ⊢; exact H)
  (try rw [hji7] at A2)
  (try rw [hji7] at A3)
  (try rw [hji7] at A4)
  (try rw [hji7] at A6)
  have hji7_ : (if t552 < t549 then t552 else t549) = ji7 := hji7
  try (have hji7n_ := hji7_; simp only [Int.ofNat_lt] at hji7n_)
  simp only [Option.some.injEq, Prod.mk.injEq] at H
  obtain ⟨rfl, rfl⟩ := H
  go_enter Try.func61, Try.ntmps61
  go_wp2_with (first | ((with_reducible refine gate_callee (f := 73) rfl ?_); refine goesL_ (some 6) rfl rfl Try.func73 (by kernel_rfl) rfl #[.int .i64 a0, .int .i64 3027, .int .i64 12107] rfl (by (try simp only [List.map_toArray, List.map_cons, List.map_nil]); first | done | rfl | (simp only [List.length_drop, List.length_take]; rfl)) ?_; (with_reducible refine (impl_powerMod.calls k a0 3027 12107 t549 _ A2.out).mono ?_); rintro e w' ⟨rfl, ⟨nd, rfl⟩⟩; refine ⟨_, rfl, ?_⟩) | ((with_reducible refine gate_callee (f := 68) rfl ?_); refine goesL_ (some 9) rfl rfl Try.func68 (by kernel_rfl) rfl #[.int .i64 t549, .int .i64 t549] rfl (by (try simp only [List.map_toArray, List.map_cons, List.map_nil]); first | done | rfl | (simp only [List.length_drop, List.length_take]; rfl)) ?_; (with_reducible refine (impl_FpMul.calls t549 t549 t550 _ A3.out).mono ?_); rintro e w' ⟨rfl, ⟨nd, rfl⟩⟩; refine ⟨_, rfl, ?_⟩) | ((with_reducible refine gate_callee (f := 74) rfl ?_); refine goesL_ (some 11) rfl rfl Try.func74 (by kernel_rfl) rfl #[.int .i64 a0] rfl (by (try simp only [List.map_toArray, List.map_cons, List.map_nil]); first | done | rfl | (simp only [List.length_drop, List.length_take]; rfl)) ?_; (with_reducible refine (impl_FpOf.calls a0 t551 _ A4.out).mono ?_); rintro e w' ⟨rfl, ⟨nd, rfl⟩⟩; refine ⟨_, rfl, ?_⟩) | ((with_reducible refine gate_callee (f := 74) rfl ?_); refine goesL_ (some 16) rfl rfl Try.func74 (by kernel_rfl) rfl #[.int .i64 (wrap64 (-t549))] rfl (by (try simp only [List.map_toArray, List.map_cons, List.map_nil]); first | done | rfl | (simp only [List.length_drop, List.length_take]; rfl)) ?_; (with_reducible refine (impl_FpOf.calls (wrap64 (-t549)) t552 _ A6.out).mono ?_); rintro e w' ⟨rfl, ⟨nd, rfl⟩⟩; refine ⟨_, rfl, ?_⟩))
  go_ret2
  exact ⟨by first | rfl | (simp [errW_none, errW_some] <;> rfl) | (simp only [← hji7]; first | rfl | (simp [errW_none, errW_some] <;> rfl)) | (simp [*, errW_none, errW_some] <;> rfl), bZ HB⟩
 ·rw [if_neg c5] at H
  have c5b0 : (t550 == t551) = false := beq_eq_false_iff_ne.mpr c5
  have c5b1 : (t550 != t551) = true := bne_iff_ne.mpr c5
  simp only [Option.some.injEq, Prod.mk.injEq] at H
  obtain ⟨rfl, rfl⟩ := H
  go_enter Try.func61, Try.ntmps61
  go_wp2_with (first | ((with_reducible refine gate_callee (f := 73) rfl ?_); refine goesL_ (some 6) rfl rfl Try.func73 (by kernel_rfl) rfl #[.int .i64 a0, .int .i64 3027, .int .i64 12107] rfl (by (try simp only [List.map_toArray, List.map_cons, List.map_nil]); first | done | rfl | (simp only [List.length_drop, List.length_take]; rfl)) ?_; (with_reducible refine (impl_powerMod.calls k a0 3027 12107 t549 _ A2.out).mono ?_); rintro e w' ⟨rfl, ⟨nd, rfl⟩⟩; refine ⟨_, rfl, ?_⟩) | ((with_reducible refine gate_callee (f := 68) rfl ?_); refine goesL_ (some 9) rfl rfl Try.func68 (by kernel_rfl) rfl #[.int .i64 t549, .int .i64 t549] rfl (by (try simp only [List.map_toArray, List.map_cons, List.map_nil]); first | done | rfl | (simp only [List.length_drop, List.length_take]; rfl)) ?_; (with_reducible refine (impl_FpMul.calls t549 t549 t550 _ A3.out).mono ?_); rintro e w' ⟨rfl, ⟨nd, rfl⟩⟩; refine ⟨_, rfl, ?_⟩) | ((with_reducible refine gate_callee (f := 74) rfl ?_); refine goesL_ (some 11) rfl rfl Try.func74 (by kernel_rfl) rfl #[.int .i64 a0] rfl (by (try simp only [List.map_toArray, List.map_cons, List.map_nil]); first | done | rfl | (simp only [List.length_drop, List.length_take]; rfl)) ?_; (with_reducible refine (impl_FpOf.calls a0 t551 _ A4.out).mono ?_); rintro e w' ⟨rfl, ⟨nd, rfl⟩⟩; refine ⟨_, rfl, ?_⟩))
  go_ret2
  exact ⟨by first | rfl | (simp [errW_none, errW_some] <;> rfl) | (simp [*, errW_none, errW_some] <;> rfl), bZ HB⟩
/-! ### impl_PointNeg: function 63 -/
def impl_PointNeg.f (a0_0 : Int) (a0_1 : Int) (a0_2 : Bool) : Option (Int × Int × Bool) := if a0_2 = true then (some (0, 0, true)) else ((impl_FpSub.f 0 a0_1).bind fun t555 => (some (a0_0, t555, false)))
set_option maxHeartbeats 8000000 in
set_option maxRecDepth 100000 in
theorem impl_PointNeg.calls (a0_0 : Int) (a0_1 : Int) (a0_2 : Bool) (r1 : Int) (r2 : Int) (r3 : Bool) (w : World) (h : impl_PointNeg.f a0_0 a0_1 a0_2 = some (r1, r2, r3)) :
  Calls Try.prog 63 #[.agg #[.int .i64 a0_0, .int .i64 a0_1, .bool a0_2]] w fun e w' => e = .returned (.agg #[.int .i64 r1, .int .i64 r2, .bool r3]) ∧ Below w.heap.size w w' := by
 have hu48 := Try.underlying48
 have HB := Aside0.mk (Below.refl w.heap.size w)
 have H : (if a0_2 = true then (some (0, 0, true)) else ((impl_FpSub.f 0 a0_1).bind fun t555 => (some (a0_0, t555, false)))) = some (r1, r2, r3) := h
 clear h
 by_cases c2 : a0_2 = true
 ·subst c2
  have H1 : (some (0, 0, true)) = some (r1, r2, r3) := by rw [if_pos rfl] at H; exact H
  clear H
  have H := H1
  clear H1
  simp only [Option.some.injEq, Prod.mk.injEq] at H
  obtain ⟨rfl, rfl, rfl⟩ := H
  go_enter Try.func63, Try.ntmps63
  go_wp2_with (first | ((with_reducible refine gate_dst (N := 1) rfl ?_); refine box_event ?hg (N := 1) ?hd (cs := #[.int .i64 a0_0, .int .i64 a0_1, .bool true]) (t := 48) ?hr ?_; (case hd => rfl); (case hg => rfl); (case hr => first | (go_simp; done) | (go_simp; rfl)); intro gb553 hg w3 hbox hb; have BK553 := Aside0.mk (hbox); have GW553 := bG HB hg; have GE553 := bG HB hg; replace HB := bS HB hb; clear hb hbox hg) | ((with_reducible refine gate_dst (N := 2) rfl ?_); refine box_event ?hg (N := 2) ?hd (cs := #[.int .i64 0, .int .i64 0, .bool false]) (t := 48) ?hr ?_; (case hd => rfl); (case hg => rfl); (case hr => first | (go_simp; done) | (go_simp; rfl)); intro gb554 hg w4 hbox hb; have BK554 := Aside0.mk (hbox); have GW554 := bG HB hg; have GE554 := bG HB hg; replace HB := bS HB hb; have NB553_554 := bL BK553 hg; have NB554_553 := bR BK553 hg; replace BK553 := bB BK553 hb; clear hb hbox hg; have hnb5 := NB553_554.out; have hnc5 := NB554_553.out; have hcz6_0 : w4.cell? ⟨gb553, 0, none⟩ = some (.int .i64 a0_0) := bc BK553 0; have hcz6_1 : w4.cell? ⟨gb553, 1, none⟩ = some (.int .i64 a0_1) := bc BK553 1; have hcz6_2 : w4.cell? ⟨gb553, 2, none⟩ = some (.bool true) := bc BK553 2; have hfz6_0 := blk_frozen BK553.out 0; have hfz6_1 := blk_frozen BK553.out 1; have hfz6_2 := blk_frozen BK553.out 2; have hcz7_0 : w4.cell? ⟨gb554, 0, none⟩ = some (.int .i64 0) := bc BK554 0; have hcz7_1 : w4.cell? ⟨gb554, 1, none⟩ = some (.int .i64 0) := bc BK554 1; have hcz7_2 : w4.cell? ⟨gb554, 2, none⟩ = some (.bool false) := bc BK554 2; have hfz7_0 := blk_frozen BK554.out 0; have hfz7_1 := blk_frozen BK554.out 1; have hfz7_2 := blk_frozen BK554.out 2))
  refine bodyPost_ret (results_cell_row rfl _ _ gb554 48 #[.int .i64 0, .int .i64 0, .bool true] (0, 0) _ rfl (by (with_reducible repeat (first | refine blk_drewN ?_ _ | refine blk_drew ?_ | refine blk_alloc ?_ _)); refine blk_put (cs := #[.int .i64 0, .int .i64 0, .bool false]) ?_ 2 _ rfl; (with_reducible repeat (first | refine blk_drewN ?_ _ | refine blk_drew ?_ | refine blk_alloc ?_ _)); refine blk_put (cs := #[.int .i64 0, .int .i64 0, .bool false]) ?_ 1 _ rfl; (with_reducible repeat (first | refine blk_drewN ?_ _ | refine blk_drew ?_ | refine blk_alloc ?_ _)); refine blk_put (cs := #[.int .i64 0, .int .i64 0, .bool false]) ?_ 0 _ rfl; (with_reducible repeat (first | refine blk_drewN ?_ _ | refine blk_drew ?_ | refine blk_alloc ?_ _)); exact BK554.out) Try.underlying48 rfl (by kernel_rfl)) rfl ?_
  exact ⟨by first | rfl | (simp [errW_none, errW_some] <;> rfl) | (simp [*, errW_none, errW_some] <;> rfl), bZ HB⟩
 ·replace c2 := Bool.eq_false_iff.mpr c2
  subst c2
  have H1 : ((impl_FpSub.f 0 a0_1).bind fun t555 => (some (a0_0, t555, false))) = some (r1, r2, r3) := by rw [if_neg (show ¬ (false = true) by decide)] at H; exact H
  clear H
  have H := H1
  clear H1
  replace H := Option.bind_eq_some_iff.mp H
  obtain ⟨t555, A80, H⟩ := H
  replace H : (some (a0_0, t555, false)) = some (r1, r2, r3) := H
  have A8 := Aside0.mk A80
  clear A80
  simp only [Option.some.injEq, Prod.mk.injEq] at H
  obtain ⟨rfl, rfl, rfl⟩ := H
  go_enter Try.func63, Try.ntmps63
  try go_wp2_with (first | ((with_reducible refine gate_dst (N := 1) rfl ?_); refine box_event ?hg (N := 1) ?hd (cs := #[.int .i64 a0_0, .int .i64 a0_1, .bool false]) (t := 48) ?hr ?_; (case hd => rfl); (case hg => rfl); (case hr => first | (go_simp; done) | (go_simp; rfl)); intro gb553 hg w9 hbox hb; have BK553 := Aside0.mk (hbox); have GW553 := bG HB hg; have GE553 := bG HB hg; replace HB := bS HB hb; clear hb hbox hg) | ((with_reducible refine gate_dst (N := 2) rfl ?_); refine box_event ?hg (N := 2) ?hd (cs := #[.int .i64 0, .int .i64 0, .bool false]) (t := 48) ?hr ?_; (case hd => rfl); (case hg => rfl); (case hr => first | (go_simp; done) | (go_simp; rfl)); intro gb554 hg w10 hbox hb; have BK554 := Aside0.mk (hbox); have GW554 := bG HB hg; have GE554 := bG HB hg; replace HB := bS HB hb; have NB553_554 := bL BK553 hg; have NB554_553 := bR BK553 hg; replace BK553 := bB BK553 hb; clear hb hbox hg; have hnb11 := NB553_554.out; have hnc11 := NB554_553.out; have hcz12_0 : w10.cell? ⟨gb553, 0, none⟩ = some (.int .i64 a0_0) := bc BK553 0; have hcz12_1 : w10.cell? ⟨gb553, 1, none⟩ = some (.int .i64 a0_1) := bc BK553 1; have hcz12_2 : w10.cell? ⟨gb553, 2, none⟩ = some (.bool false) := bc BK553 2; have hfz12_0 := blk_frozen BK553.out 0; have hfz12_1 := blk_frozen BK553.out 1; have hfz12_2 := blk_frozen BK553.out 2))
  replace BK553 := Aside0.mk (blk_drew BK553.out)
  replace BK554 := Aside0.mk (blk_drew BK554.out)
  replace HB := Aside0.mk (below_drew1 HB.out)
  refine start_ (n := 7) (S := fun w' => w'.cell? ⟨gb553, 0, none⟩ = some (.int .i64 a0_0) ∧ w'.cell? ⟨gb553, 1, none⟩ = some (.int .i64 a0_1) ∧ w'.cell? ⟨gb553, 2, none⟩ = some (.bool false)) (ds := []) #[false, false, false, false, false, false, false] (by kernel_rfl) rfl rfl ⟨bc BK553 0, bc BK553 1, bc BK553 2⟩ (fun hHeld => ?_)
  generalize w10.drew = w13 at BK553 BK554 HB hHeld ⊢
  refine pure_ (i := 0) (N := some 6) (v := ?_) (a' := ?_) #[true, false, false, false, false, false, false] rfl rfl (by kernel_rfl) (fun _ _ _ h => h) (Or.inl ⟨by rfl, ?_⟩) ?_ ?_
  rotate_left
  ·intro w'
   go_simp
   with_reducible rfl
  rotate_left
  ·simp only [Act.put, List.setIfInBounds_toArray, List.set_cons_zero, List.set_cons_succ, i64_w, i32_w]
   rfl
  refine pure_ (i := 2) (N := some 8) (v := ?_) (a' := ?_) #[true, false, true, false, false, false, false] rfl rfl (by kernel_rfl) (fun _ _ _ h => h) (Or.inl ⟨by rfl, ?_⟩) ?_ ?_
  rotate_left
  ·intro w'
   go_simp
   with_reducible rfl
  rotate_left
  ·simp only [Act.put, List.setIfInBounds_toArray, List.set_cons_zero, List.set_cons_succ, i64_w, i32_w]
   rfl
  refine take_ (i := 1) (N := some 7) (v := ?_) (a' := ?_) #[true, true, true, false, false, false, false] rfl rfl (by kernel_rfl) (fun _ _ _ h => h) (Or.inl ⟨by rfl, ?_⟩) hHeld ?_ ?_
  rotate_left
  ·rintro w' ⟨s0, s1, s2⟩
   go_simp
   with_reducible rfl
  rotate_left
  ·simp only [Act.put, List.setIfInBounds_toArray, List.set_cons_zero, List.set_cons_succ, i64_w, i32_w]
   rfl
  refine take_ (i := 3) (N := some 9) (v := ?_) (a' := ?_) #[true, true, true, true, false, false, false] rfl rfl (by kernel_rfl) (fun _ _ _ h => h) (Or.inl ⟨by rfl, ?_⟩) hHeld ?_ ?_
  rotate_left
  ·rintro w' ⟨s0, s1, s2⟩
   go_simp
   with_reducible rfl
  rotate_left
  ·simp only [Act.put, List.setIfInBounds_toArray, List.set_cons_zero, List.set_cons_succ, i64_w, i32_w]
   rfl
  refine one_ (i := 4) (N := some 10) #[true, true, true, true, true, false, false] rfl rfl (by kernel_rfl) (by decide) (fun K hK => ?_)
  refine goes_ Try.func76 (by kernel_rfl) rfl #[.int .i64 0, .int .i64 a0_1] (by rfl) rfl rfl (by (try simp only [List.map_toArray, List.map_cons, List.map_nil]); first | done | rfl | (simp only [List.length_drop, List.length_take]; rfl)) ?_
  with_reducible refine (impl_FpSub.calls 0 a0_1 t555 _ A8.out).mono ?_
  rintro e w' ⟨rfl, ⟨nd, rfl⟩⟩
  refine ⟨_, rfl, ?_⟩
  refine hK.out _ _ ⟨bc BK553 0, bc BK553 1, bc BK553 2⟩ (fun hHeld => ?_)
  clear hK K
  refine norm_ (a' := ?_) ?_ ?_
  rotate_left
  ·show Act.put _ (some 10) _ = _
   simp only [Act.put, List.setIfInBounds_toArray, List.set_cons_zero, List.set_cons_succ, i64_w, i32_w]
   rfl
  refine pure_ (i := 5) (N := some 11) (v := ?_) (a' := ?_) #[true, true, true, true, true, true, false] rfl rfl (by kernel_rfl) (fun _ _ _ h => h) (Or.inl ⟨by rfl, ?_⟩) ?_ ?_
  rotate_left
  ·intro w'
   go_simp
   with_reducible rfl
  rotate_left
  ·simp only [Act.put, List.setIfInBounds_toArray, List.set_cons_zero, List.set_cons_succ, i64_w, i32_w]
   rfl
  refine one_ (i := 6) (N := none) #[true, true, true, true, true, true, true] rfl rfl (by kernel_rfl) (by decide) (fun K hK => ?_)
  have hs14 : w13.cell? ⟨gb554, 0, none⟩ = some (.int .i64 0) := bc BK554 0
  have hfs14 := blk_frozen BK554.out 0
  have hns14_0 := NB553_554.out
  have hms14_0 := NB554_553.out
  have hs15 : w13.cell? ⟨gb554, 1, none⟩ = some (.int .i64 0) := bc BK554 1
  have hfs15 := blk_frozen BK554.out 1
  have hns15_0 := NB553_554.out
  have hms15_0 := NB554_553.out
  have hs16 : w13.cell? ⟨gb554, 2, none⟩ = some (.bool false) := bc BK554 2
  have hfs16 := blk_frozen BK554.out 2
  have hns16_0 := NB553_554.out
  have hms16_0 := NB554_553.out
  refine skip_ (w1 := ?_) (by rfl) rfl ?_ ?_
  rotate_left
  ·go_simp
   rfl
  refine hK.out _ _ ⟨((cell_far (p := ⟨gb554, _, none⟩) NB553_554.out _).trans (((cell_far (p := ⟨gb554, _, none⟩) NB553_554.out _).trans (((cell_far (p := ⟨gb554, _, none⟩) NB553_554.out _).trans (hHeld.1)))))), ((cell_far (p := ⟨gb554, _, none⟩) NB553_554.out _).trans (((cell_far (p := ⟨gb554, _, none⟩) NB553_554.out _).trans (((cell_far (p := ⟨gb554, _, none⟩) NB553_554.out _).trans (hHeld.2.1)))))), ((cell_far (p := ⟨gb554, _, none⟩) NB553_554.out _).trans (((cell_far (p := ⟨gb554, _, none⟩) NB553_554.out _).trans (((cell_far (p := ⟨gb554, _, none⟩) NB553_554.out _).trans (hHeld.2.2))))))⟩ (fun hHeld => ?_)
  clear hK K
  refine done_ (by kernel_rfl) ?_
  try go_wp2
  refine bodyPost_ret (results_cell_row rfl _ _ gb554 48 #[.int .i64 a0_0, .int .i64 t555, .bool false] (0, 0) _ rfl (by (with_reducible repeat (first | refine blk_drewN ?_ _ | refine blk_drew ?_ | refine blk_alloc ?_ _)); refine blk_put (cs := #[.int .i64 a0_0, .int .i64 t555, .bool false]) ?_ 2 _ rfl; (with_reducible repeat (first | refine blk_drewN ?_ _ | refine blk_drew ?_ | refine blk_alloc ?_ _)); refine blk_put (cs := #[.int .i64 a0_0, .int .i64 0, .bool false]) ?_ 1 _ rfl; (with_reducible repeat (first | refine blk_drewN ?_ _ | refine blk_drew ?_ | refine blk_alloc ?_ _)); refine blk_put (cs := #[.int .i64 0, .int .i64 0, .bool false]) ?_ 0 _ rfl; (with_reducible repeat (first | refine blk_drewN ?_ _ | refine blk_drew ?_ | refine blk_alloc ?_ _)); exact BK554.out) Try.underlying48 rfl (by kernel_rfl)) rfl ?_
  exact ⟨by first | rfl | (simp [errW_none, errW_some] <;> rfl) | (simp [*, errW_none, errW_some] <;> rfl), bZ HB⟩
end Go.Proofs.Ytogcobdgnkiopaa.Pf
end
