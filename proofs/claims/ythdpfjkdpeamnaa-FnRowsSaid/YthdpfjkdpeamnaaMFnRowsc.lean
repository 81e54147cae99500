/- What is proved here: part 3 of 6 of the proof of the given statement FnRows: the contracts of the Go functions that it reaches, the plain facts on lists and numbers, and (in the last part) the statement itself. No conditions beyond the given ones. -/
import Derived.Test.YthdpfjkdpeamnaaMFnRowswSlim
import Derived.Test.YthdpfjkdpeamnaaMFnRowsa
import Derived.Test.YthdpfjkdpeamnaaMFnRowsb

section
namespace Go.Proofs.Ythdpfjkdpeamnaa.Pf
open Go.RowKit Go.Proofs.YthdpfjkdpeamnaaW.PrintWords Go.Proofs.YthdpfjkdpeamnaaW.PrintLast Go.Proofs.YthdpfjkdpeamnaaW.PrintMore
attribute [local go_sem] max2_int min2_int max_two min_two max_three min_three max_four min_four
set_option linter.unusedVariables false
set_option linter.unusedSimpArgs false
set_option maxHeartbeats 8000000
set_option maxRecDepth 100000
mutual
def spec_CountSystem.l0 : Nat → Int → Int → Int → Int → List (S75) → Option (Int × Int × (List (S75)))
 | 0, _, _, _, _, _ => none
 | k + 1, x1, x3, x289000, x289001, x289002 => if x3 < 8 then ((spec_l13Row.f x1).bind fun bt289 => (if 0 ≤ (wrap64 (3 + x3)) then (if (wrap64 (3 + x3)) < (bt289.1.length : Int) then (if (wrap64 (3 + x3)) < (bt289.2.1.length : Int) then (if (wrap64 (3 + x3)) < (bt289.2.2.length : Int) then (if x289002.length < 1954687338268 then (spec_CountSystem.l0 k x1 (wrap64 (x3 + 1)) x289000 x289001 (x289002 ++ [(⟨(bt289.1.set ((wrap64 (3 + x3)) : Int).toNat 1), (bt289.2.1.set ((wrap64 (3 + x3)) : Int).toNat 1), (bt289.2.2.set ((wrap64 (3 + x3)) : Int).toNat 1)⟩ : S75)])) else (none)) else (none)) else (none)) else (none)) else (none))) else ((spec_l13Row.f x1).bind fun bt305 => ((spec_l13Row.f x1).bind fun bt315 => (if 0 < (bt305.1.length : Int) then (if 0 < (bt315.1.length : Int) then (spec_CountSystem.l1 k 0 x289000 x289001 x289002 (bt305.1.set (0 : Int).toNat 1) bt305.2.1 bt305.2.2 (bt315.1.set (0 : Int).toNat 1) bt315.2.1 bt315.2.2) else (none)) else (none))))
def spec_CountSystem.l1 : Nat → Int → Int → Int → List (S75) → List Int → List Int → List Int → List Int → List Int → List Int → Option (Int × Int × (List (S75)))
 | 0, _, _, _, _, _, _, _, _, _, _ => none
 | k + 1, x7, x289000, x289001, x289002, x315000, x315001, x315002, x325000, x325001, x325002 => if x7 < 8 then (if 0 ≤ (IntKind.u64.wrap (x7)) then (if 0 ≤ (wrap64 (3 + x7)) then (if (wrap64 (3 + x7)) < (x315001.length : Int) then (if (wrap64 (3 + x7)) < (x325001.length : Int) then (spec_CountSystem.l1 k (wrap64 (x7 + 1)) x289000 x289001 x289002 x315000 (x315001.set ((wrap64 (3 + x7)) : Int).toNat (shl .i64 1 (IntKind.u64.wrap (x7)))) x315002 x325000 (x325001.set ((wrap64 (3 + x7)) : Int).toNat 1) x325002) else (none)) else (none)) else (none)) else (none)) else (if 1 < (x315002.length : Int) then (if 2 < (x325002.length : Int) then ((some (([(⟨x315000, x315001, (x315002.set (1 : Int).toNat 1)⟩ : S75), (⟨x325000, x325001, (x325002.set (2 : Int).toNat 1)⟩ : S75)] : List (S75)) : List (S75))).bind fun y331 => (if x289002.length + y331.length < 1954687338268 then (some (x289000, x289001, (x289002 ++ y331))) else (none))) else (none)) else (none))
end
def spec_CountSystem.f (k : Nat)  : Option (Int × Int × (List (S75))) := spec_CountSystem.l0 k 11 0 11 2 ([] : List (S75))
theorem spec_CountSystem.mono_l : ∀ k, (∀ y0 y1 y2 y3 y4, LeO (spec_CountSystem.l0 k y0 y1 y2 y3 y4) (spec_CountSystem.l0 (k + 1) y0 y1 y2 y3 y4)) ∧ (∀ y0 y1 y2 y3 y4 y5 y6 y7 y8 y9, LeO (spec_CountSystem.l1 k y0 y1 y2 y3 y4 y5 y6 y7 y8 y9) (spec_CountSystem.l1 (k + 1) y0 y1 y2 y3 y4 y5 y6 y7 y8 y9))
 | 0 => ⟨fun _ _ _ _ _ r h => by simp [spec_CountSystem.l0] at h, fun _ _ _ _ _ _ _ _ _ _ r h => by simp [spec_CountSystem.l1] at h⟩
 | k + 1 => by
  obtain ⟨ih0, ih1⟩ := spec_CountSystem.mono_l k
  refine ⟨?_, ?_⟩
  ·intro y0 y1 y2 y3 y4
   unfold spec_CountSystem.l0
   with_reducible repeat' first | exact ih0 _ _ _ _ _ | exact ih1 _ _ _ _ _ _ _ _ _ _ | exact LeO.refl _ | exact LeO.none _ | refine LeO.ite ?_ ?_ | refine LeO.bind ?_ (fun _ => ?_)
  ·intro y0 y1 y2 y3 y4 y5 y6 y7 y8 y9
   unfold spec_CountSystem.l1
   with_reducible repeat' first | exact ih0 _ _ _ _ _ | exact ih1 _ _ _ _ _ _ _ _ _ _ | exact LeO.refl _ | exact LeO.none _ | refine LeO.ite ?_ ?_ | refine LeO.bind ?_ (fun _ => ?_)
theorem spec_CountSystem.mono : ∀ k, LeO (spec_CountSystem.f k ) (spec_CountSystem.f (k + 1) ) := by
 intro  k
 obtain ⟨ih0, ih1⟩ := spec_CountSystem.mono_l k
 unfold spec_CountSystem.f
 with_reducible repeat' first | exact ih0 _ _ _ _ _ | exact ih1 _ _ _ _ _ _ _ _ _ _ | exact LeO.refl _ | exact LeO.none _ | refine LeO.ite ?_ ?_ | refine LeO.bind ?_ (fun _ => ?_)
theorem spec_CountSystem.calls (k : Nat)  (r1 : Int) (r2 : Int) (r3 : List (S75)) (w : World) (h : spec_CountSystem.f k  = some (r1, r2, r3)) :
  Calls Try.prog 37 #[] w fun e w' => ∃ v2_ : Value, e = .returned (.agg #[.int .i64 r1, .int .i64 r2, v2_]) ∧ Kd.N k75 75 w' w.heap.size (fun k_ => (w.heap.size ≤ k_)) v2_ r3 ∧ Below w.heap.size w w' := by
 have hu43 := Try.underlying43
 have hu75 := Try.underlying75
 have HB := Aside0.mk (Below.refl w.heap.size w)
 have H : (spec_CountSystem.l0 k 11 0 11 2 ([] : List (S75))) = some (r1, r2, r3) := h
 clear h
 have H' := Aside0.mk H
 clear H
 go_enter Try.func37, Try.ntmps37
 go_wp2_with (first | (refine gB 0 #[.int .i64 0, .int .i64 0, .slice none 0 0] 43 ?_; intro gb287 hg w1 BK287 hb; have GW287 := bG HB hg; replace HB := bS HB hb; clear hb hg) | (refine gB 2 #[.int .i64 0, .int .i64 0, .slice none 0 0] 43 ?_; intro gb288 hg w2 BK288 hb; have GW288 := bG HB hg; replace HB := bS HB hb; obtain ⟨NB287_288, NB288_287⟩ := bN BK287 hg; replace BK287 := bB BK287 hb; clear hb hg; obtain ⟨hnb3, hnc3⟩ := nB NB288_287; obtain ⟨hcz4_0, hcz4_1, hcz4_2, hfz4_0, hfz4_1, hfz4_2⟩ := bK3 (w := w2) BK288))
 go_loopg [3] k (fun kq v3 w' => ∃ (x3_1 : Int) (x289002_1 : List (S75)) (u289002 : Value), v3 = .int .i64 x3_1 ∧ Aside0 (spec_CountSystem.l0 kq 11 x3_1 11 2 x289002_1 = some (r1, r2, r3)) ∧ Aside0 (kq ≤ k) ∧ Aside0 (Kd.N k75 75 w' w.heap.size (fun k_ => (w.heap.size ≤ k_) ∧ k_ ≠ gb287 ∧ k_ ≠ gb288) u289002 x289002_1) ∧ Aside0 (w'.heap[gb287]? = some (.cells #[.int .i64 0, .int .i64 0, (.slice none 0 0)] 43 (0, 0))) ∧ Aside0 (w'.heap[gb288]? = some (.cells #[.int .i64 11, .int .i64 2, u289002] 43 (0, 0))) ∧ Aside0 (Below w.heap.size w w'))
 case atStart => exact ⟨(0), (([] : List (S75))), (.slice none 0 0), rS, H', ⟨Nat.le_refl _⟩, ⟨by first | exact Kd.S_nil _ _ _ _ _ | exact Kd.N_nil _ _ _ _ _ | exact Kd.V_nil _ _ _ _ _ | exact Kd.Q_nil _ _ _ _ _ | exact Kd.R_nil _ _ _ _ _⟩, ⟨bP BK287⟩, ⟨bU BK288⟩, ⟨bZ HB⟩⟩
 case round =>
  clear H'
  try clear p2
  try clear c3
  try clear hcz4_0
  try clear hcz4_1
  try clear hcz4_2
  try clear hfz4_0
  try clear hfz4_1
  try clear hfz4_2
  obtain ⟨x3_1, x289002_1, u289002, rfl, HA, HK1, HO_289002, BK287, BK288, HB⟩ := hrel
  cases gk with
  | zero => exact absurd HA.out (by simp [spec_CountSystem.l0])
  | succ k1 =>
   have H := HA.out
   clear HA
   simp only [spec_CountSystem.l0] at H
   by_cases c5 : x3_1 < 8
   ·rw [if_pos c5] at H
    have c5b0 := decide_eq_true c5
    clear c5
    replace H := Option.bind_eq_some_iff.mp H
    obtain ⟨⟨t289, t292, t295⟩, A60, H⟩ := H
    have A6 := Aside0.mk A60
    clear A60
    obtain ⟨ji7, hji7⟩ : ∃ j_ : Int, (wrap64 (3 + x3_1)) = j_ := ⟨_, rfl⟩
    replace H : (if 0 ≤ (ji7) then (if (ji7) < (t289.length : Int) then (if (ji7) < (t292.length : Int) then (if (ji7) < (t295.length : Int) then (if x289002_1.length < 1954687338268 then (spec_CountSystem.l0 k1 11 (wrap64 (x3_1 + 1)) 11 2 (x289002_1 ++ [(⟨(t289.set ((ji7) : Int).toNat 1), (t292.set ((ji7) : Int).toNat 1), (t295.set ((ji7) : Int).toNat 1)⟩ : S75)])) else (none)) else (none)) else (none)) else (none)) else (none)) = some (r1, r2, r3) := by first | (rw [hji7] at H; exact H) | (simp only [hji7] at H ⊢; exact H)
    (try rw [hji7] at A6)
    have hji7w : (IntKind.i64.wrap (3 + x3_1)) = ji7 := (i64_w _).trans hji7
    by_cases c8 : 0 ≤ (ji7)
    ·rw [if_pos c8] at H
     have c8b0 := decide_eq_true c8
     clear c8
     by_cases c9 : (ji7) < (t289.length : Int)
     ·rw [if_pos c9] at H
      have c9b0 := decide_eq_true c9
      clear c9
      obtain ⟨y299, hy299⟩ : ∃ y_ : List Int, y_ = (t289.set ((ji7) : Int).toNat 1) := ⟨_, rfl⟩
      replace H : (if (ji7) < (t292.length : Int) then (if (ji7) < (t295.length : Int) then (if x289002_1.length < 1954687338268 then (spec_CountSystem.l0 k1 11 (wrap64 (x3_1 + 1)) 11 2 (x289002_1 ++ [(⟨y299, (t292.set ((ji7) : Int).toNat 1), (t295.set ((ji7) : Int).toNat 1)⟩ : S75)])) else (none)) else (none)) else (none)) = some (r1, r2, r3) := by first | (rw [hy299]; with_reducible exact H) | (have H2_ := (Option.bind_some _ _).symm.trans H; rw [hy299]; with_reducible exact H2_) | (have H2_ := (Option.bind_some _ _).symm.trans H; with_reducible exact H2_) | with_reducible exact H | (rw [hy299]; exact H) | exact H
      have Ny299 := Aside0.mk hy299
      clear hy299
      by_cases c11 : (ji7) < (t292.length : Int)
      ·rw [if_pos c11] at H
       have c11b0 := decide_eq_true c11
       clear c11
       obtain ⟨y300, hy300⟩ : ∃ y_ : List Int, y_ = (t292.set ((ji7) : Int).toNat 1) := ⟨_, rfl⟩
       replace H : (if (ji7) < (t295.length : Int) then (if x289002_1.length < 1954687338268 then (spec_CountSystem.l0 k1 11 (wrap64 (x3_1 + 1)) 11 2 (x289002_1 ++ [(⟨y299, y300, (t295.set ((ji7) : Int).toNat 1)⟩ : S75)])) else (none)) else (none)) = some (r1, r2, r3) := by first | (rw [hy300]; with_reducible exact H) | (have H2_ := (Option.bind_some _ _).symm.trans H; rw [hy300]; with_reducible exact H2_) | (have H2_ := (Option.bind_some _ _).symm.trans H; with_reducible exact H2_) | with_reducible exact H | (rw [hy300]; exact H) | exact H
       have Ny300 := Aside0.mk hy300
       clear hy300
       by_cases c13 : (ji7) < (t295.length : Int)
       ·rw [if_pos c13] at H
        have c13b0 := decide_eq_true c13
        clear c13
        obtain ⟨y301, hy301⟩ : ∃ y_ : List Int, y_ = (t295.set ((ji7) : Int).toNat 1) := ⟨_, rfl⟩
        replace H : (if x289002_1.length < 1954687338268 then (spec_CountSystem.l0 k1 11 (wrap64 (x3_1 + 1)) 11 2 (x289002_1 ++ [(⟨y299, y300, y301⟩ : S75)])) else (none)) = some (r1, r2, r3) := by first | (rw [hy301]; with_reducible exact H) | (have H2_ := (Option.bind_some _ _).symm.trans H; rw [hy301]; with_reducible exact H2_) | (have H2_ := (Option.bind_some _ _).symm.trans H; with_reducible exact H2_) | with_reducible exact H | (rw [hy301]; exact H) | exact H
        have Ny301 := Aside0.mk hy301
        clear hy301
        by_cases c15 : x289002_1.length < 1954687338268
        ·rw [if_pos c15] at H
         have LMc15 := Aside0.mk c15
         clear c15
         obtain ⟨y302, hy302⟩ : ∃ y_ : List (S75), y_ = (x289002_1 ++ [(⟨y299, y300, y301⟩ : S75)]) := ⟨_, rfl⟩
         replace H : (spec_CountSystem.l0 k1 11 (wrap64 (x3_1 + 1)) 11 2 y302) = some (r1, r2, r3) := by first | (rw [hy302]; with_reducible exact H) | (have H2_ := (Option.bind_some _ _).symm.trans H; rw [hy302]; with_reducible exact H2_) | (have H2_ := (Option.bind_some _ _).symm.trans H; with_reducible exact H2_) | with_reducible exact H | (rw [hy302]; exact H) | exact H
         have Ny302 := Aside0.mk hy302
         clear hy302
         have H' := Aside0.mk H
         clear H
         go_wp2_with (first | (refine gC (some 15) Try.func66 #[.int .i64 11] ?_; (with_reducible refine (spec_l13Row.calls 11 t289 t292 t295 _ A6.out).mono ?_); rintro e w16 ⟨v290, v293, v296, rfl, ho0, ho1, ho2, hb⟩; refine ⟨_, rfl, ?_⟩; replace HO_289002 := Aside0.mk (Kd.N_mono (Kd.N_told (Kd.N_told (Kd.N_told (Kd.N_old (by (with_reducible repeat (first | apply Kd.N_alloc | apply Kd.N_drewN | apply Kd.N_drew)); exact HO_289002.out) hb) (Kd.R_base ho0)) (Kd.R_base ho1)) (Kd.R_base ho2)) (fun _ h_ => h_.1)); have HO291 := Aside0.mk (Kd.R_lower (Kd.R_newM (M := fun k_ => (w.heap.size ≤ k_)) ho0 (below_size (bZ HB)) (fun k_ h_ => h_)) (below_size (bZ HB))); have HO294 := Aside0.mk (Kd.R_lower (Kd.R_newM (M := fun k_ => (w.heap.size ≤ k_)) ho1 (below_size (bZ HB)) (fun k_ h_ => h_)) (below_size (bZ HB))); have HO297 := Aside0.mk (Kd.R_lower (Kd.R_newM (M := fun k_ => (w.heap.size ≤ k_)) ho2 (below_size (bZ HB)) (fun k_ h_ => h_)) (below_size (bZ HB))); replace BK287 := bB BK287 hb; replace BK288 := bB BK288 hb; replace HB := bS HB hb; (try clear hb); (try clear ho0); (try clear ho1); (try clear ho2)) | ((with_reducible refine gate_dst (N := 4) rfl ?_); refine bE 4 #[.slice none 0 0, .slice none 0 0, .slice none 0 0] 75 ?_; intro gb298 hg w17 hbox hb; replace HO_289002 := Aside0.mk (Kd.N_below (Kd.N_elderB (by (with_reducible repeat (first | apply Kd.N_alloc | apply Kd.N_drewN | apply Kd.N_drew)); exact HO_289002.out) gb298 (Nat.le_of_eq hg.symm)) hb); replace HO291 := Aside0.mk (Kd.R_below (rP HO291) hb); replace HO294 := Aside0.mk (Kd.R_below (rP HO294) hb); replace HO297 := Aside0.mk (Kd.R_below (rP HO297) hb); have BK298 := Aside0.mk (hbox); have GW298 := bG HB hg; replace HB := bS HB hb; obtain ⟨NB287_298, NB298_287⟩ := bN BK287 hg; replace BK287 := bB BK287 hb; obtain ⟨NB288_298, NB298_288⟩ := bN BK288 hg; replace BK288 := bB BK288 hb; clear hb hbox hg; obtain ⟨Ao18, co18, eo18⟩ := Kd.R_slice HO291.out; subst eo18; obtain ⟨hnb19, hnc19⟩ := nB NB298_287; obtain ⟨hnb20, hnc20⟩ := nB NB298_288; obtain ⟨hcz21_0, hcz21_1, hcz21_2, hfz21_0, hfz21_1, hfz21_2⟩ := bK3 (w := w17) BK298; obtain ⟨Ao22, co22, eo22⟩ := Kd.R_slice HO294.out; subst eo22; obtain ⟨Ao23, co23, eo23⟩ := Kd.R_slice HO297.out; subst eo23) | ((with_reducible refine gate_store (t := 75) (p := 4) rfl ?_); refine store_event (t := 75) (p := 4) (v := ?vo_w24) (w1 := (((w17.setCell ⟨gb298, 0, none⟩ (.slice Ao18 t289.length co18)).setCell ⟨gb298, 1, none⟩ (.slice Ao22 t292.length co22)).setCell ⟨gb298, 2, none⟩ (.slice Ao23 t295.length co23))) ?hg ?ho ?hn ?hr ?_; (case ho => rfl); (case hg => rfl); (case hn => rfl); (case hr => first | (go_simp; done) | (go_simp; rfl)); intro w24 hw; replace HO_289002 : Aside0 (Kd.N k75 75 w24 w.heap.size (fun k_ => (w.heap.size ≤ k_) ∧ some k_ ≠ (.slice Ao18 t289.length co18 : Value).ownBlock ∧ some k_ ≠ (.slice Ao22 t292.length co22 : Value).ownBlock ∧ some k_ ≠ (.slice Ao23 t295.length co23 : Value).ownBlock ∧ k_ ≠ gb287 ∧ k_ ≠ gb288 ∧ k_ ≠ gb298) u289002 x289002_1) := ⟨(by rw [hw]; exact (by (with_reducible repeat (first | apply Kd.N_alloc | apply Kd.N_drewN | apply Kd.N_drew)); exact Kd.N_mono (Kd.N_far (p := ⟨gb298, 2, none⟩) (Kd.N_far (p := ⟨gb298, 1, none⟩) (Kd.N_far (p := ⟨gb298, 0, none⟩) (Kd.N_mono HO_289002.out (fun k_ hk => (⟨hk, hk.2⟩ : _ ∧ k_ ≠ gb298))) (fun _ hk => hk.2) (.slice Ao18 t289.length co18)) (fun _ hk => hk.2) (.slice Ao22 t292.length co22)) (fun _ hk => hk.2) (.slice Ao23 t295.length co23)) (fun _ hk => ⟨hk.1.1.1.1.1.1, ⟨hk.1.1.1.1.2, ⟨hk.1.1.1.2, ⟨hk.1.1.2, ⟨hk.1.1.1.1.1.2.1, ⟨hk.1.1.1.1.1.2.2, hk.1.2⟩⟩⟩⟩⟩⟩)))⟩; replace HO291 : Aside0 (Kd.R (Kd.int .i64) 3 w24 w.heap.size (fun k_ => (w.heap.size ≤ k_) ∧ some k_ ≠ (.slice Ao22 t292.length co22 : Value).ownBlock ∧ some k_ ≠ (.slice Ao23 t295.length co23 : Value).ownBlock) (.slice Ao18 t289.length co18) t289) := ⟨(by rw [hw]; exact (by (with_reducible repeat (first | apply Kd.R_alloc | apply Kd.R_drewN | apply Kd.R_drew)); exact Kd.R_mono (Kd.R_far (p := ⟨gb298, 2, none⟩) (Kd.R_far (p := ⟨gb298, 1, none⟩) (Kd.R_far (p := ⟨gb298, 0, none⟩) (Kd.R_types HO291.out BK298.out (by decide)) (fun _ hk => hk.2) (.slice Ao18 t289.length co18)) (fun _ hk => hk.2) (.slice Ao22 t292.length co22)) (fun _ hk => hk.2) (.slice Ao23 t295.length co23)) (fun _ hk => ⟨hk.1.1, ⟨hk.1.2.1, hk.1.2.2⟩⟩)))⟩; replace HO294 : Aside0 (Kd.R (Kd.int .i64) 3 w24 w.heap.size (fun k_ => (w.heap.size ≤ k_) ∧ some k_ ≠ (.slice Ao18 t289.length co18 : Value).ownBlock ∧ some k_ ≠ (.slice Ao23 t295.length co23 : Value).ownBlock) (.slice Ao22 t292.length co22) t292) := ⟨(by rw [hw]; exact (by (with_reducible repeat (first | apply Kd.R_alloc | apply Kd.R_drewN | apply Kd.R_drew)); exact Kd.R_mono (Kd.R_far (p := ⟨gb298, 2, none⟩) (Kd.R_far (p := ⟨gb298, 1, none⟩) (Kd.R_far (p := ⟨gb298, 0, none⟩) (Kd.R_types HO294.out BK298.out (by decide)) (fun _ hk => hk.2) (.slice Ao18 t289.length co18)) (fun _ hk => hk.2) (.slice Ao22 t292.length co22)) (fun _ hk => hk.2) (.slice Ao23 t295.length co23)) (fun _ hk => ⟨hk.1.1, ⟨hk.1.2.1, hk.1.2.2⟩⟩)))⟩; replace HO297 : Aside0 (Kd.R (Kd.int .i64) 3 w24 w.heap.size (fun k_ => (w.heap.size ≤ k_) ∧ some k_ ≠ (.slice Ao18 t289.length co18 : Value).ownBlock ∧ some k_ ≠ (.slice Ao22 t292.length co22 : Value).ownBlock) (.slice Ao23 t295.length co23) t295) := ⟨(by rw [hw]; exact (by (with_reducible repeat (first | apply Kd.R_alloc | apply Kd.R_drewN | apply Kd.R_drew)); exact Kd.R_mono (Kd.R_far (p := ⟨gb298, 2, none⟩) (Kd.R_far (p := ⟨gb298, 1, none⟩) (Kd.R_far (p := ⟨gb298, 0, none⟩) (Kd.R_types HO297.out BK298.out (by decide)) (fun _ hk => hk.2) (.slice Ao18 t289.length co18)) (fun _ hk => hk.2) (.slice Ao22 t292.length co22)) (fun _ hk => hk.2) (.slice Ao23 t295.length co23)) (fun _ hk => ⟨hk.1.1, ⟨hk.1.2.1, hk.1.2.2⟩⟩)))⟩; replace BK287 : Aside0 (w24.heap[gb287]? = some (.cells #[.int .i64 0, .int .i64 0, .slice none 0 0] 43 (0, 0))) := ⟨(by rw [hw]; exact (bP BK287))⟩; replace BK288 : Aside0 (w24.heap[gb288]? = some (.cells #[.int .i64 11, .int .i64 2, u289002] 43 (0, 0))) := ⟨(by rw [hw]; exact (bP BK288))⟩; replace BK298 : Aside0 (w24.heap[gb298]? = some (.cells #[.slice Ao18 t289.length co18, .slice Ao22 t292.length co22, .slice Ao23 t295.length co23] 75 (0, 0))) := ⟨(by rw [hw]; exact (bU BK298))⟩; replace HB : Aside0 (Below w.heap.size w w24) := ⟨(by rw [hw]; exact (bZ HB))⟩; clear hw; obtain ⟨hcz25_0, hcz25_1, hcz25_2, hfz25_0, hfz25_1, hfz25_2⟩ := bK3 (w := w24) BK298; have p10 : 0 ≤ ((ji7) : Int) := of_decide_eq_true (by first | (with_reducible assumption) | assumption); have q10 : ((ji7) : Int) < ((t289.length : Int) : Int) := of_decide_eq_true (by first | (with_reducible assumption) | assumption); obtain ⟨go10, co10, eo10, gb10, gl10, cl10, HG10⟩ := Kd.R_form HO291.out (by omega); (first | cases eo10 | (injection eo10 with ea_ en_ ec_; (first | subst ea_ | (injection ea_ with ea_; subst ea_)); subst ec_; clear en_)); have GB10 := Aside0.mk gb10; have GG10 := Aside0.mk HG10; clear gb10 gl10 HG10; obtain ⟨hx10_0, hf10_0⟩ := Kd.R_celln 0 HO291.out ((ji7) : Int) p10 q10; replace p10 := eq_true p10; replace q10 := eq_true q10; obtain ⟨hy26_, hz26_⟩ := Kd.R_celln 0 HO291.out ((ji7) : Int) (of_decide_eq_true (by first | (with_reducible assumption) | assumption)) (of_decide_eq_true (by first | (with_reducible assumption) | assumption)); have HP26 := Kd.R_putg HO291.out ((ji7) : Int) 1) | ((with_reducible refine gate_store (t := 3) (p := 20) rfl ?_); refine store_event (t := 3) (p := 20) (v := ?vo_w27) (w1 := (w24.setCell ⟨go10, ((ji7) : Int).toNat, none⟩ (.int .i64 1))) ?hg ?ho ?hn ?hr ?_; (case ho => rfl); (case hg => rfl); (case hn => rfl); (case hr => first | (go_simp; done) | (go_simp; rfl)); intro w27 hw; have hg : w24.grownBy w27 (some go10) := (by rw [hw]; exact HP26.2); have hp_ : Kd.R (Kd.int .i64) 3 w27 w.heap.size (fun k_ => (w.heap.size ≤ k_) ∧ some k_ ≠ (.slice Ao22 t292.length co22 : Value).ownBlock ∧ some k_ ≠ (.slice Ao23 t295.length co23 : Value).ownBlock) (.slice (some ⟨go10, 0, none⟩) t289.length co18) y299 := (by rw [hw, Ny299.out]; exact HP26.1); clear HP26; replace HO_289002 := Aside0.mk (Kd.N_afterv (v := (.slice (some ⟨go10, 0, none⟩) t289.length co18)) (v1 := (.slice (some ⟨go10, 0, none⟩) t289.length co18)) (ok := (fun k_ => (w.heap.size ≤ k_) ∧ some k_ ≠ (.slice Ao22 t292.length co22 : Value).ownBlock ∧ some k_ ≠ (.slice Ao23 t295.length co23 : Value).ownBlock ∧ k_ ≠ gb287 ∧ k_ ≠ gb288 ∧ k_ ≠ gb298)) (by (with_reducible repeat (first | apply Kd.N_alloc | apply Kd.N_drewN | apply Kd.N_drew)); exact Kd.N_mono HO_289002.out (fun _ hk => ⟨⟨hk.1, ⟨hk.2.2.1, ⟨hk.2.2.2.1, ⟨hk.2.2.2.2.1, ⟨hk.2.2.2.2.2.1, hk.2.2.2.2.2.2⟩⟩⟩⟩⟩, hk.2.1⟩)) hg (.inl rfl)); replace BK287 := Aside0.mk (blk_grown (bP BK287) hg (Kd.R_ne HO291.out BK287.out (by decide))); replace BK288 := Aside0.mk (blk_grown (bP BK288) hg (Kd.R_ne HO291.out BK288.out (by decide))); replace HO294 := Aside0.mk (Kd.R_after (v := (.slice (some ⟨go10, 0, none⟩) t289.length co18)) (v1 := (.slice (some ⟨go10, 0, none⟩) t289.length co18)) (ok := (fun k_ => (w.heap.size ≤ k_) ∧ some k_ ≠ (.slice Ao23 t295.length co23 : Value).ownBlock)) (by (with_reducible repeat (first | apply Kd.R_alloc | apply Kd.R_drewN | apply Kd.R_drew)); exact Kd.R_mono HO294.out (fun _ hk => ⟨⟨hk.1, hk.2.2⟩, hk.2.1⟩)) hg (.inl rfl)); replace HO297 := Aside0.mk (Kd.R_after (v := (.slice (some ⟨go10, 0, none⟩) t289.length co18)) (v1 := (.slice (some ⟨go10, 0, none⟩) t289.length co18)) (ok := (fun k_ => (w.heap.size ≤ k_) ∧ some k_ ≠ (.slice Ao22 t292.length co22 : Value).ownBlock)) (by (with_reducible repeat (first | apply Kd.R_alloc | apply Kd.R_drewN | apply Kd.R_drew)); exact Kd.R_mono HO297.out (fun _ hk => ⟨⟨hk.1, hk.2.2⟩, hk.2.1⟩)) hg (.inl rfl)); replace BK298 := Aside0.mk (blk_grown (bP BK298) hg (Kd.R_ne HO291.out BK298.out (by decide))); replace HO291 := Aside0.mk (hp_); replace HB := Aside0.mk ((by rw [hw]; exact below_set (HB.out) GB10.out : Below w.heap.size w w27)); clear hg hw hp_; obtain ⟨hcz28_0, hcz28_1, hcz28_2, hfz28_0, hfz28_1, hfz28_2⟩ := bK3 (w := w27) BK298; have p12 : 0 ≤ ((ji7) : Int) := of_decide_eq_true (by first | (with_reducible assumption) | assumption); have q12 : ((ji7) : Int) < ((t292.length : Int) : Int) := of_decide_eq_true (by first | (with_reducible assumption) | assumption); obtain ⟨go12, co12, eo12, gb12, gl12, cl12, HG12⟩ := Kd.R_form HO294.out (by omega); (first | cases eo12 | (injection eo12 with ea_ en_ ec_; (first | subst ea_ | (injection ea_ with ea_; subst ea_)); subst ec_; clear en_)); have GB12 := Aside0.mk gb12; have GG12 := Aside0.mk HG12; clear gb12 gl12 HG12; obtain ⟨hx12_0, hf12_0⟩ := Kd.R_celln 0 HO294.out ((ji7) : Int) p12 q12; replace p12 := eq_true p12; replace q12 := eq_true q12; have n_ := Aside0.mk (Kd.R_mono (ok' := (fun k_ => (w.heap.size ≤ k_) ∧ some k_ ≠ (.slice (some ⟨go10, 0, none⟩) t289.length co18 : Value).ownBlock ∧ some k_ ≠ (.slice Ao23 t295.length co23 : Value).ownBlock)) HO294.out (fun k_ hk => ⟨hk.1.1, ⟨hk.2, hk.1.2⟩⟩)); clear HO294; have HO294 := n_; clear n_; obtain ⟨hy29_, hz29_⟩ := Kd.R_celln 0 HO294.out ((ji7) : Int) (of_decide_eq_true (by first | (with_reducible assumption) | assumption)) (of_decide_eq_true (by first | (with_reducible assumption) | assumption)); have HP29 := Kd.R_putg HO294.out ((ji7) : Int) 1) | ((with_reducible refine gate_store (t := 3) (p := 25) rfl ?_); refine store_event (t := 3) (p := 25) (v := ?vo_w30) (w1 := (w27.setCell ⟨go12, ((ji7) : Int).toNat, none⟩ (.int .i64 1))) ?hg ?ho ?hn ?hr ?_; (case ho => rfl); (case hg => rfl); (case hn => rfl); (case hr => first | (go_simp; done) | (go_simp; rfl)); intro w30 hw; have hg : w27.grownBy w30 (some go12) := (by rw [hw]; exact HP29.2); have hp_ : Kd.R (Kd.int .i64) 3 w30 w.heap.size (fun k_ => (w.heap.size ≤ k_) ∧ some k_ ≠ (.slice (some ⟨go10, 0, none⟩) t289.length co18 : Value).ownBlock ∧ some k_ ≠ (.slice Ao23 t295.length co23 : Value).ownBlock) (.slice (some ⟨go12, 0, none⟩) t292.length co22) y300 := (by rw [hw, Ny300.out]; exact HP29.1); clear HP29; replace HO_289002 := Aside0.mk (Kd.N_afterv (v := (.slice (some ⟨go12, 0, none⟩) t292.length co22)) (v1 := (.slice (some ⟨go12, 0, none⟩) t292.length co22)) (ok := (fun k_ => (w.heap.size ≤ k_) ∧ some k_ ≠ (.slice (some ⟨go10, 0, none⟩) t289.length co18 : Value).ownBlock ∧ some k_ ≠ (.slice Ao23 t295.length co23 : Value).ownBlock ∧ k_ ≠ gb287 ∧ k_ ≠ gb288 ∧ k_ ≠ gb298)) (by (with_reducible repeat (first | apply Kd.N_alloc | apply Kd.N_drewN | apply Kd.N_drew)); exact Kd.N_mono HO_289002.out (fun _ hk => ⟨⟨hk.1.1, ⟨hk.2, ⟨hk.1.2.2.1, ⟨hk.1.2.2.2.1, ⟨hk.1.2.2.2.2.1, hk.1.2.2.2.2.2⟩⟩⟩⟩⟩, hk.1.2.1⟩)) hg (.inl rfl)); replace BK287 := Aside0.mk (blk_grown (bP BK287) hg (Kd.R_ne HO294.out BK287.out (by decide))); replace BK288 := Aside0.mk (blk_grown (bP BK288) hg (Kd.R_ne HO294.out BK288.out (by decide))); replace HO291 := Aside0.mk (Kd.R_after (v := (.slice (some ⟨go12, 0, none⟩) t292.length co22)) (v1 := (.slice (some ⟨go12, 0, none⟩) t292.length co22)) (ok := (fun k_ => (w.heap.size ≤ k_) ∧ some k_ ≠ (.slice Ao23 t295.length co23 : Value).ownBlock)) (by (with_reducible repeat (first | apply Kd.R_alloc | apply Kd.R_drewN | apply Kd.R_drew)); exact Kd.R_mono HO291.out (fun _ hk => ⟨⟨hk.1, hk.2.2⟩, hk.2.1⟩)) hg (.inl rfl)); replace HO297 := Aside0.mk (Kd.R_after (v := (.slice (some ⟨go12, 0, none⟩) t292.length co22)) (v1 := (.slice (some ⟨go12, 0, none⟩) t292.length co22)) (ok := (fun k_ => (w.heap.size ≤ k_) ∧ some k_ ≠ (.slice (some ⟨go10, 0, none⟩) t289.length co18 : Value).ownBlock)) (by (with_reducible repeat (first | apply Kd.R_alloc | apply Kd.R_drewN | apply Kd.R_drew)); exact Kd.R_mono HO297.out (fun _ hk => ⟨⟨hk.1.1, hk.2⟩, hk.1.2⟩)) hg (.inl rfl)); replace BK298 := Aside0.mk (blk_grown (bP BK298) hg (Kd.R_ne HO294.out BK298.out (by decide))); replace HO294 := Aside0.mk (hp_); replace HB := Aside0.mk ((by rw [hw]; exact below_set (HB.out) GB12.out : Below w.heap.size w w30)); clear hg hw hp_; obtain ⟨hcz31_0, hcz31_1, hcz31_2, hfz31_0, hfz31_1, hfz31_2⟩ := bK3 (w := w30) BK298; have p14 : 0 ≤ ((ji7) : Int) := of_decide_eq_true (by first | (with_reducible assumption) | assumption); have q14 : ((ji7) : Int) < ((t295.length : Int) : Int) := of_decide_eq_true (by first | (with_reducible assumption) | assumption); obtain ⟨go14, co14, eo14, gb14, gl14, cl14, HG14⟩ := Kd.R_form HO297.out (by omega); (first | cases eo14 | (injection eo14 with ea_ en_ ec_; (first | subst ea_ | (injection ea_ with ea_; subst ea_)); subst ec_; clear en_)); have GB14 := Aside0.mk gb14; have GG14 := Aside0.mk HG14; clear gb14 gl14 HG14; obtain ⟨hx14_0, hf14_0⟩ := Kd.R_celln 0 HO297.out ((ji7) : Int) p14 q14; replace p14 := eq_true p14; replace q14 := eq_true q14; have n_ := Aside0.mk (Kd.R_mono (ok' := (fun k_ => (w.heap.size ≤ k_) ∧ some k_ ≠ (.slice (some ⟨go10, 0, none⟩) t289.length co18 : Value).ownBlock ∧ some k_ ≠ (.slice (some ⟨go12, 0, none⟩) t292.length co22 : Value).ownBlock)) HO297.out (fun k_ hk => ⟨hk.1.1, ⟨hk.1.2, hk.2⟩⟩)); clear HO297; have HO297 := n_; clear n_; obtain ⟨hy32_, hz32_⟩ := Kd.R_celln 0 HO297.out ((ji7) : Int) (of_decide_eq_true (by first | (with_reducible assumption) | assumption)) (of_decide_eq_true (by first | (with_reducible assumption) | assumption)); have HP32 := Kd.R_putg HO297.out ((ji7) : Int) 1) | ((with_reducible refine gate_store (t := 3) (p := 30) rfl ?_); refine store_event (t := 3) (p := 30) (v := ?vo_w33) (w1 := (w30.setCell ⟨go14, ((ji7) : Int).toNat, none⟩ (.int .i64 1))) ?hg ?ho ?hn ?hr ?_; (case ho => rfl); (case hg => rfl); (case hn => rfl); (case hr => first | (go_simp; done) | (go_simp; rfl)); intro w33 hw; have hg : w30.grownBy w33 (some go14) := (by rw [hw]; exact HP32.2); have hp_ : Kd.R (Kd.int .i64) 3 w33 w.heap.size (fun k_ => (w.heap.size ≤ k_) ∧ some k_ ≠ (.slice (some ⟨go10, 0, none⟩) t289.length co18 : Value).ownBlock ∧ some k_ ≠ (.slice (some ⟨go12, 0, none⟩) t292.length co22 : Value).ownBlock) (.slice (some ⟨go14, 0, none⟩) t295.length co23) y301 := (by rw [hw, Ny301.out]; exact HP32.1); clear HP32; replace HO_289002 := Aside0.mk (Kd.N_afterv (v := (.slice (some ⟨go14, 0, none⟩) t295.length co23)) (v1 := (.slice (some ⟨go14, 0, none⟩) t295.length co23)) (ok := (fun k_ => (w.heap.size ≤ k_) ∧ some k_ ≠ (.slice (some ⟨go10, 0, none⟩) t289.length co18 : Value).ownBlock ∧ some k_ ≠ (.slice (some ⟨go12, 0, none⟩) t292.length co22 : Value).ownBlock ∧ k_ ≠ gb287 ∧ k_ ≠ gb288 ∧ k_ ≠ gb298)) (by (with_reducible repeat (first | apply Kd.N_alloc | apply Kd.N_drewN | apply Kd.N_drew)); exact Kd.N_mono HO_289002.out (fun _ hk => ⟨⟨hk.1.1, ⟨hk.1.2.1, ⟨hk.2, ⟨hk.1.2.2.2.1, ⟨hk.1.2.2.2.2.1, hk.1.2.2.2.2.2⟩⟩⟩⟩⟩, hk.1.2.2.1⟩)) hg (.inl rfl)); replace BK287 := Aside0.mk (blk_grown (bP BK287) hg (Kd.R_ne HO297.out BK287.out (by decide))); replace BK288 := Aside0.mk (blk_grown (bP BK288) hg (Kd.R_ne HO297.out BK288.out (by decide))); replace HO291 := Aside0.mk (Kd.R_after (v := (.slice (some ⟨go14, 0, none⟩) t295.length co23)) (v1 := (.slice (some ⟨go14, 0, none⟩) t295.length co23)) (ok := (fun k_ => (w.heap.size ≤ k_) ∧ some k_ ≠ (.slice (some ⟨go12, 0, none⟩) t292.length co22 : Value).ownBlock)) (by (with_reducible repeat (first | apply Kd.R_alloc | apply Kd.R_drewN | apply Kd.R_drew)); exact Kd.R_mono HO291.out (fun _ hk => ⟨⟨hk.1.1, hk.2⟩, hk.1.2⟩)) hg (.inl rfl)); replace HO294 := Aside0.mk (Kd.R_after (v := (.slice (some ⟨go14, 0, none⟩) t295.length co23)) (v1 := (.slice (some ⟨go14, 0, none⟩) t295.length co23)) (ok := (fun k_ => (w.heap.size ≤ k_) ∧ some k_ ≠ (.slice (some ⟨go10, 0, none⟩) t289.length co18 : Value).ownBlock)) (by (with_reducible repeat (first | apply Kd.R_alloc | apply Kd.R_drewN | apply Kd.R_drew)); exact Kd.R_mono HO294.out (fun _ hk => ⟨⟨hk.1, hk.2.1⟩, hk.2.2⟩)) hg (.inl rfl)); replace BK298 := Aside0.mk (blk_grown (bP BK298) hg (Kd.R_ne HO297.out BK298.out (by decide))); replace HO297 := Aside0.mk (hp_); replace HB := Aside0.mk ((by rw [hw]; exact below_set (HB.out) GB14.out : Below w.heap.size w w33)); clear hg hw hp_; obtain ⟨hnb34, hnc34⟩ := nB NB288_287; obtain ⟨hcz35_0, hcz35_1, hcz35_2, hfz35_0, hfz35_1, hfz35_2⟩ := bK3 (w := w33) BK288; obtain ⟨hcz36_0, hcz36_1, hcz36_2, hfz36_0, hfz36_1, hfz36_2⟩ := bK3 (w := w33) BK298) | ((with_reducible refine gate_builtin (b := .append) (xs := #[.tmp 32, .tmp 34]) rfl ?_); at_builtin; refine Kd.N_append k75 (w0 := w) w.heap.size rfl (.tmp 32) (.tmp 34) 41 75 (.agg #[(.slice none 0 0), (.slice none 0 0), (.slice none 0 0)]) 72 rfl Try.underlying41 info75 rfl (by decide) (by omega) u289002 x289002_1 (⟨y299, y300, y301⟩ : S75) [.slice (some ⟨go10, 0, none⟩) t289.length co18, .slice (some ⟨go12, 0, none⟩) t292.length co22, .slice (some ⟨go14, 0, none⟩) t295.length co23] (fun k_ => (w.heap.size ≤ k_) ∧ k_ ≠ gb287 ∧ k_ ≠ gb288 ∧ k_ ≠ gb298) (fun k_ => ((fun k_ => (w.heap.size ≤ k_) ∧ k_ ≠ gb287 ∧ k_ ≠ gb288 ∧ k_ ≠ gb298)) k_ ∧ some k_ ≠ (u289002 : Value).ownBlock) rfl rfl ?aP (fun _ hk => hk) ?aF ?aO ?aB ?aS ?aL ?_; (case aP => exact (k75_mkFV _ _ _ (⟨y299, y300, y301⟩ : S75) (Kd.R_mono (ok' := (fun k_ => ((fun k_ => (w.heap.size ≤ k_) ∧ k_ ≠ gb287 ∧ k_ ≠ gb288 ∧ k_ ≠ gb298)) k_ ∧ some k_ ≠ (u289002 : Value).ownBlock)) (Kd.R_types (Kd.R_types (Kd.R_types (Kd.R_apart' (HO291.out) (Kd.N_typed HO_289002.out) (by decide)) BK287.out (by decide)) BK288.out (by decide)) BK298.out (by decide)) (fun k_ hk => ⟨⟨hk.1.1.1.1.1.1, ⟨hk.1.1.2, ⟨hk.1.2, hk.2⟩⟩⟩, hk.1.1.1.2⟩)) (Kd.R_mono (ok' := (fun k_ => ((fun k_ => (w.heap.size ≤ k_) ∧ k_ ≠ gb287 ∧ k_ ≠ gb288 ∧ k_ ≠ gb298)) k_ ∧ some k_ ≠ (u289002 : Value).ownBlock)) (Kd.R_types (Kd.R_types (Kd.R_types (Kd.R_apart' (HO294.out) (Kd.N_typed HO_289002.out) (by decide)) BK287.out (by decide)) BK288.out (by decide)) BK298.out (by decide)) (fun k_ hk => ⟨⟨hk.1.1.1.1.1.1, ⟨hk.1.1.2, ⟨hk.1.2, hk.2⟩⟩⟩, hk.1.1.1.2⟩)) (Kd.R_mono (ok' := (fun k_ => ((fun k_ => (w.heap.size ≤ k_) ∧ k_ ≠ gb287 ∧ k_ ≠ gb288 ∧ k_ ≠ gb298)) k_ ∧ some k_ ≠ (u289002 : Value).ownBlock)) (Kd.R_types (Kd.R_types (Kd.R_types (Kd.R_apart' (HO297.out) (Kd.N_typed HO_289002.out) (by decide)) BK287.out (by decide)) BK288.out (by decide)) BK298.out (by decide)) (fun k_ hk => ⟨⟨hk.1.1.1.1.1, ⟨hk.1.1.2, ⟨hk.1.2, hk.2⟩⟩⟩, hk.1.1.1.2⟩)))); (case aB => exact (bZ HB)); (case aF => exact (fun k_ hk => ⟨(Nat.le_trans (below_size (bZ HB)) hk), Kd.freshB (bP BK287) k_ hk, Kd.freshB (bP BK288) k_ hk, Kd.freshB (bP BK298) k_ hk⟩)); (case aO => exact (by (with_reducible repeat (first | apply Kd.N_alloc | apply Kd.N_drewN | apply Kd.N_drew)); exact Kd.N_mono HO_289002.out (fun _ hk => ⟨hk.1.1, ⟨hk.1.2.2.2.1, ⟨hk.1.2.2.2.2.1, hk.1.2.2.2.2.2⟩⟩⟩))); (case aS => exact (below_size (bZ HB))); (case aL => have := LMc15.out; omega); intro v303 w37 ho hb hg hat; rw [← Ny302.out] at ho; replace BK287 := Aside0.mk (blk_grown (bP BK287) hg (Kd.N_ne HO_289002.out BK287.out (by decide))); replace BK288 := Aside0.mk (blk_grown (bP BK288) hg (Kd.N_ne HO_289002.out BK288.out (by decide))); replace BK298 := Aside0.mk (blk_grown (bP BK298) hg (Kd.N_away HO_289002.out (fun _ hk => hk.1.2.2.2.2.2))); replace HB := Aside0.mk (hb); have HO304 := Aside0.mk (ho); clear HO_289002 HO291 HO294 HO297; clear ho hb hg hat; obtain ⟨Ao38, co38, eo38⟩ := Kd.N_slice HO304.out; subst eo38; obtain ⟨hcz39_0, hcz39_1, hcz39_2, hfz39_0, hfz39_1, hfz39_2⟩ := bK3 (w := w37) BK288))
         go_roundg k1
         case measure => have := HK1.out; omega
         case rel => exact ⟨(wrap64 (x3_1 + 1)), (y302), (.slice Ao38 y302.length co38), rS, H', ⟨by have := HK1.out; omega⟩, ⟨by (with_reducible repeat (first | apply Kd.N_alloc | apply Kd.N_drewN | apply Kd.N_drew)); exact Kd.N_mono (Kd.N_far (p := ⟨gb288, 2, none⟩) (Kd.N_mono HO304.out (fun k_ hk => (⟨hk, hk.2.2.1⟩ : _ ∧ k_ ≠ gb288))) (fun _ hk => hk.2) (.slice Ao38 y302.length co38)) (fun _ hk => ⟨hk.1.1, ⟨hk.1.2.1, hk.1.2.2.1⟩⟩)⟩, ⟨bP BK287⟩, ⟨bU BK288⟩, ⟨bZ HB⟩⟩
        ·rw [if_neg c15] at H
         exact absurd H (by simp)
       ·rw [if_neg c13] at H
        exact absurd H (by simp)
      ·rw [if_neg c11] at H
       exact absurd H (by simp)
     ·rw [if_neg c9] at H
      exact absurd H (by simp)
    ·rw [if_neg c8] at H
     exact absurd H (by simp)
   ·rw [if_neg c5] at H
    have c5b0 := decide_eq_false c5
    clear c5
    replace H := Option.bind_eq_some_iff.mp H
    obtain ⟨⟨t305, t308, t311⟩, A400, H⟩ := H
    have A40 := Aside0.mk A400
    clear A400
    replace H := Option.bind_eq_some_iff.mp H
    obtain ⟨⟨t315, t318, t321⟩, A410, H⟩ := H
    have A41 := Aside0.mk A410
    clear A410
    by_cases c42 : 0 < (t305.length : Int)
    ·rw [if_pos c42] at H
     have c42b0 := decide_eq_true c42
     have c42b1 : decide (0 < t305.length) = true := decide_eq_true (by omega)
     clear c42
     obtain ⟨y325, hy325⟩ : ∃ y_ : List Int, y_ = (t305.set (0 : Int).toNat 1) := ⟨_, rfl⟩
     replace H : (if 0 < (t315.length : Int) then (spec_CountSystem.l1 k1 0 11 2 x289002_1 y325 t308 t311 (t315.set (0 : Int).toNat 1) t318 t321) else (none)) = some (r1, r2, r3) := by first | (rw [hy325]; with_reducible exact H) | (have H2_ := (Option.bind_some _ _).symm.trans H; rw [hy325]; with_reducible exact H2_) | (have H2_ := (Option.bind_some _ _).symm.trans H; with_reducible exact H2_) | with_reducible exact H | (rw [hy325]; exact H) | exact H
     have Ny325 := Aside0.mk hy325
     clear hy325
     by_cases c44 : 0 < (t315.length : Int)
     ·rw [if_pos c44] at H
      have c44b0 := decide_eq_true c44
      have c44b1 : decide (0 < t315.length) = true := decide_eq_true (by omega)
      clear c44
      obtain ⟨y326, hy326⟩ : ∃ y_ : List Int, y_ = (t315.set (0 : Int).toNat 1) := ⟨_, rfl⟩
      replace H : (spec_CountSystem.l1 k1 0 11 2 x289002_1 y325 t308 t311 y326 t318 t321) = some (r1, r2, r3) := by first | (rw [hy326]; with_reducible exact H) | (have H2_ := (Option.bind_some _ _).symm.trans H; rw [hy326]; with_reducible exact H2_) | (have H2_ := (Option.bind_some _ _).symm.trans H; with_reducible exact H2_) | with_reducible exact H | (rw [hy326]; exact H) | exact H
      have Ny326 := Aside0.mk hy326
      clear hy326
      have H' := Aside0.mk H
      clear H
      go_wp2_with (first | (refine gC (some 38) Try.func66 #[.int .i64 11] ?_; (with_reducible refine (spec_l13Row.calls 11 t305 t308 t311 _ A40.out).mono ?_); rintro e w46 ⟨v306, v309, v312, rfl, ho0, ho1, ho2, hb⟩; refine ⟨_, rfl, ?_⟩; replace HO_289002 := Aside0.mk (Kd.N_mono (Kd.N_told (Kd.N_told (Kd.N_told (Kd.N_old (by (with_reducible repeat (first | apply Kd.N_alloc | apply Kd.N_drewN | apply Kd.N_drew)); exact HO_289002.out) hb) (Kd.R_base ho0)) (Kd.R_base ho1)) (Kd.R_base ho2)) (fun _ h_ => h_.1)); have HO307 := Aside0.mk (Kd.R_lower (Kd.R_newM (M := fun k_ => (w.heap.size ≤ k_)) ho0 (below_size (bZ HB)) (fun k_ h_ => h_)) (below_size (bZ HB))); have HO310 := Aside0.mk (Kd.R_lower (Kd.R_newM (M := fun k_ => (w.heap.size ≤ k_)) ho1 (below_size (bZ HB)) (fun k_ h_ => h_)) (below_size (bZ HB))); have HO313 := Aside0.mk (Kd.R_lower (Kd.R_newM (M := fun k_ => (w.heap.size ≤ k_)) ho2 (below_size (bZ HB)) (fun k_ h_ => h_)) (below_size (bZ HB))); replace BK287 := bB BK287 hb; replace BK288 := bB BK288 hb; replace HB := bS HB hb; (try clear hb); (try clear ho0); (try clear ho1); (try clear ho2)) | ((with_reducible refine gate_dst (N := 5) rfl ?_); refine bE 5 #[.slice none 0 0, .slice none 0 0, .slice none 0 0] 75 ?_; intro gb314 hg w47 hbox hb; replace HO_289002 := Aside0.mk (Kd.N_below (Kd.N_elderB (by (with_reducible repeat (first | apply Kd.N_alloc | apply Kd.N_drewN | apply Kd.N_drew)); exact HO_289002.out) gb314 (Nat.le_of_eq hg.symm)) hb); replace HO307 := Aside0.mk (Kd.R_below (rP HO307) hb); replace HO310 := Aside0.mk (Kd.R_below (rP HO310) hb); replace HO313 := Aside0.mk (Kd.R_below (rP HO313) hb); have BK314 := Aside0.mk (hbox); have GW314 := bG HB hg; replace HB := bS HB hb; obtain ⟨NB287_314, NB314_287⟩ := bN BK287 hg; replace BK287 := bB BK287 hb; obtain ⟨NB288_314, NB314_288⟩ := bN BK288 hg; replace BK288 := bB BK288 hb; clear hb hbox hg; obtain ⟨Ao48, co48, eo48⟩ := Kd.R_slice HO307.out; subst eo48; obtain ⟨hnb49, hnc49⟩ := nB NB314_287; obtain ⟨hnb50, hnc50⟩ := nB NB314_288; obtain ⟨hcz51_0, hcz51_1, hcz51_2, hfz51_0, hfz51_1, hfz51_2⟩ := bK3 (w := w47) BK314; obtain ⟨Ao52, co52, eo52⟩ := Kd.R_slice HO310.out; subst eo52; obtain ⟨Ao53, co53, eo53⟩ := Kd.R_slice HO313.out; subst eo53) | (refine gC (some 40) Try.func66 #[.int .i64 11] ?_; (with_reducible refine (spec_l13Row.calls 11 t315 t318 t321 _ A41.out).mono ?_); rintro e w54 ⟨v316, v319, v322, rfl, ho0, ho1, ho2, hb⟩; refine ⟨_, rfl, ?_⟩; replace HO_289002 := Aside0.mk (Kd.N_mono (Kd.N_told (Kd.N_told (Kd.N_told (Kd.N_old (by (with_reducible repeat (first | apply Kd.N_alloc | apply Kd.N_drewN | apply Kd.N_drew)); exact (Kd.N_mono (Kd.N_far (p := ⟨gb314, 2, none⟩) (Kd.N_far (p := ⟨gb314, 1, none⟩) (Kd.N_far (p := ⟨gb314, 0, none⟩) (Kd.N_mono HO_289002.out (fun k_ hk => (⟨hk, hk.2⟩ : _ ∧ k_ ≠ gb314))) (fun _ hk => hk.2) (.slice Ao48 t305.length co48)) (fun _ hk => hk.2) (.slice Ao52 t308.length co52)) (fun _ hk => hk.2) (.slice Ao53 t311.length co53)) (fun _ h_ => h_.1))) hb) (Kd.R_base ho0)) (Kd.R_base ho1)) (Kd.R_base ho2)) (fun _ h_ => h_.1)); have HO317 := Aside0.mk (Kd.R_lower (Kd.R_new' (Kd.R_new' (Kd.R_new' (Kd.R_newM (M := fun k_ => (w.heap.size ≤ k_)) ho0 (below_size (bZ HB)) (fun k_ h_ => h_)) (Kd.R_lt (by (with_reducible repeat (first | apply Kd.R_alloc | apply Kd.R_drewN | apply Kd.R_drew)); exact (Kd.R_mono (Kd.R_far (p := ⟨gb314, 2, none⟩) (Kd.R_far (p := ⟨gb314, 1, none⟩) (Kd.R_far (p := ⟨gb314, 0, none⟩) (Kd.R_types HO307.out BK314.out (by decide)) (fun _ hk => hk.2) (.slice Ao48 t305.length co48)) (fun _ hk => hk.2) (.slice Ao52 t308.length co52)) (fun _ hk => hk.2) (.slice Ao53 t311.length co53)) (fun _ h_ => h_.1))))) (Kd.R_lt (by (with_reducible repeat (first | apply Kd.R_alloc | apply Kd.R_drewN | apply Kd.R_drew)); exact (Kd.R_mono (Kd.R_far (p := ⟨gb314, 2, none⟩) (Kd.R_far (p := ⟨gb314, 1, none⟩) (Kd.R_far (p := ⟨gb314, 0, none⟩) (Kd.R_types HO310.out BK314.out (by decide)) (fun _ hk => hk.2) (.slice Ao48 t305.length co48)) (fun _ hk => hk.2) (.slice Ao52 t308.length co52)) (fun _ hk => hk.2) (.slice Ao53 t311.length co53)) (fun _ h_ => h_.1))))) (Kd.R_lt (by (with_reducible repeat (first | apply Kd.R_alloc | apply Kd.R_drewN | apply Kd.R_drew)); exact (Kd.R_mono (Kd.R_far (p := ⟨gb314, 2, none⟩) (Kd.R_far (p := ⟨gb314, 1, none⟩) (Kd.R_far (p := ⟨gb314, 0, none⟩) (Kd.R_types HO313.out BK314.out (by decide)) (fun _ hk => hk.2) (.slice Ao48 t305.length co48)) (fun _ hk => hk.2) (.slice Ao52 t308.length co52)) (fun _ hk => hk.2) (.slice Ao53 t311.length co53)) (fun _ h_ => h_.1))))) (below_size (bZ HB))); have HO320 := Aside0.mk (Kd.R_lower (Kd.R_new' (Kd.R_new' (Kd.R_new' (Kd.R_newM (M := fun k_ => (w.heap.size ≤ k_)) ho1 (below_size (bZ HB)) (fun k_ h_ => h_)) (Kd.R_lt (by (with_reducible repeat (first | apply Kd.R_alloc | apply Kd.R_drewN | apply Kd.R_drew)); exact (Kd.R_mono (Kd.R_far (p := ⟨gb314, 2, none⟩) (Kd.R_far (p := ⟨gb314, 1, none⟩) (Kd.R_far (p := ⟨gb314, 0, none⟩) (Kd.R_types HO307.out BK314.out (by decide)) (fun _ hk => hk.2) (.slice Ao48 t305.length co48)) (fun _ hk => hk.2) (.slice Ao52 t308.length co52)) (fun _ hk => hk.2) (.slice Ao53 t311.length co53)) (fun _ h_ => h_.1))))) (Kd.R_lt (by (with_reducible repeat (first | apply Kd.R_alloc | apply Kd.R_drewN | apply Kd.R_drew)); exact (Kd.R_mono (Kd.R_far (p := ⟨gb314, 2, none⟩) (Kd.R_far (p := ⟨gb314, 1, none⟩) (Kd.R_far (p := ⟨gb314, 0, none⟩) (Kd.R_types HO310.out BK314.out (by decide)) (fun _ hk => hk.2) (.slice Ao48 t305.length co48)) (fun _ hk => hk.2) (.slice Ao52 t308.length co52)) (fun _ hk => hk.2) (.slice Ao53 t311.length co53)) (fun _ h_ => h_.1))))) (Kd.R_lt (by (with_reducible repeat (first | apply Kd.R_alloc | apply Kd.R_drewN | apply Kd.R_drew)); exact (Kd.R_mono (Kd.R_far (p := ⟨gb314, 2, none⟩) (Kd.R_far (p := ⟨gb314, 1, none⟩) (Kd.R_far (p := ⟨gb314, 0, none⟩) (Kd.R_types HO313.out BK314.out (by decide)) (fun _ hk => hk.2) (.slice Ao48 t305.length co48)) (fun _ hk => hk.2) (.slice Ao52 t308.length co52)) (fun _ hk => hk.2) (.slice Ao53 t311.length co53)) (fun _ h_ => h_.1))))) (below_size (bZ HB))); have HO323 := Aside0.mk (Kd.R_lower (Kd.R_new' (Kd.R_new' (Kd.R_new' (Kd.R_newM (M := fun k_ => (w.heap.size ≤ k_)) ho2 (below_size (bZ HB)) (fun k_ h_ => h_)) (Kd.R_lt (by (with_reducible repeat (first | apply Kd.R_alloc | apply Kd.R_drewN | apply Kd.R_drew)); exact (Kd.R_mono (Kd.R_far (p := ⟨gb314, 2, none⟩) (Kd.R_far (p := ⟨gb314, 1, none⟩) (Kd.R_far (p := ⟨gb314, 0, none⟩) (Kd.R_types HO307.out BK314.out (by decide)) (fun _ hk => hk.2) (.slice Ao48 t305.length co48)) (fun _ hk => hk.2) (.slice Ao52 t308.length co52)) (fun _ hk => hk.2) (.slice Ao53 t311.length co53)) (fun _ h_ => h_.1))))) (Kd.R_lt (by (with_reducible repeat (first | apply Kd.R_alloc | apply Kd.R_drewN | apply Kd.R_drew)); exact (Kd.R_mono (Kd.R_far (p := ⟨gb314, 2, none⟩) (Kd.R_far (p := ⟨gb314, 1, none⟩) (Kd.R_far (p := ⟨gb314, 0, none⟩) (Kd.R_types HO310.out BK314.out (by decide)) (fun _ hk => hk.2) (.slice Ao48 t305.length co48)) (fun _ hk => hk.2) (.slice Ao52 t308.length co52)) (fun _ hk => hk.2) (.slice Ao53 t311.length co53)) (fun _ h_ => h_.1))))) (Kd.R_lt (by (with_reducible repeat (first | apply Kd.R_alloc | apply Kd.R_drewN | apply Kd.R_drew)); exact (Kd.R_mono (Kd.R_far (p := ⟨gb314, 2, none⟩) (Kd.R_far (p := ⟨gb314, 1, none⟩) (Kd.R_far (p := ⟨gb314, 0, none⟩) (Kd.R_types HO313.out BK314.out (by decide)) (fun _ hk => hk.2) (.slice Ao48 t305.length co48)) (fun _ hk => hk.2) (.slice Ao52 t308.length co52)) (fun _ hk => hk.2) (.slice Ao53 t311.length co53)) (fun _ h_ => h_.1))))) (below_size (bZ HB))); replace HO307 := Aside0.mk (Kd.R_mono (Kd.R_told (Kd.R_told (Kd.R_told (Kd.R_old (by (with_reducible repeat (first | apply Kd.R_alloc | apply Kd.R_drewN | apply Kd.R_drew)); exact (Kd.R_mono (Kd.R_far (p := ⟨gb314, 2, none⟩) (Kd.R_far (p := ⟨gb314, 1, none⟩) (Kd.R_far (p := ⟨gb314, 0, none⟩) (Kd.R_types HO307.out BK314.out (by decide)) (fun _ hk => hk.2) (.slice Ao48 t305.length co48)) (fun _ hk => hk.2) (.slice Ao52 t308.length co52)) (fun _ hk => hk.2) (.slice Ao53 t311.length co53)) (fun _ h_ => h_.1))) hb) (Kd.R_base ho0)) (Kd.R_base ho1)) (Kd.R_base ho2)) (fun _ h_ => h_.1)); replace HO310 := Aside0.mk (Kd.R_mono (Kd.R_told (Kd.R_told (Kd.R_told (Kd.R_old (by (with_reducible repeat (first | apply Kd.R_alloc | apply Kd.R_drewN | apply Kd.R_drew)); exact (Kd.R_mono (Kd.R_far (p := ⟨gb314, 2, none⟩) (Kd.R_far (p := ⟨gb314, 1, none⟩) (Kd.R_far (p := ⟨gb314, 0, none⟩) (Kd.R_types HO310.out BK314.out (by decide)) (fun _ hk => hk.2) (.slice Ao48 t305.length co48)) (fun _ hk => hk.2) (.slice Ao52 t308.length co52)) (fun _ hk => hk.2) (.slice Ao53 t311.length co53)) (fun _ h_ => h_.1))) hb) (Kd.R_base ho0)) (Kd.R_base ho1)) (Kd.R_base ho2)) (fun _ h_ => h_.1)); replace HO313 := Aside0.mk (Kd.R_mono (Kd.R_told (Kd.R_told (Kd.R_told (Kd.R_old (by (with_reducible repeat (first | apply Kd.R_alloc | apply Kd.R_drewN | apply Kd.R_drew)); exact (Kd.R_mono (Kd.R_far (p := ⟨gb314, 2, none⟩) (Kd.R_far (p := ⟨gb314, 1, none⟩) (Kd.R_far (p := ⟨gb314, 0, none⟩) (Kd.R_types HO313.out BK314.out (by decide)) (fun _ hk => hk.2) (.slice Ao48 t305.length co48)) (fun _ hk => hk.2) (.slice Ao52 t308.length co52)) (fun _ hk => hk.2) (.slice Ao53 t311.length co53)) (fun _ h_ => h_.1))) hb) (Kd.R_base ho0)) (Kd.R_base ho1)) (Kd.R_base ho2)) (fun _ h_ => h_.1)); replace BK287 := bB BK287 hb; replace BK288 := bB BK288 hb; replace BK314 := bV 75 #[.slice Ao48 t305.length co48, .slice Ao52 t308.length co52, .slice Ao53 t311.length co53] BK314 hb; replace HB := bS HB hb; (try clear hb); (try clear ho0); (try clear ho1); (try clear ho2)) | ((with_reducible refine gate_dst (N := 6) rfl ?_); refine bE 6 #[.slice none 0 0, .slice none 0 0, .slice none 0 0] 75 ?_; intro gb324 hg w55 hbox hb; replace HO_289002 := Aside0.mk (Kd.N_below (Kd.N_elderB (by (with_reducible repeat (first | apply Kd.N_alloc | apply Kd.N_drewN | apply Kd.N_drew)); exact HO_289002.out) gb324 (Nat.le_of_eq hg.symm)) hb); replace HO307 := Aside0.mk (Kd.R_below (rP HO307) hb); replace HO310 := Aside0.mk (Kd.R_below (rP HO310) hb); replace HO313 := Aside0.mk (Kd.R_below (rP HO313) hb); replace HO317 := Aside0.mk (Kd.R_below (rP HO317) hb); replace HO320 := Aside0.mk (Kd.R_below (rP HO320) hb); replace HO323 := Aside0.mk (Kd.R_below (rP HO323) hb); have BK324 := Aside0.mk (hbox); have GW324 := bG HB hg; replace HB := bS HB hb; obtain ⟨NB287_324, NB324_287⟩ := bN BK287 hg; replace BK287 := bB BK287 hb; obtain ⟨NB288_324, NB324_288⟩ := bN BK288 hg; replace BK288 := bB BK288 hb; obtain ⟨NB314_324, NB324_314⟩ := bN BK314 hg; replace BK314 := bB BK314 hb; clear hb hbox hg; obtain ⟨Ao56, co56, eo56⟩ := Kd.R_slice HO317.out; subst eo56; obtain ⟨hnb57, hnc57⟩ := nB NB324_287; obtain ⟨hnb58, hnc58⟩ := nB NB324_288; obtain ⟨hnb59, hnc59⟩ := nB NB324_314; obtain ⟨hcz60_0, hcz60_1, hcz60_2, hfz60_0, hfz60_1, hfz60_2⟩ := bK3 (w := w55) BK324; obtain ⟨Ao61, co61, eo61⟩ := Kd.R_slice HO320.out; subst eo61; obtain ⟨Ao62, co62, eo62⟩ := Kd.R_slice HO323.out; subst eo62) | ((with_reducible refine gate_store (t := 75) (p := 6) rfl ?_); refine store_event (t := 75) (p := 6) (v := ?vo_w63) (w1 := (((w55.setCell ⟨gb324, 0, none⟩ (.slice Ao56 t315.length co56)).setCell ⟨gb324, 1, none⟩ (.slice Ao61 t318.length co61)).setCell ⟨gb324, 2, none⟩ (.slice Ao62 t321.length co62))) ?hg ?ho ?hn ?hr ?_; (case ho => rfl); (case hg => rfl); (case hn => rfl); (case hr => first | (go_simp; done) | (go_simp; rfl)); intro w63 hw; replace HO_289002 : Aside0 (Kd.N k75 75 w63 w.heap.size (fun k_ => (w.heap.size ≤ k_) ∧ some k_ ≠ (.slice Ao48 t305.length co48 : Value).ownBlock ∧ some k_ ≠ (.slice Ao52 t308.length co52 : Value).ownBlock ∧ some k_ ≠ (.slice Ao53 t311.length co53 : Value).ownBlock ∧ some k_ ≠ (.slice Ao56 t315.length co56 : Value).ownBlock ∧ some k_ ≠ (.slice Ao61 t318.length co61 : Value).ownBlock ∧ some k_ ≠ (.slice Ao62 t321.length co62 : Value).ownBlock ∧ k_ ≠ gb287 ∧ k_ ≠ gb288 ∧ k_ ≠ gb314 ∧ k_ ≠ gb324) u289002 x289002_1) := ⟨(by rw [hw]; exact (by (with_reducible repeat (first | apply Kd.N_alloc | apply Kd.N_drewN | apply Kd.N_drew)); exact Kd.N_mono (Kd.N_far (p := ⟨gb324, 2, none⟩) (Kd.N_far (p := ⟨gb324, 1, none⟩) (Kd.N_far (p := ⟨gb324, 0, none⟩) (Kd.N_mono HO_289002.out (fun k_ hk => (⟨hk, hk.2⟩ : _ ∧ k_ ≠ gb324))) (fun _ hk => hk.2) (.slice Ao56 t315.length co56)) (fun _ hk => hk.2) (.slice Ao61 t318.length co61)) (fun _ hk => hk.2) (.slice Ao62 t321.length co62)) (fun _ hk => ⟨hk.1.1.1.1.1.1.1.1.1.1, ⟨hk.1.1.1.1.1.1.1.1.2, ⟨hk.1.1.1.1.1.1.1.2, ⟨hk.1.1.1.1.1.1.2, ⟨hk.1.1.1.1.2, ⟨hk.1.1.1.2, ⟨hk.1.1.2, ⟨hk.1.1.1.1.1.1.1.1.1.2.1, ⟨hk.1.1.1.1.1.1.1.1.1.2.2, ⟨hk.1.1.1.1.1.2, hk.1.2⟩⟩⟩⟩⟩⟩⟩⟩⟩⟩)))⟩; replace HO307 : Aside0 (Kd.R (Kd.int .i64) 3 w63 w.heap.size (fun k_ => (w.heap.size ≤ k_) ∧ some k_ ≠ (.slice Ao52 t308.length co52 : Value).ownBlock ∧ some k_ ≠ (.slice Ao53 t311.length co53 : Value).ownBlock ∧ some k_ ≠ (.slice Ao56 t315.length co56 : Value).ownBlock ∧ some k_ ≠ (.slice Ao61 t318.length co61 : Value).ownBlock ∧ some k_ ≠ (.slice Ao62 t321.length co62 : Value).ownBlock) (.slice Ao48 t305.length co48) t305) := ⟨(by rw [hw]; exact (by (with_reducible repeat (first | apply Kd.R_alloc | apply Kd.R_drewN | apply Kd.R_drew)); exact Kd.R_mono (Kd.R_far (p := ⟨gb324, 2, none⟩) (Kd.R_far (p := ⟨gb324, 1, none⟩) (Kd.R_far (p := ⟨gb324, 0, none⟩) (Kd.R_types HO307.out BK324.out (by decide)) (fun _ hk => hk.2) (.slice Ao56 t315.length co56)) (fun _ hk => hk.2) (.slice Ao61 t318.length co61)) (fun _ hk => hk.2) (.slice Ao62 t321.length co62)) (fun _ hk => ⟨hk.1.1.1.1.1, ⟨hk.1.1.1.1.2.1, ⟨hk.1.1.1.1.2.2, ⟨hk.1.1.1.2, ⟨hk.1.1.2, hk.1.2⟩⟩⟩⟩⟩)))⟩; replace HO310 : Aside0 (Kd.R (Kd.int .i64) 3 w63 w.heap.size (fun k_ => (w.heap.size ≤ k_) ∧ some k_ ≠ (.slice Ao48 t305.length co48 : Value).ownBlock ∧ some k_ ≠ (.slice Ao53 t311.length co53 : Value).ownBlock ∧ some k_ ≠ (.slice Ao56 t315.length co56 : Value).ownBlock ∧ some k_ ≠ (.slice Ao61 t318.length co61 : Value).ownBlock ∧ some k_ ≠ (.slice Ao62 t321.length co62 : Value).ownBlock) (.slice Ao52 t308.length co52) t308) := ⟨(by rw [hw]; exact (by (with_reducible repeat (first | apply Kd.R_alloc | apply Kd.R_drewN | apply Kd.R_drew)); exact Kd.R_mono (Kd.R_far (p := ⟨gb324, 2, none⟩) (Kd.R_far (p := ⟨gb324, 1, none⟩) (Kd.R_far (p := ⟨gb324, 0, none⟩) (Kd.R_types HO310.out BK324.out (by decide)) (fun _ hk => hk.2) (.slice Ao56 t315.length co56)) (fun _ hk => hk.2) (.slice Ao61 t318.length co61)) (fun _ hk => hk.2) (.slice Ao62 t321.length co62)) (fun _ hk => ⟨hk.1.1.1.1.1, ⟨hk.1.1.1.1.2.1, ⟨hk.1.1.1.1.2.2, ⟨hk.1.1.1.2, ⟨hk.1.1.2, hk.1.2⟩⟩⟩⟩⟩)))⟩; replace HO313 : Aside0 (Kd.R (Kd.int .i64) 3 w63 w.heap.size (fun k_ => (w.heap.size ≤ k_) ∧ some k_ ≠ (.slice Ao48 t305.length co48 : Value).ownBlock ∧ some k_ ≠ (.slice Ao52 t308.length co52 : Value).ownBlock ∧ some k_ ≠ (.slice Ao56 t315.length co56 : Value).ownBlock ∧ some k_ ≠ (.slice Ao61 t318.length co61 : Value).ownBlock ∧ some k_ ≠ (.slice Ao62 t321.length co62 : Value).ownBlock) (.slice Ao53 t311.length co53) t311) := ⟨(by rw [hw]; exact (by (with_reducible repeat (first | apply Kd.R_alloc | apply Kd.R_drewN | apply Kd.R_drew)); exact Kd.R_mono (Kd.R_far (p := ⟨gb324, 2, none⟩) (Kd.R_far (p := ⟨gb324, 1, none⟩) (Kd.R_far (p := ⟨gb324, 0, none⟩) (Kd.R_types HO313.out BK324.out (by decide)) (fun _ hk => hk.2) (.slice Ao56 t315.length co56)) (fun _ hk => hk.2) (.slice Ao61 t318.length co61)) (fun _ hk => hk.2) (.slice Ao62 t321.length co62)) (fun _ hk => ⟨hk.1.1.1.1.1, ⟨hk.1.1.1.1.2.1, ⟨hk.1.1.1.1.2.2, ⟨hk.1.1.1.2, ⟨hk.1.1.2, hk.1.2⟩⟩⟩⟩⟩)))⟩; replace HO317 : Aside0 (Kd.R (Kd.int .i64) 3 w63 w.heap.size (fun k_ => (w.heap.size ≤ k_) ∧ some k_ ≠ (.slice Ao48 t305.length co48 : Value).ownBlock ∧ some k_ ≠ (.slice Ao52 t308.length co52 : Value).ownBlock ∧ some k_ ≠ (.slice Ao53 t311.length co53 : Value).ownBlock ∧ some k_ ≠ (.slice Ao61 t318.length co61 : Value).ownBlock ∧ some k_ ≠ (.slice Ao62 t321.length co62 : Value).ownBlock) (.slice Ao56 t315.length co56) t315) := ⟨(by rw [hw]; exact (by (with_reducible repeat (first | apply Kd.R_alloc | apply Kd.R_drewN | apply Kd.R_drew)); exact Kd.R_mono (Kd.R_far (p := ⟨gb324, 2, none⟩) (Kd.R_far (p := ⟨gb324, 1, none⟩) (Kd.R_far (p := ⟨gb324, 0, none⟩) (Kd.R_types HO317.out BK324.out (by decide)) (fun _ hk => hk.2) (.slice Ao56 t315.length co56)) (fun _ hk => hk.2) (.slice Ao61 t318.length co61)) (fun _ hk => hk.2) (.slice Ao62 t321.length co62)) (fun _ hk => ⟨hk.1.1.1.1.1, ⟨hk.1.1.1.2, ⟨hk.1.1.2, ⟨hk.1.2, ⟨hk.1.1.1.1.2.1, hk.1.1.1.1.2.2⟩⟩⟩⟩⟩)))⟩; replace HO320 : Aside0 (Kd.R (Kd.int .i64) 3 w63 w.heap.size (fun k_ => (w.heap.size ≤ k_) ∧ some k_ ≠ (.slice Ao48 t305.length co48 : Value).ownBlock ∧ some k_ ≠ (.slice Ao52 t308.length co52 : Value).ownBlock ∧ some k_ ≠ (.slice Ao53 t311.length co53 : Value).ownBlock ∧ some k_ ≠ (.slice Ao56 t315.length co56 : Value).ownBlock ∧ some k_ ≠ (.slice Ao62 t321.length co62 : Value).ownBlock) (.slice Ao61 t318.length co61) t318) := ⟨(by rw [hw]; exact (by (with_reducible repeat (first | apply Kd.R_alloc | apply Kd.R_drewN | apply Kd.R_drew)); exact Kd.R_mono (Kd.R_far (p := ⟨gb324, 2, none⟩) (Kd.R_far (p := ⟨gb324, 1, none⟩) (Kd.R_far (p := ⟨gb324, 0, none⟩) (Kd.R_types HO320.out BK324.out (by decide)) (fun _ hk => hk.2) (.slice Ao56 t315.length co56)) (fun _ hk => hk.2) (.slice Ao61 t318.length co61)) (fun _ hk => hk.2) (.slice Ao62 t321.length co62)) (fun _ hk => ⟨hk.1.1.1.1.1, ⟨hk.1.1.1.2, ⟨hk.1.1.2, ⟨hk.1.2, ⟨hk.1.1.1.1.2.1, hk.1.1.1.1.2.2⟩⟩⟩⟩⟩)))⟩; replace HO323 : Aside0 (Kd.R (Kd.int .i64) 3 w63 w.heap.size (fun k_ => (w.heap.size ≤ k_) ∧ some k_ ≠ (.slice Ao48 t305.length co48 : Value).ownBlock ∧ some k_ ≠ (.slice Ao52 t308.length co52 : Value).ownBlock ∧ some k_ ≠ (.slice Ao53 t311.length co53 : Value).ownBlock ∧ some k_ ≠ (.slice Ao56 t315.length co56 : Value).ownBlock ∧ some k_ ≠ (.slice Ao61 t318.length co61 : Value).ownBlock) (.slice Ao62 t321.length co62) t321) := ⟨(by rw [hw]; exact (by (with_reducible repeat (first | apply Kd.R_alloc | apply Kd.R_drewN | apply Kd.R_drew)); exact Kd.R_mono (Kd.R_far (p := ⟨gb324, 2, none⟩) (Kd.R_far (p := ⟨gb324, 1, none⟩) (Kd.R_far (p := ⟨gb324, 0, none⟩) (Kd.R_types HO323.out BK324.out (by decide)) (fun _ hk => hk.2) (.slice Ao56 t315.length co56)) (fun _ hk => hk.2) (.slice Ao61 t318.length co61)) (fun _ hk => hk.2) (.slice Ao62 t321.length co62)) (fun _ hk => ⟨hk.1.1.1.1.1, ⟨hk.1.1.1.2, ⟨hk.1.1.2, ⟨hk.1.2, ⟨hk.1.1.1.1.2.1, hk.1.1.1.1.2.2⟩⟩⟩⟩⟩)))⟩; replace BK287 : Aside0 (w63.heap[gb287]? = some (.cells #[.int .i64 0, .int .i64 0, .slice none 0 0] 43 (0, 0))) := ⟨(by rw [hw]; exact (bP BK287))⟩; replace BK288 : Aside0 (w63.heap[gb288]? = some (.cells #[.int .i64 11, .int .i64 2, u289002] 43 (0, 0))) := ⟨(by rw [hw]; exact (bP BK288))⟩; replace BK314 : Aside0 (w63.heap[gb314]? = some (.cells #[.slice Ao48 t305.length co48, .slice Ao52 t308.length co52, .slice Ao53 t311.length co53] 75 (0, 0))) := ⟨(by rw [hw]; exact (bP BK314))⟩; replace BK324 : Aside0 (w63.heap[gb324]? = some (.cells #[.slice Ao56 t315.length co56, .slice Ao61 t318.length co61, .slice Ao62 t321.length co62] 75 (0, 0))) := ⟨(by rw [hw]; exact (bU BK324))⟩; replace HB : Aside0 (Below w.heap.size w w63) := ⟨(by rw [hw]; exact (bZ HB))⟩; clear hw; obtain ⟨hcz64_0, hcz64_1, hcz64_2, hfz64_0, hfz64_1, hfz64_2⟩ := bK3 (w := w63) BK314; have p43 : 0 ≤ (0 : Int) := (by omega); have q43 : (0 : Int) < ((t305.length : Int) : Int) := of_decide_eq_true (by first | (with_reducible assumption) | assumption); have qi43 : (0 < t305.length) = True := eq_true (by omega); obtain ⟨go43, co43, eo43, gb43, gl43, cl43, HG43⟩ := Kd.R_form HO307.out (by omega); (first | cases eo43 | (injection eo43 with ea_ en_ ec_; (first | subst ea_ | (injection ea_ with ea_; subst ea_)); subst ec_; clear en_)); have GB43 := Aside0.mk gb43; have GG43 := Aside0.mk HG43; clear gb43 gl43 HG43; obtain ⟨hx43_0, hf43_0⟩ := Kd.R_celln 0 HO307.out (0 : Int) p43 q43; (try rw [show ((0 : Int)).toNat = 0 from rfl] at hx43_0); (try simp only [Nat.reduceMul, Nat.zero_mul, Nat.zero_add, Nat.reduceAdd] at hx43_0); (try rw [show ((0 : Int)).toNat = 0 from rfl] at hf43_0); (try simp only [Nat.reduceMul, Nat.zero_mul, Nat.zero_add, Nat.reduceAdd] at hf43_0); replace p43 := eq_true p43; replace q43 := eq_true q43; obtain ⟨hy65_, hz65_⟩ := Kd.R_celln 0 HO307.out (0 : Int) (by omega) (of_decide_eq_true (by first | (with_reducible assumption) | assumption)); (try simp only [Int.reduceToNat, Int.toNat_zero, Int.toNat_ofNat, Nat.reduceMul, Nat.zero_mul, Nat.zero_add] at hy65_ hz65_); (try rw [show ((0 : Int)).toNat = 0 from rfl] at hy65_); (try rw [show ((0 : Int)).toNat = 0 from rfl] at hz65_); have HP65 := Kd.R_putg HO307.out (0 : Int) 1) | ((with_reducible refine gate_store (t := 3) (p := 43) rfl ?_); refine store_event (t := 3) (p := 43) (v := ?vo_w66) (w1 := (w63.setCell ⟨go43, (0 : Int).toNat, none⟩ (.int .i64 1))) ?hg ?ho ?hn ?hr ?_; (case ho => rfl); (case hg => rfl); (case hn => rfl); (case hr => first | (go_simp; done) | (go_simp; rfl)); intro w66 hw; have hg : w63.grownBy w66 (some go43) := (by rw [hw]; exact HP65.2); have hp_ : Kd.R (Kd.int .i64) 3 w66 w.heap.size (fun k_ => (w.heap.size ≤ k_) ∧ some k_ ≠ (.slice Ao52 t308.length co52 : Value).ownBlock ∧ some k_ ≠ (.slice Ao53 t311.length co53 : Value).ownBlock ∧ some k_ ≠ (.slice Ao56 t315.length co56 : Value).ownBlock ∧ some k_ ≠ (.slice Ao61 t318.length co61 : Value).ownBlock ∧ some k_ ≠ (.slice Ao62 t321.length co62 : Value).ownBlock) (.slice (some ⟨go43, 0, none⟩) t305.length co48) y325 := (by rw [hw, Ny325.out]; exact HP65.1); clear HP65; replace HO_289002 := Aside0.mk (Kd.N_afterv (v := (.slice (some ⟨go43, 0, none⟩) t305.length co48)) (v1 := (.slice (some ⟨go43, 0, none⟩) t305.length co48)) (ok := (fun k_ => (w.heap.size ≤ k_) ∧ some k_ ≠ (.slice Ao52 t308.length co52 : Value).ownBlock ∧ some k_ ≠ (.slice Ao53 t311.length co53 : Value).ownBlock ∧ some k_ ≠ (.slice Ao56 t315.length co56 : Value).ownBlock ∧ some k_ ≠ (.slice Ao61 t318.length co61 : Value).ownBlock ∧ some k_ ≠ (.slice Ao62 t321.length co62 : Value).ownBlock ∧ k_ ≠ gb287 ∧ k_ ≠ gb288 ∧ k_ ≠ gb314 ∧ k_ ≠ gb324)) (by (with_reducible repeat (first | apply Kd.N_alloc | apply Kd.N_drewN | apply Kd.N_drew)); exact Kd.N_mono HO_289002.out (fun _ hk => ⟨⟨hk.1, ⟨hk.2.2.1, ⟨hk.2.2.2.1, ⟨hk.2.2.2.2.1, ⟨hk.2.2.2.2.2.1, ⟨hk.2.2.2.2.2.2.1, ⟨hk.2.2.2.2.2.2.2.1, ⟨hk.2.2.2.2.2.2.2.2.1, ⟨hk.2.2.2.2.2.2.2.2.2.1, hk.2.2.2.2.2.2.2.2.2.2⟩⟩⟩⟩⟩⟩⟩⟩⟩, hk.2.1⟩)) hg (.inl rfl)); replace BK287 := Aside0.mk (blk_grown (bP BK287) hg (Kd.R_ne HO307.out BK287.out (by decide))); replace BK288 := Aside0.mk (blk_grown (bP BK288) hg (Kd.R_ne HO307.out BK288.out (by decide))); replace HO310 := Aside0.mk (Kd.R_after (v := (.slice (some ⟨go43, 0, none⟩) t305.length co48)) (v1 := (.slice (some ⟨go43, 0, none⟩) t305.length co48)) (ok := (fun k_ => (w.heap.size ≤ k_) ∧ some k_ ≠ (.slice Ao53 t311.length co53 : Value).ownBlock ∧ some k_ ≠ (.slice Ao56 t315.length co56 : Value).ownBlock ∧ some k_ ≠ (.slice Ao61 t318.length co61 : Value).ownBlock ∧ some k_ ≠ (.slice Ao62 t321.length co62 : Value).ownBlock)) (by (with_reducible repeat (first | apply Kd.R_alloc | apply Kd.R_drewN | apply Kd.R_drew)); exact Kd.R_mono HO310.out (fun _ hk => ⟨⟨hk.1, ⟨hk.2.2.1, ⟨hk.2.2.2.1, ⟨hk.2.2.2.2.1, hk.2.2.2.2.2⟩⟩⟩⟩, hk.2.1⟩)) hg (.inl rfl)); replace HO313 := Aside0.mk (Kd.R_after (v := (.slice (some ⟨go43, 0, none⟩) t305.length co48)) (v1 := (.slice (some ⟨go43, 0, none⟩) t305.length co48)) (ok := (fun k_ => (w.heap.size ≤ k_) ∧ some k_ ≠ (.slice Ao52 t308.length co52 : Value).ownBlock ∧ some k_ ≠ (.slice Ao56 t315.length co56 : Value).ownBlock ∧ some k_ ≠ (.slice Ao61 t318.length co61 : Value).ownBlock ∧ some k_ ≠ (.slice Ao62 t321.length co62 : Value).ownBlock)) (by (with_reducible repeat (first | apply Kd.R_alloc | apply Kd.R_drewN | apply Kd.R_drew)); exact Kd.R_mono HO313.out (fun _ hk => ⟨⟨hk.1, ⟨hk.2.2.1, ⟨hk.2.2.2.1, ⟨hk.2.2.2.2.1, hk.2.2.2.2.2⟩⟩⟩⟩, hk.2.1⟩)) hg (.inl rfl)); replace BK314 := Aside0.mk (blk_grown (bP BK314) hg (Kd.R_ne HO307.out BK314.out (by decide))); replace HO317 := Aside0.mk (Kd.R_after (v := (.slice (some ⟨go43, 0, none⟩) t305.length co48)) (v1 := (.slice (some ⟨go43, 0, none⟩) t305.length co48)) (ok := (fun k_ => (w.heap.size ≤ k_) ∧ some k_ ≠ (.slice Ao52 t308.length co52 : Value).ownBlock ∧ some k_ ≠ (.slice Ao53 t311.length co53 : Value).ownBlock ∧ some k_ ≠ (.slice Ao61 t318.length co61 : Value).ownBlock ∧ some k_ ≠ (.slice Ao62 t321.length co62 : Value).ownBlock)) (by (with_reducible repeat (first | apply Kd.R_alloc | apply Kd.R_drewN | apply Kd.R_drew)); exact Kd.R_mono HO317.out (fun _ hk => ⟨⟨hk.1, ⟨hk.2.2.1, ⟨hk.2.2.2.1, ⟨hk.2.2.2.2.1, hk.2.2.2.2.2⟩⟩⟩⟩, hk.2.1⟩)) hg (.inl rfl)); replace HO320 := Aside0.mk (Kd.R_after (v := (.slice (some ⟨go43, 0, none⟩) t305.length co48)) (v1 := (.slice (some ⟨go43, 0, none⟩) t305.length co48)) (ok := (fun k_ => (w.heap.size ≤ k_) ∧ some k_ ≠ (.slice Ao52 t308.length co52 : Value).ownBlock ∧ some k_ ≠ (.slice Ao53 t311.length co53 : Value).ownBlock ∧ some k_ ≠ (.slice Ao56 t315.length co56 : Value).ownBlock ∧ some k_ ≠ (.slice Ao62 t321.length co62 : Value).ownBlock)) (by (with_reducible repeat (first | apply Kd.R_alloc | apply Kd.R_drewN | apply Kd.R_drew)); exact Kd.R_mono HO320.out (fun _ hk => ⟨⟨hk.1, ⟨hk.2.2.1, ⟨hk.2.2.2.1, ⟨hk.2.2.2.2.1, hk.2.2.2.2.2⟩⟩⟩⟩, hk.2.1⟩)) hg (.inl rfl)); replace HO323 := Aside0.mk (Kd.R_after (v := (.slice (some ⟨go43, 0, none⟩) t305.length co48)) (v1 := (.slice (some ⟨go43, 0, none⟩) t305.length co48)) (ok := (fun k_ => (w.heap.size ≤ k_) ∧ some k_ ≠ (.slice Ao52 t308.length co52 : Value).ownBlock ∧ some k_ ≠ (.slice Ao53 t311.length co53 : Value).ownBlock ∧ some k_ ≠ (.slice Ao56 t315.length co56 : Value).ownBlock ∧ some k_ ≠ (.slice Ao61 t318.length co61 : Value).ownBlock)) (by (with_reducible repeat (first | apply Kd.R_alloc | apply Kd.R_drewN | apply Kd.R_drew)); exact Kd.R_mono HO323.out (fun _ hk => ⟨⟨hk.1, ⟨hk.2.2.1, ⟨hk.2.2.2.1, ⟨hk.2.2.2.2.1, hk.2.2.2.2.2⟩⟩⟩⟩, hk.2.1⟩)) hg (.inl rfl)); replace BK324 := Aside0.mk (blk_grown (bP BK324) hg (Kd.R_ne HO307.out BK324.out (by decide))); replace HO307 := Aside0.mk (hp_); replace HB := Aside0.mk ((by rw [hw]; exact below_set (HB.out) GB43.out : Below w.heap.size w w66)); clear hg hw hp_; obtain ⟨hcz67_0, hcz67_1, hcz67_2, hfz67_0, hfz67_1, hfz67_2⟩ := bK3 (w := w66) BK324; have p45 : 0 ≤ (0 : Int) := (by omega); have q45 : (0 : Int) < ((t315.length : Int) : Int) := of_decide_eq_true (by first | (with_reducible assumption) | assumption); have qi45 : (0 < t315.length) = True := eq_true (by omega); obtain ⟨go45, co45, eo45, gb45, gl45, cl45, HG45⟩ := Kd.R_form HO317.out (by omega); (first | cases eo45 | (injection eo45 with ea_ en_ ec_; (first | subst ea_ | (injection ea_ with ea_; subst ea_)); subst ec_; clear en_)); have GB45 := Aside0.mk gb45; have GG45 := Aside0.mk HG45; clear gb45 gl45 HG45; obtain ⟨hx45_0, hf45_0⟩ := Kd.R_celln 0 HO317.out (0 : Int) p45 q45; (try rw [show ((0 : Int)).toNat = 0 from rfl] at hx45_0); (try simp only [Nat.reduceMul, Nat.zero_mul, Nat.zero_add, Nat.reduceAdd] at hx45_0); (try rw [show ((0 : Int)).toNat = 0 from rfl] at hf45_0); (try simp only [Nat.reduceMul, Nat.zero_mul, Nat.zero_add, Nat.reduceAdd] at hf45_0); replace p45 := eq_true p45; replace q45 := eq_true q45; have n_ := Aside0.mk (Kd.R_mono (ok' := (fun k_ => (w.heap.size ≤ k_) ∧ some k_ ≠ (.slice (some ⟨go43, 0, none⟩) t305.length co48 : Value).ownBlock ∧ some k_ ≠ (.slice Ao52 t308.length co52 : Value).ownBlock ∧ some k_ ≠ (.slice Ao53 t311.length co53 : Value).ownBlock ∧ some k_ ≠ (.slice Ao61 t318.length co61 : Value).ownBlock ∧ some k_ ≠ (.slice Ao62 t321.length co62 : Value).ownBlock)) HO317.out (fun k_ hk => ⟨hk.1.1, ⟨hk.2, ⟨hk.1.2.1, ⟨hk.1.2.2.1, ⟨hk.1.2.2.2.1, hk.1.2.2.2.2⟩⟩⟩⟩⟩)); clear HO317; have HO317 := n_; clear n_; obtain ⟨hy68_, hz68_⟩ := Kd.R_celln 0 HO317.out (0 : Int) (by omega) (of_decide_eq_true (by first | (with_reducible assumption) | assumption)); (try simp only [Int.reduceToNat, Int.toNat_zero, Int.toNat_ofNat, Nat.reduceMul, Nat.zero_mul, Nat.zero_add] at hy68_ hz68_); (try rw [show ((0 : Int)).toNat = 0 from rfl] at hy68_); (try rw [show ((0 : Int)).toNat = 0 from rfl] at hz68_); have HP68 := Kd.R_putg HO317.out (0 : Int) 1) | ((with_reducible refine gate_store (t := 3) (p := 46) rfl ?_); refine store_event (t := 3) (p := 46) (v := ?vo_w69) (w1 := (w66.setCell ⟨go45, (0 : Int).toNat, none⟩ (.int .i64 1))) ?hg ?ho ?hn ?hr ?_; (case ho => rfl); (case hg => rfl); (case hn => rfl); (case hr => first | (go_simp; done) | (go_simp; rfl)); intro w69 hw; have hg : w66.grownBy w69 (some go45) := (by rw [hw]; exact HP68.2); have hp_ : Kd.R (Kd.int .i64) 3 w69 w.heap.size (fun k_ => (w.heap.size ≤ k_) ∧ some k_ ≠ (.slice (some ⟨go43, 0, none⟩) t305.length co48 : Value).ownBlock ∧ some k_ ≠ (.slice Ao52 t308.length co52 : Value).ownBlock ∧ some k_ ≠ (.slice Ao53 t311.length co53 : Value).ownBlock ∧ some k_ ≠ (.slice Ao61 t318.length co61 : Value).ownBlock ∧ some k_ ≠ (.slice Ao62 t321.length co62 : Value).ownBlock) (.slice (some ⟨go45, 0, none⟩) t315.length co56) y326 := (by rw [hw, Ny326.out]; exact HP68.1); clear HP68; replace HO_289002 := Aside0.mk (Kd.N_afterv (v := (.slice (some ⟨go45, 0, none⟩) t315.length co56)) (v1 := (.slice (some ⟨go45, 0, none⟩) t315.length co56)) (ok := (fun k_ => (w.heap.size ≤ k_) ∧ some k_ ≠ (.slice (some ⟨go43, 0, none⟩) t305.length co48 : Value).ownBlock ∧ some k_ ≠ (.slice Ao52 t308.length co52 : Value).ownBlock ∧ some k_ ≠ (.slice Ao53 t311.length co53 : Value).ownBlock ∧ some k_ ≠ (.slice Ao61 t318.length co61 : Value).ownBlock ∧ some k_ ≠ (.slice Ao62 t321.length co62 : Value).ownBlock ∧ k_ ≠ gb287 ∧ k_ ≠ gb288 ∧ k_ ≠ gb314 ∧ k_ ≠ gb324)) (by (with_reducible repeat (first | apply Kd.N_alloc | apply Kd.N_drewN | apply Kd.N_drew)); exact Kd.N_mono HO_289002.out (fun _ hk => ⟨⟨hk.1.1, ⟨hk.2, ⟨hk.1.2.1, ⟨hk.1.2.2.1, ⟨hk.1.2.2.2.2.1, ⟨hk.1.2.2.2.2.2.1, ⟨hk.1.2.2.2.2.2.2.1, ⟨hk.1.2.2.2.2.2.2.2.1, ⟨hk.1.2.2.2.2.2.2.2.2.1, hk.1.2.2.2.2.2.2.2.2.2⟩⟩⟩⟩⟩⟩⟩⟩⟩, hk.1.2.2.2.1⟩)) hg (.inl rfl)); replace BK287 := Aside0.mk (blk_grown (bP BK287) hg (Kd.R_ne HO317.out BK287.out (by decide))); replace BK288 := Aside0.mk (blk_grown (bP BK288) hg (Kd.R_ne HO317.out BK288.out (by decide))); replace HO307 := Aside0.mk (Kd.R_after (v := (.slice (some ⟨go45, 0, none⟩) t315.length co56)) (v1 := (.slice (some ⟨go45, 0, none⟩) t315.length co56)) (ok := (fun k_ => (w.heap.size ≤ k_) ∧ some k_ ≠ (.slice Ao52 t308.length co52 : Value).ownBlock ∧ some k_ ≠ (.slice Ao53 t311.length co53 : Value).ownBlock ∧ some k_ ≠ (.slice Ao61 t318.length co61 : Value).ownBlock ∧ some k_ ≠ (.slice Ao62 t321.length co62 : Value).ownBlock)) (by (with_reducible repeat (first | apply Kd.R_alloc | apply Kd.R_drewN | apply Kd.R_drew)); exact Kd.R_mono HO307.out (fun _ hk => ⟨⟨hk.1, ⟨hk.2.1, ⟨hk.2.2.1, ⟨hk.2.2.2.2.1, hk.2.2.2.2.2⟩⟩⟩⟩, hk.2.2.2.1⟩)) hg (.inl rfl)); replace HO310 := Aside0.mk (Kd.R_after (v := (.slice (some ⟨go45, 0, none⟩) t315.length co56)) (v1 := (.slice (some ⟨go45, 0, none⟩) t315.length co56)) (ok := (fun k_ => (w.heap.size ≤ k_) ∧ some k_ ≠ (.slice (some ⟨go43, 0, none⟩) t305.length co48 : Value).ownBlock ∧ some k_ ≠ (.slice Ao53 t311.length co53 : Value).ownBlock ∧ some k_ ≠ (.slice Ao61 t318.length co61 : Value).ownBlock ∧ some k_ ≠ (.slice Ao62 t321.length co62 : Value).ownBlock)) (by (with_reducible repeat (first | apply Kd.R_alloc | apply Kd.R_drewN | apply Kd.R_drew)); exact Kd.R_mono HO310.out (fun _ hk => ⟨⟨hk.1.1, ⟨hk.2, ⟨hk.1.2.1, ⟨hk.1.2.2.2.1, hk.1.2.2.2.2⟩⟩⟩⟩, hk.1.2.2.1⟩)) hg (.inl rfl)); replace HO313 := Aside0.mk (Kd.R_after (v := (.slice (some ⟨go45, 0, none⟩) t315.length co56)) (v1 := (.slice (some ⟨go45, 0, none⟩) t315.length co56)) (ok := (fun k_ => (w.heap.size ≤ k_) ∧ some k_ ≠ (.slice (some ⟨go43, 0, none⟩) t305.length co48 : Value).ownBlock ∧ some k_ ≠ (.slice Ao52 t308.length co52 : Value).ownBlock ∧ some k_ ≠ (.slice Ao61 t318.length co61 : Value).ownBlock ∧ some k_ ≠ (.slice Ao62 t321.length co62 : Value).ownBlock)) (by (with_reducible repeat (first | apply Kd.R_alloc | apply Kd.R_drewN | apply Kd.R_drew)); exact Kd.R_mono HO313.out (fun _ hk => ⟨⟨hk.1.1, ⟨hk.2, ⟨hk.1.2.1, ⟨hk.1.2.2.2.1, hk.1.2.2.2.2⟩⟩⟩⟩, hk.1.2.2.1⟩)) hg (.inl rfl)); replace BK314 := Aside0.mk (blk_grown (bP BK314) hg (Kd.R_ne HO317.out BK314.out (by decide))); replace HO320 := Aside0.mk (Kd.R_after (v := (.slice (some ⟨go45, 0, none⟩) t315.length co56)) (v1 := (.slice (some ⟨go45, 0, none⟩) t315.length co56)) (ok := (fun k_ => (w.heap.size ≤ k_) ∧ some k_ ≠ (.slice (some ⟨go43, 0, none⟩) t305.length co48 : Value).ownBlock ∧ some k_ ≠ (.slice Ao52 t308.length co52 : Value).ownBlock ∧ some k_ ≠ (.slice Ao53 t311.length co53 : Value).ownBlock ∧ some k_ ≠ (.slice Ao62 t321.length co62 : Value).ownBlock)) (by (with_reducible repeat (first | apply Kd.R_alloc | apply Kd.R_drewN | apply Kd.R_drew)); exact Kd.R_mono HO320.out (fun _ hk => ⟨⟨hk.1.1, ⟨hk.2, ⟨hk.1.2.1, ⟨hk.1.2.2.1, hk.1.2.2.2.2⟩⟩⟩⟩, hk.1.2.2.2.1⟩)) hg (.inl rfl)); replace HO323 := Aside0.mk (Kd.R_after (v := (.slice (some ⟨go45, 0, none⟩) t315.length co56)) (v1 := (.slice (some ⟨go45, 0, none⟩) t315.length co56)) (ok := (fun k_ => (w.heap.size ≤ k_) ∧ some k_ ≠ (.slice (some ⟨go43, 0, none⟩) t305.length co48 : Value).ownBlock ∧ some k_ ≠ (.slice Ao52 t308.length co52 : Value).ownBlock ∧ some k_ ≠ (.slice Ao53 t311.length co53 : Value).ownBlock ∧ some k_ ≠ (.slice Ao61 t318.length co61 : Value).ownBlock)) (by (with_reducible repeat (first | apply Kd.R_alloc | apply Kd.R_drewN | apply Kd.R_drew)); exact Kd.R_mono HO323.out (fun _ hk => ⟨⟨hk.1.1, ⟨hk.2, ⟨hk.1.2.1, ⟨hk.1.2.2.1, hk.1.2.2.2.2⟩⟩⟩⟩, hk.1.2.2.2.1⟩)) hg (.inl rfl)); replace BK324 := Aside0.mk (blk_grown (bP BK324) hg (Kd.R_ne HO317.out BK324.out (by decide))); replace HO317 := Aside0.mk (hp_); replace HB := Aside0.mk ((by rw [hw]; exact below_set (HB.out) GB45.out : Below w.heap.size w w69)); clear hg hw hp_))
      go_loopg [7] k1 (fun kq v7 w' => ∃ (x7_2 : Int) (x315000_2 : List Int) (x315001_2 : List Int) (x315002_2 : List Int) (x325000_2 : List Int) (x325001_2 : List Int) (x325002_2 : List Int) (u315000 : Value) (u315001 : Value) (u315002 : Value) (u325000 : Value) (u325001 : Value) (u325002 : Value), v7 = .int .i64 x7_2 ∧ Aside0 (spec_CountSystem.l1 kq x7_2 11 2 x289002_1 x315000_2 x315001_2 x315002_2 x325000_2 x325001_2 x325002_2 = some (r1, r2, r3)) ∧ Aside0 (kq ≤ k1) ∧ Aside0 (Kd.N k75 75 w' w.heap.size (fun k_ => (w.heap.size ≤ k_) ∧ some k_ ≠ (u315000 : Value).ownBlock ∧ some k_ ≠ (u315001 : Value).ownBlock ∧ some k_ ≠ (u315002 : Value).ownBlock ∧ some k_ ≠ (u325000 : Value).ownBlock ∧ some k_ ≠ (u325001 : Value).ownBlock ∧ some k_ ≠ (u325002 : Value).ownBlock ∧ k_ ≠ gb287 ∧ k_ ≠ gb288 ∧ k_ ≠ gb314 ∧ k_ ≠ gb324) u289002 x289002_1) ∧ Aside0 (Kd.R (Kd.int .i64) 3 w' w.heap.size (fun k_ => (w.heap.size ≤ k_) ∧ some k_ ≠ (u315001 : Value).ownBlock ∧ some k_ ≠ (u315002 : Value).ownBlock ∧ some k_ ≠ (u325000 : Value).ownBlock ∧ some k_ ≠ (u325001 : Value).ownBlock ∧ some k_ ≠ (u325002 : Value).ownBlock) u315000 x315000_2) ∧ Aside0 (Kd.R (Kd.int .i64) 3 w' w.heap.size (fun k_ => (w.heap.size ≤ k_) ∧ some k_ ≠ (u315000 : Value).ownBlock ∧ some k_ ≠ (u315002 : Value).ownBlock ∧ some k_ ≠ (u325000 : Value).ownBlock ∧ some k_ ≠ (u325001 : Value).ownBlock ∧ some k_ ≠ (u325002 : Value).ownBlock) u315001 x315001_2) ∧ Aside0 (Kd.R (Kd.int .i64) 3 w' w.heap.size (fun k_ => (w.heap.size ≤ k_) ∧ some k_ ≠ (u315000 : Value).ownBlock ∧ some k_ ≠ (u315001 : Value).ownBlock ∧ some k_ ≠ (u325000 : Value).ownBlock ∧ some k_ ≠ (u325001 : Value).ownBlock ∧ some k_ ≠ (u325002 : Value).ownBlock) u315002 x315002_2) ∧ Aside0 (Kd.R (Kd.int .i64) 3 w' w.heap.size (fun k_ => (w.heap.size ≤ k_) ∧ some k_ ≠ (u315000 : Value).ownBlock ∧ some k_ ≠ (u315001 : Value).ownBlock ∧ some k_ ≠ (u315002 : Value).ownBlock ∧ some k_ ≠ (u325001 : Value).ownBlock ∧ some k_ ≠ (u325002 : Value).ownBlock) u325000 x325000_2) ∧ Aside0 (Kd.R (Kd.int .i64) 3 w' w.heap.size (fun k_ => (w.heap.size ≤ k_) ∧ some k_ ≠ (u315000 : Value).ownBlock ∧ some k_ ≠ (u315001 : Value).ownBlock ∧ some k_ ≠ (u315002 : Value).ownBlock ∧ some k_ ≠ (u325000 : Value).ownBlock ∧ some k_ ≠ (u325002 : Value).ownBlock) u325001 x325001_2) ∧ Aside0 (Kd.R (Kd.int .i64) 3 w' w.heap.size (fun k_ => (w.heap.size ≤ k_) ∧ some k_ ≠ (u315000 : Value).ownBlock ∧ some k_ ≠ (u315001 : Value).ownBlock ∧ some k_ ≠ (u315002 : Value).ownBlock ∧ some k_ ≠ (u325000 : Value).ownBlock ∧ some k_ ≠ (u325001 : Value).ownBlock) u325002 x325002_2) ∧ Aside0 (w'.heap[gb287]? = some (.cells #[.int .i64 0, .int .i64 0, (.slice none 0 0)] 43 (0, 0))) ∧ Aside0 (w'.heap[gb288]? = some (.cells #[.int .i64 11, .int .i64 2, u289002] 43 (0, 0))) ∧ Aside0 (w'.heap[gb314]? = some (.cells #[u315000, u315001, u315002] 75 (0, 0))) ∧ Aside0 (w'.heap[gb324]? = some (.cells #[u325000, u325001, u325002] 75 (0, 0))) ∧ Aside0 (Below w.heap.size w w'))
      case atStart => exact ⟨(0), (y325), (t308), (t311), (y326), (t318), (t321), (.slice (some ⟨go43, 0, none⟩) t305.length co48), (.slice Ao52 t308.length co52), (.slice Ao53 t311.length co53), (.slice (some ⟨go45, 0, none⟩) t315.length co56), (.slice Ao61 t318.length co61), (.slice Ao62 t321.length co62), rS, H', ⟨Nat.le_refl _⟩, ⟨by (with_reducible repeat (first | apply Kd.N_alloc | apply Kd.N_drewN | apply Kd.N_drew)); exact Kd.N_mono HO_289002.out (fun _ hk => ⟨hk.1.1, ⟨hk.1.2.1, ⟨hk.1.2.2.1, ⟨hk.1.2.2.2.1, ⟨hk.2, ⟨hk.1.2.2.2.2.1, ⟨hk.1.2.2.2.2.2.1, ⟨hk.1.2.2.2.2.2.2.1, ⟨hk.1.2.2.2.2.2.2.2.1, ⟨hk.1.2.2.2.2.2.2.2.2.1, hk.1.2.2.2.2.2.2.2.2.2⟩⟩⟩⟩⟩⟩⟩⟩⟩⟩)⟩, ⟨by (with_reducible repeat (first | apply Kd.R_alloc | apply Kd.R_drewN | apply Kd.R_drew)); exact Kd.R_mono HO307.out (fun _ hk => ⟨hk.1.1, ⟨hk.1.2.1, ⟨hk.1.2.2.1, ⟨hk.2, ⟨hk.1.2.2.2.1, hk.1.2.2.2.2⟩⟩⟩⟩⟩)⟩, ⟨by (with_reducible repeat (first | apply Kd.R_alloc | apply Kd.R_drewN | apply Kd.R_drew)); exact Kd.R_mono HO310.out (fun _ hk => ⟨hk.1.1, ⟨hk.1.2.1, ⟨hk.1.2.2.1, ⟨hk.2, ⟨hk.1.2.2.2.1, hk.1.2.2.2.2⟩⟩⟩⟩⟩)⟩, ⟨by (with_reducible repeat (first | apply Kd.R_alloc | apply Kd.R_drewN | apply Kd.R_drew)); exact Kd.R_mono HO313.out (fun _ hk => ⟨hk.1.1, ⟨hk.1.2.1, ⟨hk.1.2.2.1, ⟨hk.2, ⟨hk.1.2.2.2.1, hk.1.2.2.2.2⟩⟩⟩⟩⟩)⟩, ⟨rP HO317⟩, ⟨by (with_reducible repeat (first | apply Kd.R_alloc | apply Kd.R_drewN | apply Kd.R_drew)); exact Kd.R_mono HO320.out (fun _ hk => ⟨hk.1.1, ⟨hk.1.2.1, ⟨hk.1.2.2.1, ⟨hk.1.2.2.2.1, ⟨hk.2, hk.1.2.2.2.2⟩⟩⟩⟩⟩)⟩, ⟨by (with_reducible repeat (first | apply Kd.R_alloc | apply Kd.R_drewN | apply Kd.R_drew)); exact Kd.R_mono HO323.out (fun _ hk => ⟨hk.1.1, ⟨hk.1.2.1, ⟨hk.1.2.2.1, ⟨hk.1.2.2.2.1, ⟨hk.2, hk.1.2.2.2.2⟩⟩⟩⟩⟩)⟩, ⟨bP BK287⟩, ⟨bP BK288⟩, ⟨bP BK314⟩, ⟨bP BK324⟩, ⟨bZ HB⟩⟩
      case round =>
       clear H'
       try clear c1
       try clear p1
       try clear q1
       try clear hx1
       try clear hf1
       try clear c2
       try clear p2
       try clear c3
       try clear c4
       try clear p4
       try clear q4
       try clear hx4
       try clear qi4
       try clear hf4
       try clear c5
       try clear c5b0
       try clear c6
       try clear p6
       try clear c8
       try clear c8b0
       try clear c9
       try clear c9b0
       try clear p10
       try clear q10
       try clear hx10
       try clear hf10
       try clear c11
       try clear c11b0
       try clear p12
       try clear q12
       try clear hx12
       try clear hf12
       try clear c13
       try clear c13b0
       try clear p14
       try clear q14
       try clear hx14
       try clear hf14
       try clear c15
       try clear c19
       try clear c20
       try clear c34
       try clear c37
       try clear c42
       try clear c42b0
       try clear c42b1
       try clear p43
       try clear q43
       try clear hx43
       try clear qi43
       try clear hf43
       try clear c44
       try clear c44b0
       try clear c44b1
       try clear p45
       try clear q45
       try clear hx45
       try clear qi45
       try clear hf45
       try clear c49
       try clear c50
       try clear c57
       try clear c58
       try clear c59
       try clear p64
       try clear c66
       try clear hcz21_0
       try clear hcz21_1
       try clear hcz21_2
       try clear hcz25_0
       try clear hcz25_1
       try clear hcz25_2
       try clear hcz28_0
       try clear hcz28_1
       try clear hcz28_2
       try clear hcz31_0
       try clear hcz31_1
       try clear hcz31_2
       try clear hcz35_0
       try clear hcz35_1
       try clear hcz35_2
       try clear hcz36_0
       try clear hcz36_1
       try clear hcz36_2
       try clear hcz39_0
       try clear hcz39_1
       try clear hcz39_2
       try clear hcz4_0
       try clear hcz4_1
       try clear hcz4_2
       try clear hcz51_0
       try clear hcz51_1
       try clear hcz51_2
       try clear hcz60_0
       try clear hcz60_1
       try clear hcz60_2
       try clear hcz64_0
       try clear hcz64_1
       try clear hcz64_2
       try clear hcz67_0
       try clear hcz67_1
       try clear hcz67_2
       try clear hfz21_0
       try clear hfz21_1
       try clear hfz21_2
       try clear hfz25_0
       try clear hfz25_1
       try clear hfz25_2
       try clear hfz28_0
       try clear hfz28_1
       try clear hfz28_2
       try clear hfz31_0
       try clear hfz31_1
       try clear hfz31_2
       try clear hfz35_0
       try clear hfz35_1
       try clear hfz35_2
       try clear hfz36_0
       try clear hfz36_1
       try clear hfz36_2
       try clear hfz39_0
       try clear hfz39_1
       try clear hfz39_2
       try clear hfz4_0
       try clear hfz4_1
       try clear hfz4_2
       try clear hfz51_0
       try clear hfz51_1
       try clear hfz51_2
       try clear hfz60_0
       try clear hfz60_1
       try clear hfz60_2
       try clear hfz64_0
       try clear hfz64_1
       try clear hfz64_2
       try clear hfz67_0
       try clear hfz67_1
       try clear hfz67_2
       try clear hx10_0
       try clear hx12_0
       try clear hx14_0
       try clear hx43_0
       try clear hx45_0
       try clear p10
       try clear p12
       try clear p14
       try clear p2
       try clear p43
       try clear p45
       try clear q10
       try clear q12
       try clear q14
       try clear q43
       try clear q45
       obtain ⟨x7_2, x315000_2, x315001_2, x315002_2, x325000_2, x325001_2, x325002_2, u315000, u315001, u315002, u325000, u325001, u325002, rfl, HA, HK2, HO_289002, HO_315000, HO_315001, HO_315002, HO_325000, HO_325001, HO_325002, BK287, BK288, BK314, BK324, HB⟩ := hrel
       cases gk with
       | zero => exact absurd HA.out (by simp [spec_CountSystem.l1])
       | succ k2 =>
        have H := HA.out
        clear HA
        simp only [spec_CountSystem.l1] at H
        by_cases c70 : x7_2 < 8
        ·rw [if_pos c70] at H
         have c70b0 := decide_eq_true c70
         clear c70
         obtain ⟨ji71, hji71⟩ : ∃ j_ : Int, (IntKind.u64.wrap (x7_2)) = j_ := ⟨_, rfl⟩
         replace H : (if 0 ≤ (ji71) then (if 0 ≤ (wrap64 (3 + x7_2)) then (if (wrap64 (3 + x7_2)) < (x315001_2.length : Int) then (if (wrap64 (3 + x7_2)) < (x325001_2.length : Int) then (spec_CountSystem.l1 k2 (wrap64 (x7_2 + 1)) 11 2 x289002_1 x315000_2 (x315001_2.set ((wrap64 (3 + x7_2)) : Int).toNat (shl .i64 1 (ji71))) x315002_2 x325000_2 (x325001_2.set ((wrap64 (3 + x7_2)) : Int).toNat 1) x325002_2) else (none)) else (none)) else (none)) else (none)) = some (r1, r2, r3) := by first | (rw [hji71] at H; exact H) | (simp only [hji71] at H ⊢; exact H)
         by_cases c72 : 0 ≤ (ji71)
         ·rw [if_pos c72] at H
          have c72b0 := eq_true c72
          have c72b1 := decide_eq_true c72
          clear c72
          obtain ⟨ji73, hji73⟩ : ∃ j_ : Int, (shl .i64 1 (ji71)) = j_ := ⟨_, rfl⟩
          replace H : (if 0 ≤ (wrap64 (3 + x7_2)) then (if (wrap64 (3 + x7_2)) < (x315001_2.length : Int) then (if (wrap64 (3 + x7_2)) < (x325001_2.length : Int) then (spec_CountSystem.l1 k2 (wrap64 (x7_2 + 1)) 11 2 x289002_1 x315000_2 (x315001_2.set ((wrap64 (3 + x7_2)) : Int).toNat (ji73)) x315002_2 x325000_2 (x325001_2.set ((wrap64 (3 + x7_2)) : Int).toNat 1) x325002_2) else (none)) else (none)) else (none)) = some (r1, r2, r3) := by first | (rw [hji73] at H; exact H) | (simp only [hji73] at H ⊢; exact H)
          have hji73_ : (IntKind.i64.wrap (1 * 2 ^ min (ji71).toNat 64)) = ji73 := hji73
          have hji73z : (ji71) ≤ 64 → (IntKind.i64.wrap (1 * 2 ^ (ji71).toNat)) = ji73 := shl_small hji73
          have hji73u : (IntKind.i64.wrap (2 ^ min (ji71).toNat 64)) = ji73 := by have h_ := hji73_; rw [Int.one_mul] at h_; exact h_
          have hji73v : (ji71) ≤ 64 → (IntKind.i64.wrap (2 ^ (ji71).toNat)) = ji73 := fun hle_ => by have h_ := hji73z hle_; rw [Int.one_mul] at h_; exact h_
          have hji73y : (wrap64 (1 * 2 ^ min (ji71).toNat 64)) = ji73 := (i64_w _).symm.trans hji73_
          have hji73x : (ji71) ≤ 64 → (wrap64 (1 * 2 ^ (ji71).toNat)) = ji73 := fun h_ => (i64_w _).symm.trans (hji73z h_)
          obtain ⟨ji74, hji74⟩ : ∃ j_ : Int, (wrap64 (3 + x7_2)) = j_ := ⟨_, rfl⟩
          replace H : (if 0 ≤ (ji74) then (if (ji74) < (x315001_2.length : Int) then (if (ji74) < (x325001_2.length : Int) then (spec_CountSystem.l1 k2 (wrap64 (x7_2 + 1)) 11 2 x289002_1 x315000_2 (x315001_2.set ((ji74) : Int).toNat (ji73)) x315002_2 x325000_2 (x325001_2.set ((ji74) : Int).toNat 1) x325002_2) else (none)) else (none)) else (none)) = some (r1, r2, r3) := by first | (rw [hji74] at H; exact H) | (simp only [hji74] at H ⊢; exact H)
          have hji74w : (IntKind.i64.wrap (3 + x7_2)) = ji74 := (i64_w _).trans hji74
          by_cases c75 : 0 ≤ (ji74)
          ·rw [if_pos c75] at H
           have c75b0 := decide_eq_true c75
           clear c75
           by_cases c76 : (ji74) < (x315001_2.length : Int)
           ·rw [if_pos c76] at H
            have c76b0 := decide_eq_true c76
            clear c76
            obtain ⟨y327, hy327⟩ : ∃ y_ : List Int, y_ = (x315001_2.set ((ji74) : Int).toNat (ji73)) := ⟨_, rfl⟩
            replace H : (if (ji74) < (x325001_2.length : Int) then (spec_CountSystem.l1 k2 (wrap64 (x7_2 + 1)) 11 2 x289002_1 x315000_2 y327 x315002_2 x325000_2 (x325001_2.set ((ji74) : Int).toNat 1) x325002_2) else (none)) = some (r1, r2, r3) := by first | (rw [hy327]; with_reducible exact H) | (have H2_ := (Option.bind_some _ _).symm.trans H; rw [hy327]; with_reducible exact H2_) | (have H2_ := (Option.bind_some _ _).symm.trans H; with_reducible exact H2_) | with_reducible exact H | (rw [hy327]; exact H) | exact H
            have Ny327 := Aside0.mk hy327
            clear hy327
            by_cases c78 : (ji74) < (x325001_2.length : Int)
            ·rw [if_pos c78] at H
             have c78b0 := decide_eq_true c78
             clear c78
             obtain ⟨y328, hy328⟩ : ∃ y_ : List Int, y_ = (x325001_2.set ((ji74) : Int).toNat 1) := ⟨_, rfl⟩
             replace H : (spec_CountSystem.l1 k2 (wrap64 (x7_2 + 1)) 11 2 x289002_1 x315000_2 y327 x315002_2 x325000_2 y328 x325002_2) = some (r1, r2, r3) := by first | (rw [hy328]; with_reducible exact H) | (have H2_ := (Option.bind_some _ _).symm.trans H; rw [hy328]; with_reducible exact H2_) | (have H2_ := (Option.bind_some _ _).symm.trans H; with_reducible exact H2_) | with_reducible exact H | (rw [hy328]; exact H) | exact H
             have Ny328 := Aside0.mk hy328
             clear hy328
             have H' := Aside0.mk H
             clear H
             obtain ⟨hnb80, hnc80⟩ := nB NB314_287
             obtain ⟨hnb81, hnc81⟩ := nB NB314_288
             obtain ⟨hnb82, hnc82⟩ := nB NB314_324
             obtain ⟨hcz83_0, hcz83_1, hcz83_2, hfz83_0, hfz83_1, hfz83_2⟩ := bK3 (w := wr) BK314
             have p77 : 0 ≤ ((ji74) : Int) := of_decide_eq_true (by first | (with_reducible assumption) | assumption)
             have q77 : ((ji74) : Int) < ((x315001_2.length : Int) : Int) := of_decide_eq_true (by first | (with_reducible assumption) | assumption)
             obtain ⟨go77, co77, eo77, gb77, gl77, cl77, HG77⟩ := Kd.R_form HO_315001.out (by omega)
             (first | cases eo77 | (injection eo77 with ea_ en_ ec_; (first | subst ea_ | (injection ea_ with ea_; subst ea_)); subst ec_; clear en_))
             have GB77 := Aside0.mk gb77
             have GG77 := Aside0.mk HG77
             clear gb77 gl77 HG77
             obtain ⟨hx77_0, hf77_0⟩ := Kd.R_celln 0 HO_315001.out ((ji74) : Int) p77 q77
             replace p77 := eq_true p77
             replace q77 := eq_true q77
             have HP84 := Kd.R_putg HO_315001.out ((ji74) : Int) ji73
             go_wp2_with (first | ((with_reducible refine gate_store (t := 3) (p := 58) rfl ?_); refine store_event (t := 3) (p := 58) (v := ?vo_w85) (w1 := (wr.setCell ⟨go77, ((ji74) : Int).toNat, none⟩ (.int .i64 ji73))) ?hg ?ho ?hn ?hr ?_; (case ho => rfl); (case hg => rfl); (case hn => rfl); (case hr => first | (go_simp; done) | (go_simp; rfl)); intro w85 hw; have hg : wr.grownBy w85 (some go77) := (by rw [hw]; exact HP84.2); have hp_ : Kd.R (Kd.int .i64) 3 w85 w.heap.size (fun k_ => (w.heap.size ≤ k_) ∧ some k_ ≠ (u315000 : Value).ownBlock ∧ some k_ ≠ (u315002 : Value).ownBlock ∧ some k_ ≠ (u325000 : Value).ownBlock ∧ some k_ ≠ (u325001 : Value).ownBlock ∧ some k_ ≠ (u325002 : Value).ownBlock) (.slice (some ⟨go77, 0, none⟩) x315001_2.length co77) y327 := (by rw [hw, Ny327.out]; exact HP84.1); clear HP84; replace HO_289002 := Aside0.mk (Kd.N_afterv (v := (.slice (some ⟨go77, 0, none⟩) x315001_2.length co77)) (v1 := (.slice (some ⟨go77, 0, none⟩) x315001_2.length co77)) (ok := (fun k_ => (w.heap.size ≤ k_) ∧ some k_ ≠ (u315000 : Value).ownBlock ∧ some k_ ≠ (u315002 : Value).ownBlock ∧ some k_ ≠ (u325000 : Value).ownBlock ∧ some k_ ≠ (u325001 : Value).ownBlock ∧ some k_ ≠ (u325002 : Value).ownBlock ∧ k_ ≠ gb287 ∧ k_ ≠ gb288 ∧ k_ ≠ gb314 ∧ k_ ≠ gb324)) (by (with_reducible repeat (first | apply Kd.N_alloc | apply Kd.N_drewN | apply Kd.N_drew)); exact Kd.N_mono HO_289002.out (fun _ hk => ⟨⟨hk.1, ⟨hk.2.1, ⟨hk.2.2.2.1, ⟨hk.2.2.2.2.1, ⟨hk.2.2.2.2.2.1, ⟨hk.2.2.2.2.2.2.1, ⟨hk.2.2.2.2.2.2.2.1, ⟨hk.2.2.2.2.2.2.2.2.1, ⟨hk.2.2.2.2.2.2.2.2.2.1, hk.2.2.2.2.2.2.2.2.2.2⟩⟩⟩⟩⟩⟩⟩⟩⟩, hk.2.2.1⟩)) hg (.inl rfl)); replace HO_315000 := Aside0.mk (Kd.R_after (v := (.slice (some ⟨go77, 0, none⟩) x315001_2.length co77)) (v1 := (.slice (some ⟨go77, 0, none⟩) x315001_2.length co77)) (ok := (fun k_ => (w.heap.size ≤ k_) ∧ some k_ ≠ (u315002 : Value).ownBlock ∧ some k_ ≠ (u325000 : Value).ownBlock ∧ some k_ ≠ (u325001 : Value).ownBlock ∧ some k_ ≠ (u325002 : Value).ownBlock)) (by (with_reducible repeat (first | apply Kd.R_alloc | apply Kd.R_drewN | apply Kd.R_drew)); exact Kd.R_mono HO_315000.out (fun _ hk => ⟨⟨hk.1, ⟨hk.2.2.1, ⟨hk.2.2.2.1, ⟨hk.2.2.2.2.1, hk.2.2.2.2.2⟩⟩⟩⟩, hk.2.1⟩)) hg (.inl rfl)); replace HO_315002 := Aside0.mk (Kd.R_after (v := (.slice (some ⟨go77, 0, none⟩) x315001_2.length co77)) (v1 := (.slice (some ⟨go77, 0, none⟩) x315001_2.length co77)) (ok := (fun k_ => (w.heap.size ≤ k_) ∧ some k_ ≠ (u315000 : Value).ownBlock ∧ some k_ ≠ (u325000 : Value).ownBlock ∧ some k_ ≠ (u325001 : Value).ownBlock ∧ some k_ ≠ (u325002 : Value).ownBlock)) (by (with_reducible repeat (first | apply Kd.R_alloc | apply Kd.R_drewN | apply Kd.R_drew)); exact Kd.R_mono HO_315002.out (fun _ hk => ⟨⟨hk.1, ⟨hk.2.1, ⟨hk.2.2.2.1, ⟨hk.2.2.2.2.1, hk.2.2.2.2.2⟩⟩⟩⟩, hk.2.2.1⟩)) hg (.inl rfl)); replace HO_325000 := Aside0.mk (Kd.R_after (v := (.slice (some ⟨go77, 0, none⟩) x315001_2.length co77)) (v1 := (.slice (some ⟨go77, 0, none⟩) x315001_2.length co77)) (ok := (fun k_ => (w.heap.size ≤ k_) ∧ some k_ ≠ (u315000 : Value).ownBlock ∧ some k_ ≠ (u315002 : Value).ownBlock ∧ some k_ ≠ (u325001 : Value).ownBlock ∧ some k_ ≠ (u325002 : Value).ownBlock)) (by (with_reducible repeat (first | apply Kd.R_alloc | apply Kd.R_drewN | apply Kd.R_drew)); exact Kd.R_mono HO_325000.out (fun _ hk => ⟨⟨hk.1, ⟨hk.2.1, ⟨hk.2.2.2.1, ⟨hk.2.2.2.2.1, hk.2.2.2.2.2⟩⟩⟩⟩, hk.2.2.1⟩)) hg (.inl rfl)); replace HO_325001 := Aside0.mk (Kd.R_after (v := (.slice (some ⟨go77, 0, none⟩) x315001_2.length co77)) (v1 := (.slice (some ⟨go77, 0, none⟩) x315001_2.length co77)) (ok := (fun k_ => (w.heap.size ≤ k_) ∧ some k_ ≠ (u315000 : Value).ownBlock ∧ some k_ ≠ (u315002 : Value).ownBlock ∧ some k_ ≠ (u325000 : Value).ownBlock ∧ some k_ ≠ (u325002 : Value).ownBlock)) (by (with_reducible repeat (first | apply Kd.R_alloc | apply Kd.R_drewN | apply Kd.R_drew)); exact Kd.R_mono HO_325001.out (fun _ hk => ⟨⟨hk.1, ⟨hk.2.1, ⟨hk.2.2.2.1, ⟨hk.2.2.2.2.1, hk.2.2.2.2.2⟩⟩⟩⟩, hk.2.2.1⟩)) hg (.inl rfl)); replace HO_325002 := Aside0.mk (Kd.R_after (v := (.slice (some ⟨go77, 0, none⟩) x315001_2.length co77)) (v1 := (.slice (some ⟨go77, 0, none⟩) x315001_2.length co77)) (ok := (fun k_ => (w.heap.size ≤ k_) ∧ some k_ ≠ (u315000 : Value).ownBlock ∧ some k_ ≠ (u315002 : Value).ownBlock ∧ some k_ ≠ (u325000 : Value).ownBlock ∧ some k_ ≠ (u325001 : Value).ownBlock)) (by (with_reducible repeat (first | apply Kd.R_alloc | apply Kd.R_drewN | apply Kd.R_drew)); exact Kd.R_mono HO_325002.out (fun _ hk => ⟨⟨hk.1, ⟨hk.2.1, ⟨hk.2.2.2.1, ⟨hk.2.2.2.2.1, hk.2.2.2.2.2⟩⟩⟩⟩, hk.2.2.1⟩)) hg (.inl rfl)); replace BK287 := Aside0.mk (blk_grown (bP BK287) hg (Kd.R_ne HO_315001.out BK287.out (by decide))); replace BK288 := Aside0.mk (blk_grown (bP BK288) hg (Kd.R_ne HO_315001.out BK288.out (by decide))); replace BK314 := Aside0.mk (blk_grown (bP BK314) hg (Kd.R_ne HO_315001.out BK314.out (by decide))); replace BK324 := Aside0.mk (blk_grown (bP BK324) hg (Kd.R_ne HO_315001.out BK324.out (by decide))); replace HO_315001 := Aside0.mk (hp_); replace HB := Aside0.mk ((by rw [hw]; exact below_set (HB.out) GB77.out : Below w.heap.size w w85)); clear hg hw hp_; obtain ⟨hnb86, hnc86⟩ := nB NB324_287; obtain ⟨hnb87, hnc87⟩ := nB NB324_288; obtain ⟨hcz88_0, hcz88_1, hcz88_2, hfz88_0, hfz88_1, hfz88_2⟩ := bK3 (w := w85) BK324; have p79 : 0 ≤ ((ji74) : Int) := of_decide_eq_true (by first | (with_reducible assumption) | assumption); have q79 : ((ji74) : Int) < ((x325001_2.length : Int) : Int) := of_decide_eq_true (by first | (with_reducible assumption) | assumption); obtain ⟨go79, co79, eo79, gb79, gl79, cl79, HG79⟩ := Kd.R_form HO_325001.out (by omega); (first | cases eo79 | (injection eo79 with ea_ en_ ec_; (first | subst ea_ | (injection ea_ with ea_; subst ea_)); subst ec_; clear en_)); have GB79 := Aside0.mk gb79; have GG79 := Aside0.mk HG79; clear gb79 gl79 HG79; obtain ⟨hx79_0, hf79_0⟩ := Kd.R_celln 0 HO_325001.out ((ji74) : Int) p79 q79; replace p79 := eq_true p79; replace q79 := eq_true q79; have n_ := Aside0.mk (Kd.R_mono (ok' := (fun k_ => (w.heap.size ≤ k_) ∧ some k_ ≠ (u315000 : Value).ownBlock ∧ some k_ ≠ (.slice (some ⟨go77, 0, none⟩) x315001_2.length co77 : Value).ownBlock ∧ some k_ ≠ (u315002 : Value).ownBlock ∧ some k_ ≠ (u325000 : Value).ownBlock ∧ some k_ ≠ (u325002 : Value).ownBlock)) HO_325001.out (fun k_ hk => ⟨hk.1.1, ⟨hk.1.2.1, ⟨hk.2, ⟨hk.1.2.2.1, ⟨hk.1.2.2.2.1, hk.1.2.2.2.2⟩⟩⟩⟩⟩)); clear HO_325001; have HO_325001 := n_; clear n_; obtain ⟨hy89_, hz89_⟩ := Kd.R_celln 0 HO_325001.out ((ji74) : Int) (of_decide_eq_true (by first | (with_reducible assumption) | assumption)) (of_decide_eq_true (by first | (with_reducible assumption) | assumption)); have HP89 := Kd.R_putg HO_325001.out ((ji74) : Int) 1) | ((with_reducible refine gate_store (t := 3) (p := 63) rfl ?_); refine store_event (t := 3) (p := 63) (v := ?vo_w90) (w1 := (w85.setCell ⟨go79, ((ji74) : Int).toNat, none⟩ (.int .i64 1))) ?hg ?ho ?hn ?hr ?_; (case ho => rfl); (case hg => rfl); (case hn => rfl); (case hr => first | (go_simp; done) | (go_simp; rfl)); intro w90 hw; have hg : w85.grownBy w90 (some go79) := (by rw [hw]; exact HP89.2); have hp_ : Kd.R (Kd.int .i64) 3 w90 w.heap.size (fun k_ => (w.heap.size ≤ k_) ∧ some k_ ≠ (u315000 : Value).ownBlock ∧ some k_ ≠ (.slice (some ⟨go77, 0, none⟩) x315001_2.length co77 : Value).ownBlock ∧ some k_ ≠ (u315002 : Value).ownBlock ∧ some k_ ≠ (u325000 : Value).ownBlock ∧ some k_ ≠ (u325002 : Value).ownBlock) (.slice (some ⟨go79, 0, none⟩) x325001_2.length co79) y328 := (by rw [hw, Ny328.out]; exact HP89.1); clear HP89; replace HO_289002 := Aside0.mk (Kd.N_afterv (v := (.slice (some ⟨go79, 0, none⟩) x325001_2.length co79)) (v1 := (.slice (some ⟨go79, 0, none⟩) x325001_2.length co79)) (ok := (fun k_ => (w.heap.size ≤ k_) ∧ some k_ ≠ (u315000 : Value).ownBlock ∧ some k_ ≠ (.slice (some ⟨go77, 0, none⟩) x315001_2.length co77 : Value).ownBlock ∧ some k_ ≠ (u315002 : Value).ownBlock ∧ some k_ ≠ (u325000 : Value).ownBlock ∧ some k_ ≠ (u325002 : Value).ownBlock ∧ k_ ≠ gb287 ∧ k_ ≠ gb288 ∧ k_ ≠ gb314 ∧ k_ ≠ gb324)) (by (with_reducible repeat (first | apply Kd.N_alloc | apply Kd.N_drewN | apply Kd.N_drew)); exact Kd.N_mono HO_289002.out (fun _ hk => ⟨⟨hk.1.1, ⟨hk.1.2.1, ⟨hk.2, ⟨hk.1.2.2.1, ⟨hk.1.2.2.2.1, ⟨hk.1.2.2.2.2.2.1, ⟨hk.1.2.2.2.2.2.2.1, ⟨hk.1.2.2.2.2.2.2.2.1, ⟨hk.1.2.2.2.2.2.2.2.2.1, hk.1.2.2.2.2.2.2.2.2.2⟩⟩⟩⟩⟩⟩⟩⟩⟩, hk.1.2.2.2.2.1⟩)) hg (.inl rfl)); replace HO_315000 := Aside0.mk (Kd.R_after (v := (.slice (some ⟨go79, 0, none⟩) x325001_2.length co79)) (v1 := (.slice (some ⟨go79, 0, none⟩) x325001_2.length co79)) (ok := (fun k_ => (w.heap.size ≤ k_) ∧ some k_ ≠ (.slice (some ⟨go77, 0, none⟩) x315001_2.length co77 : Value).ownBlock ∧ some k_ ≠ (u315002 : Value).ownBlock ∧ some k_ ≠ (u325000 : Value).ownBlock ∧ some k_ ≠ (u325002 : Value).ownBlock)) (by (with_reducible repeat (first | apply Kd.R_alloc | apply Kd.R_drewN | apply Kd.R_drew)); exact Kd.R_mono HO_315000.out (fun _ hk => ⟨⟨hk.1.1, ⟨hk.2, ⟨hk.1.2.1, ⟨hk.1.2.2.1, hk.1.2.2.2.2⟩⟩⟩⟩, hk.1.2.2.2.1⟩)) hg (.inl rfl)); replace HO_315001 := Aside0.mk (Kd.R_after (v := (.slice (some ⟨go79, 0, none⟩) x325001_2.length co79)) (v1 := (.slice (some ⟨go79, 0, none⟩) x325001_2.length co79)) (ok := (fun k_ => (w.heap.size ≤ k_) ∧ some k_ ≠ (u315000 : Value).ownBlock ∧ some k_ ≠ (u315002 : Value).ownBlock ∧ some k_ ≠ (u325000 : Value).ownBlock ∧ some k_ ≠ (u325002 : Value).ownBlock)) (by (with_reducible repeat (first | apply Kd.R_alloc | apply Kd.R_drewN | apply Kd.R_drew)); exact Kd.R_mono HO_315001.out (fun _ hk => ⟨⟨hk.1, ⟨hk.2.1, ⟨hk.2.2.1, ⟨hk.2.2.2.1, hk.2.2.2.2.2⟩⟩⟩⟩, hk.2.2.2.2.1⟩)) hg (.inl rfl)); replace HO_315002 := Aside0.mk (Kd.R_after (v := (.slice (some ⟨go79, 0, none⟩) x325001_2.length co79)) (v1 := (.slice (some ⟨go79, 0, none⟩) x325001_2.length co79)) (ok := (fun k_ => (w.heap.size ≤ k_) ∧ some k_ ≠ (u315000 : Value).ownBlock ∧ some k_ ≠ (.slice (some ⟨go77, 0, none⟩) x315001_2.length co77 : Value).ownBlock ∧ some k_ ≠ (u325000 : Value).ownBlock ∧ some k_ ≠ (u325002 : Value).ownBlock)) (by (with_reducible repeat (first | apply Kd.R_alloc | apply Kd.R_drewN | apply Kd.R_drew)); exact Kd.R_mono HO_315002.out (fun _ hk => ⟨⟨hk.1.1, ⟨hk.1.2.1, ⟨hk.2, ⟨hk.1.2.2.1, hk.1.2.2.2.2⟩⟩⟩⟩, hk.1.2.2.2.1⟩)) hg (.inl rfl)); replace HO_325000 := Aside0.mk (Kd.R_after (v := (.slice (some ⟨go79, 0, none⟩) x325001_2.length co79)) (v1 := (.slice (some ⟨go79, 0, none⟩) x325001_2.length co79)) (ok := (fun k_ => (w.heap.size ≤ k_) ∧ some k_ ≠ (u315000 : Value).ownBlock ∧ some k_ ≠ (.slice (some ⟨go77, 0, none⟩) x315001_2.length co77 : Value).ownBlock ∧ some k_ ≠ (u315002 : Value).ownBlock ∧ some k_ ≠ (u325002 : Value).ownBlock)) (by (with_reducible repeat (first | apply Kd.R_alloc | apply Kd.R_drewN | apply Kd.R_drew)); exact Kd.R_mono HO_325000.out (fun _ hk => ⟨⟨hk.1.1, ⟨hk.1.2.1, ⟨hk.2, ⟨hk.1.2.2.1, hk.1.2.2.2.2⟩⟩⟩⟩, hk.1.2.2.2.1⟩)) hg (.inl rfl)); replace HO_325002 := Aside0.mk (Kd.R_after (v := (.slice (some ⟨go79, 0, none⟩) x325001_2.length co79)) (v1 := (.slice (some ⟨go79, 0, none⟩) x325001_2.length co79)) (ok := (fun k_ => (w.heap.size ≤ k_) ∧ some k_ ≠ (u315000 : Value).ownBlock ∧ some k_ ≠ (.slice (some ⟨go77, 0, none⟩) x315001_2.length co77 : Value).ownBlock ∧ some k_ ≠ (u315002 : Value).ownBlock ∧ some k_ ≠ (u325000 : Value).ownBlock)) (by (with_reducible repeat (first | apply Kd.R_alloc | apply Kd.R_drewN | apply Kd.R_drew)); exact Kd.R_mono HO_325002.out (fun _ hk => ⟨⟨hk.1.1, ⟨hk.1.2.1, ⟨hk.2, ⟨hk.1.2.2.1, hk.1.2.2.2.1⟩⟩⟩⟩, hk.1.2.2.2.2⟩)) hg (.inl rfl)); replace BK287 := Aside0.mk (blk_grown (bP BK287) hg (Kd.R_ne HO_325001.out BK287.out (by decide))); replace BK288 := Aside0.mk (blk_grown (bP BK288) hg (Kd.R_ne HO_325001.out BK288.out (by decide))); replace BK314 := Aside0.mk (blk_grown (bP BK314) hg (Kd.R_ne HO_325001.out BK314.out (by decide))); replace BK324 := Aside0.mk (blk_grown (bP BK324) hg (Kd.R_ne HO_325001.out BK324.out (by decide))); replace HO_325001 := Aside0.mk (hp_); replace HB := Aside0.mk ((by rw [hw]; exact below_set (HB.out) GB79.out : Below w.heap.size w w90)); clear hg hw hp_))
             go_roundg k2
             case measure => have := HK1.out; have := HK2.out; omega
             case rel => exact ⟨(wrap64 (x7_2 + 1)), (x315000_2), (y327), (x315002_2), (x325000_2), (y328), (x325002_2), (u315000), (.slice (some ⟨go77, 0, none⟩) x315001_2.length co77), (u315002), (u325000), (.slice (some ⟨go79, 0, none⟩) x325001_2.length co79), (u325002), rS, H', ⟨by have := HK1.out; have := HK2.out; omega⟩, ⟨by (with_reducible repeat (first | apply Kd.N_alloc | apply Kd.N_drewN | apply Kd.N_drew)); exact Kd.N_mono HO_289002.out (fun _ hk => ⟨hk.1.1, ⟨hk.1.2.1, ⟨hk.1.2.2.1, ⟨hk.1.2.2.2.1, ⟨hk.1.2.2.2.2.1, ⟨hk.2, ⟨hk.1.2.2.2.2.2.1, ⟨hk.1.2.2.2.2.2.2.1, ⟨hk.1.2.2.2.2.2.2.2.1, ⟨hk.1.2.2.2.2.2.2.2.2.1, hk.1.2.2.2.2.2.2.2.2.2⟩⟩⟩⟩⟩⟩⟩⟩⟩⟩)⟩, ⟨by (with_reducible repeat (first | apply Kd.R_alloc | apply Kd.R_drewN | apply Kd.R_drew)); exact Kd.R_mono HO_315000.out (fun _ hk => ⟨hk.1.1, ⟨hk.1.2.1, ⟨hk.1.2.2.1, ⟨hk.1.2.2.2.1, ⟨hk.2, hk.1.2.2.2.2⟩⟩⟩⟩⟩)⟩, ⟨by (with_reducible repeat (first | apply Kd.R_alloc | apply Kd.R_drewN | apply Kd.R_drew)); exact Kd.R_mono HO_315001.out (fun _ hk => ⟨hk.1.1, ⟨hk.1.2.1, ⟨hk.1.2.2.1, ⟨hk.1.2.2.2.1, ⟨hk.2, hk.1.2.2.2.2⟩⟩⟩⟩⟩)⟩, ⟨by (with_reducible repeat (first | apply Kd.R_alloc | apply Kd.R_drewN | apply Kd.R_drew)); exact Kd.R_mono HO_315002.out (fun _ hk => ⟨hk.1.1, ⟨hk.1.2.1, ⟨hk.1.2.2.1, ⟨hk.1.2.2.2.1, ⟨hk.2, hk.1.2.2.2.2⟩⟩⟩⟩⟩)⟩, ⟨by (with_reducible repeat (first | apply Kd.R_alloc | apply Kd.R_drewN | apply Kd.R_drew)); exact Kd.R_mono HO_325000.out (fun _ hk => ⟨hk.1.1, ⟨hk.1.2.1, ⟨hk.1.2.2.1, ⟨hk.1.2.2.2.1, ⟨hk.2, hk.1.2.2.2.2⟩⟩⟩⟩⟩)⟩, ⟨rP HO_325001⟩, ⟨by (with_reducible repeat (first | apply Kd.R_alloc | apply Kd.R_drewN | apply Kd.R_drew)); exact Kd.R_mono HO_325002.out (fun _ hk => ⟨hk.1.1, ⟨hk.1.2.1, ⟨hk.1.2.2.1, ⟨hk.1.2.2.2.1, ⟨hk.1.2.2.2.2, hk.2⟩⟩⟩⟩⟩)⟩, ⟨bP BK287⟩, ⟨bP BK288⟩, ⟨bP BK314⟩, ⟨bP BK324⟩, ⟨bZ HB⟩⟩
            ·rw [if_neg c78] at H
             exact absurd H (by simp)
           ·rw [if_neg c76] at H
            exact absurd H (by simp)
          ·rw [if_neg c75] at H
           exact absurd H (by simp)
         ·rw [if_neg c72] at H
          exact absurd H (by simp)
        ·rw [if_neg c70] at H
         have c70b0 := decide_eq_false c70
         clear c70
         by_cases c91 : 1 < (x315002_2.length : Int)
         ·rw [if_pos c91] at H
          have c91b0 := decide_eq_true c91
          have c91b1 : decide (1 < x315002_2.length) = true := decide_eq_true (by omega)
          clear c91
          obtain ⟨y329, hy329⟩ : ∃ y_ : List Int, y_ = (x315002_2.set (1 : Int).toNat 1) := ⟨_, rfl⟩
          replace H : (if 2 < (x325002_2.length : Int) then ((some (([(⟨x315000_2, x315001_2, y329⟩ : S75), (⟨x325000_2, x325001_2, (x325002_2.set (2 : Int).toNat 1)⟩ : S75)] : List (S75)) : List (S75))).bind fun y331 => (if x289002_1.length + y331.length < 1954687338268 then (some (11, 2, (x289002_1 ++ y331))) else (none))) else (none)) = some (r1, r2, r3) := by first | (rw [hy329]; with_reducible exact H) | (have H2_ := (Option.bind_some _ _).symm.trans H; rw [hy329]; with_reducible exact H2_) | (have H2_ := (Option.bind_some _ _).symm.trans H; with_reducible exact H2_) | with_reducible exact H | (rw [hy329]; exact H) | exact H
          have Ny329 := Aside0.mk hy329
          clear hy329
          by_cases c93 : 2 < (x325002_2.length : Int)
          ·rw [if_pos c93] at H
           have c93b0 := decide_eq_true c93
           have c93b1 : decide (2 < x325002_2.length) = true := decide_eq_true (by omega)
           clear c93
           obtain ⟨y330, hy330⟩ : ∃ y_ : List Int, y_ = (x325002_2.set (2 : Int).toNat 1) := ⟨_, rfl⟩
           replace H : ((some (([(⟨x315000_2, x315001_2, y329⟩ : S75), (⟨x325000_2, x325001_2, y330⟩ : S75)] : List (S75)) : List (S75))).bind fun y331 => (if x289002_1.length + y331.length < 1954687338268 then (some (11, 2, (x289002_1 ++ y331))) else (none))) = some (r1, r2, r3) := by first | (rw [hy330]; with_reducible exact H) | (have H2_ := (Option.bind_some _ _).symm.trans H; rw [hy330]; with_reducible exact H2_) | (have H2_ := (Option.bind_some _ _).symm.trans H; with_reducible exact H2_) | with_reducible exact H | (rw [hy330]; exact H) | exact H
           have Ny330 := Aside0.mk hy330
           clear hy330
           obtain ⟨y331, hy331⟩ : ∃ y_ : List (S75), y_ = (([(⟨x315000_2, x315001_2, y329⟩ : S75), (⟨x325000_2, x325001_2, y330⟩ : S75)] : List (S75))) := ⟨_, rfl⟩
           replace H : (if x289002_1.length + y331.length < 1954687338268 then (some (11, 2, (x289002_1 ++ y331))) else (none)) = some (r1, r2, r3) := by first | (rw [hy331]; with_reducible exact H) | (have H2_ := (Option.bind_some _ _).symm.trans H; rw [hy331]; with_reducible exact H2_) | (have H2_ := (Option.bind_some _ _).symm.trans H; with_reducible exact H2_) | with_reducible exact H | (rw [hy331]; exact H) | exact H
           have Ny331 := Aside0.mk hy331
           clear hy331
           by_cases c95 : x289002_1.length + y331.length < 1954687338268
           ·rw [if_pos c95] at H
            have LMc95 := Aside0.mk c95
            clear c95
            obtain ⟨y334, hy334⟩ : ∃ y_ : List (S75), y_ = (x289002_1 ++ y331) := ⟨_, rfl⟩
            replace H : (some (11, 2, y334)) = some (r1, r2, r3) := by first | (rw [hy334]; with_reducible exact H) | (have H2_ := (Option.bind_some _ _).symm.trans H; rw [hy334]; with_reducible exact H2_) | (have H2_ := (Option.bind_some _ _).symm.trans H; with_reducible exact H2_) | with_reducible exact H | (rw [hy334]; exact H) | exact H
            have Ny334 := Aside0.mk hy334
            clear hy334
            simp only [Option.some.injEq, Prod.mk.injEq] at H
            obtain ⟨rfl, rfl, rfl⟩ := H
            obtain ⟨hnb96, hnc96⟩ := nB NB314_287
            obtain ⟨hnb97, hnc97⟩ := nB NB314_288
            obtain ⟨hnb98, hnc98⟩ := nB NB314_324
            obtain ⟨hcz99_0, hcz99_1, hcz99_2, hfz99_0, hfz99_1, hfz99_2⟩ := bK3 (w := wr) BK314
            have p92 : 0 ≤ (1 : Int) := (by omega)
            have q92 : (1 : Int) < ((x315002_2.length : Int) : Int) := of_decide_eq_true (by first | (with_reducible assumption) | assumption)
            have qi92 : (1 < x315002_2.length) = True := eq_true (by omega)
            obtain ⟨go92, co92, eo92, gb92, gl92, cl92, HG92⟩ := Kd.R_form HO_315002.out (by omega)
            (first | cases eo92 | (injection eo92 with ea_ en_ ec_; (first | subst ea_ | (injection ea_ with ea_; subst ea_)); subst ec_; clear en_))
            have GB92 := Aside0.mk gb92
            have GG92 := Aside0.mk HG92
            clear gb92 gl92 HG92
            obtain ⟨hx92_0, hf92_0⟩ := Kd.R_celln 0 HO_315002.out (1 : Int) p92 q92
            (try rw [show ((1 : Int)).toNat = 1 from rfl] at hx92_0)
            (try simp only [Nat.reduceMul, Nat.zero_mul, Nat.zero_add, Nat.reduceAdd] at hx92_0)
            (try rw [show ((1 : Int)).toNat = 1 from rfl] at hf92_0)
            (try simp only [Nat.reduceMul, Nat.zero_mul, Nat.zero_add, Nat.reduceAdd] at hf92_0)
            replace p92 := eq_true p92
            replace q92 := eq_true q92
            have HP100 := Kd.R_putg HO_315002.out (1 : Int) 1
            go_wp2_with (first | ((with_reducible refine gate_store (t := 3) (p := 66) rfl ?_); refine store_event (t := 3) (p := 66) (v := ?vo_w101) (w1 := (wr.setCell ⟨go92, (1 : Int).toNat, none⟩ (.int .i64 1))) ?hg ?ho ?hn ?hr ?_; (case ho => rfl); (case hg => rfl); (case hn => rfl); (case hr => first | (go_simp; done) | (go_simp; rfl)); intro w101 hw; have hg : wr.grownBy w101 (some go92) := (by rw [hw]; exact HP100.2); have hp_ : Kd.R (Kd.int .i64) 3 w101 w.heap.size (fun k_ => (w.heap.size ≤ k_) ∧ some k_ ≠ (u315000 : Value).ownBlock ∧ some k_ ≠ (u315001 : Value).ownBlock ∧ some k_ ≠ (u325000 : Value).ownBlock ∧ some k_ ≠ (u325001 : Value).ownBlock ∧ some k_ ≠ (u325002 : Value).ownBlock) (.slice (some ⟨go92, 0, none⟩) x315002_2.length co92) y329 := (by rw [hw, Ny329.out]; exact HP100.1); clear HP100; replace HO_289002 := Aside0.mk (Kd.N_afterv (v := (.slice (some ⟨go92, 0, none⟩) x315002_2.length co92)) (v1 := (.slice (some ⟨go92, 0, none⟩) x315002_2.length co92)) (ok := (fun k_ => (w.heap.size ≤ k_) ∧ some k_ ≠ (u315000 : Value).ownBlock ∧ some k_ ≠ (u315001 : Value).ownBlock ∧ some k_ ≠ (u325000 : Value).ownBlock ∧ some k_ ≠ (u325001 : Value).ownBlock ∧ some k_ ≠ (u325002 : Value).ownBlock ∧ k_ ≠ gb287 ∧ k_ ≠ gb288 ∧ k_ ≠ gb314 ∧ k_ ≠ gb324)) (by (with_reducible repeat (first | apply Kd.N_alloc | apply Kd.N_drewN | apply Kd.N_drew)); exact Kd.N_mono HO_289002.out (fun _ hk => ⟨⟨hk.1, ⟨hk.2.1, ⟨hk.2.2.1, ⟨hk.2.2.2.2.1, ⟨hk.2.2.2.2.2.1, ⟨hk.2.2.2.2.2.2.1, ⟨hk.2.2.2.2.2.2.2.1, ⟨hk.2.2.2.2.2.2.2.2.1, ⟨hk.2.2.2.2.2.2.2.2.2.1, hk.2.2.2.2.2.2.2.2.2.2⟩⟩⟩⟩⟩⟩⟩⟩⟩, hk.2.2.2.1⟩)) hg (.inl rfl)); replace HO_315000 := Aside0.mk (Kd.R_after (v := (.slice (some ⟨go92, 0, none⟩) x315002_2.length co92)) (v1 := (.slice (some ⟨go92, 0, none⟩) x315002_2.length co92)) (ok := (fun k_ => (w.heap.size ≤ k_) ∧ some k_ ≠ (u315001 : Value).ownBlock ∧ some k_ ≠ (u325000 : Value).ownBlock ∧ some k_ ≠ (u325001 : Value).ownBlock ∧ some k_ ≠ (u325002 : Value).ownBlock)) (by (with_reducible repeat (first | apply Kd.R_alloc | apply Kd.R_drewN | apply Kd.R_drew)); exact Kd.R_mono HO_315000.out (fun _ hk => ⟨⟨hk.1, ⟨hk.2.1, ⟨hk.2.2.2.1, ⟨hk.2.2.2.2.1, hk.2.2.2.2.2⟩⟩⟩⟩, hk.2.2.1⟩)) hg (.inl rfl)); replace HO_315001 := Aside0.mk (Kd.R_after (v := (.slice (some ⟨go92, 0, none⟩) x315002_2.length co92)) (v1 := (.slice (some ⟨go92, 0, none⟩) x315002_2.length co92)) (ok := (fun k_ => (w.heap.size ≤ k_) ∧ some k_ ≠ (u315000 : Value).ownBlock ∧ some k_ ≠ (u325000 : Value).ownBlock ∧ some k_ ≠ (u325001 : Value).ownBlock ∧ some k_ ≠ (u325002 : Value).ownBlock)) (by (with_reducible repeat (first | apply Kd.R_alloc | apply Kd.R_drewN | apply Kd.R_drew)); exact Kd.R_mono HO_315001.out (fun _ hk => ⟨⟨hk.1, ⟨hk.2.1, ⟨hk.2.2.2.1, ⟨hk.2.2.2.2.1, hk.2.2.2.2.2⟩⟩⟩⟩, hk.2.2.1⟩)) hg (.inl rfl)); replace HO_325000 := Aside0.mk (Kd.R_after (v := (.slice (some ⟨go92, 0, none⟩) x315002_2.length co92)) (v1 := (.slice (some ⟨go92, 0, none⟩) x315002_2.length co92)) (ok := (fun k_ => (w.heap.size ≤ k_) ∧ some k_ ≠ (u315000 : Value).ownBlock ∧ some k_ ≠ (u315001 : Value).ownBlock ∧ some k_ ≠ (u325001 : Value).ownBlock ∧ some k_ ≠ (u325002 : Value).ownBlock)) (by (with_reducible repeat (first | apply Kd.R_alloc | apply Kd.R_drewN | apply Kd.R_drew)); exact Kd.R_mono HO_325000.out (fun _ hk => ⟨⟨hk.1, ⟨hk.2.1, ⟨hk.2.2.1, ⟨hk.2.2.2.2.1, hk.2.2.2.2.2⟩⟩⟩⟩, hk.2.2.2.1⟩)) hg (.inl rfl)); replace HO_325001 := Aside0.mk (Kd.R_after (v := (.slice (some ⟨go92, 0, none⟩) x315002_2.length co92)) (v1 := (.slice (some ⟨go92, 0, none⟩) x315002_2.length co92)) (ok := (fun k_ => (w.heap.size ≤ k_) ∧ some k_ ≠ (u315000 : Value).ownBlock ∧ some k_ ≠ (u315001 : Value).ownBlock ∧ some k_ ≠ (u325000 : Value).ownBlock ∧ some k_ ≠ (u325002 : Value).ownBlock)) (by (with_reducible repeat (first | apply Kd.R_alloc | apply Kd.R_drewN | apply Kd.R_drew)); exact Kd.R_mono HO_325001.out (fun _ hk => ⟨⟨hk.1, ⟨hk.2.1, ⟨hk.2.2.1, ⟨hk.2.2.2.2.1, hk.2.2.2.2.2⟩⟩⟩⟩, hk.2.2.2.1⟩)) hg (.inl rfl)); replace HO_325002 := Aside0.mk (Kd.R_after (v := (.slice (some ⟨go92, 0, none⟩) x315002_2.length co92)) (v1 := (.slice (some ⟨go92, 0, none⟩) x315002_2.length co92)) (ok := (fun k_ => (w.heap.size ≤ k_) ∧ some k_ ≠ (u315000 : Value).ownBlock ∧ some k_ ≠ (u315001 : Value).ownBlock ∧ some k_ ≠ (u325000 : Value).ownBlock ∧ some k_ ≠ (u325001 : Value).ownBlock)) (by (with_reducible repeat (first | apply Kd.R_alloc | apply Kd.R_drewN | apply Kd.R_drew)); exact Kd.R_mono HO_325002.out (fun _ hk => ⟨⟨hk.1, ⟨hk.2.1, ⟨hk.2.2.1, ⟨hk.2.2.2.2.1, hk.2.2.2.2.2⟩⟩⟩⟩, hk.2.2.2.1⟩)) hg (.inl rfl)); replace BK287 := Aside0.mk (blk_grown (bP BK287) hg (Kd.R_ne HO_315002.out BK287.out (by decide))); replace BK288 := Aside0.mk (blk_grown (bP BK288) hg (Kd.R_ne HO_315002.out BK288.out (by decide))); replace BK314 := Aside0.mk (blk_grown (bP BK314) hg (Kd.R_ne HO_315002.out BK314.out (by decide))); replace BK324 := Aside0.mk (blk_grown (bP BK324) hg (Kd.R_ne HO_315002.out BK324.out (by decide))); replace HO_315002 := Aside0.mk (hp_); replace HB := Aside0.mk ((by rw [hw]; exact below_set (HB.out) GB92.out : Below w.heap.size w w101)); clear hg hw hp_; obtain ⟨hnb102, hnc102⟩ := nB NB324_287; obtain ⟨hnb103, hnc103⟩ := nB NB324_288; obtain ⟨hcz104_0, hcz104_1, hcz104_2, hfz104_0, hfz104_1, hfz104_2⟩ := bK3 (w := w101) BK324; have p94 : 0 ≤ (2 : Int) := (by omega); have q94 : (2 : Int) < ((x325002_2.length : Int) : Int) := of_decide_eq_true (by first | (with_reducible assumption) | assumption); have qi94 : (2 < x325002_2.length) = True := eq_true (by omega); obtain ⟨go94, co94, eo94, gb94, gl94, cl94, HG94⟩ := Kd.R_form HO_325002.out (by omega); (first | cases eo94 | (injection eo94 with ea_ en_ ec_; (first | subst ea_ | (injection ea_ with ea_; subst ea_)); subst ec_; clear en_)); have GB94 := Aside0.mk gb94; have GG94 := Aside0.mk HG94; clear gb94 gl94 HG94; obtain ⟨hx94_0, hf94_0⟩ := Kd.R_celln 0 HO_325002.out (2 : Int) p94 q94; (try rw [show ((2 : Int)).toNat = 2 from rfl] at hx94_0); (try simp only [Nat.reduceMul, Nat.zero_mul, Nat.zero_add, Nat.reduceAdd] at hx94_0); (try rw [show ((2 : Int)).toNat = 2 from rfl] at hf94_0); (try simp only [Nat.reduceMul, Nat.zero_mul, Nat.zero_add, Nat.reduceAdd] at hf94_0); replace p94 := eq_true p94; replace q94 := eq_true q94; have n_ := Aside0.mk (Kd.R_mono (ok' := (fun k_ => (w.heap.size ≤ k_) ∧ some k_ ≠ (u315000 : Value).ownBlock ∧ some k_ ≠ (u315001 : Value).ownBlock ∧ some k_ ≠ (.slice (some ⟨go92, 0, none⟩) x315002_2.length co92 : Value).ownBlock ∧ some k_ ≠ (u325000 : Value).ownBlock ∧ some k_ ≠ (u325001 : Value).ownBlock)) HO_325002.out (fun k_ hk => ⟨hk.1.1, ⟨hk.1.2.1, ⟨hk.1.2.2.1, ⟨hk.2, ⟨hk.1.2.2.2.1, hk.1.2.2.2.2⟩⟩⟩⟩⟩)); clear HO_325002; have HO_325002 := n_; clear n_; obtain ⟨hy105_, hz105_⟩ := Kd.R_celln 0 HO_325002.out (2 : Int) (by omega) (of_decide_eq_true (by first | (with_reducible assumption) | assumption)); (try simp only [Int.reduceToNat, Int.toNat_zero, Int.toNat_ofNat, Nat.reduceMul, Nat.zero_mul, Nat.zero_add] at hy105_ hz105_); (try rw [show ((2 : Int)).toNat = 2 from rfl] at hy105_); (try rw [show ((2 : Int)).toNat = 2 from rfl] at hz105_); have HP105 := Kd.R_putg HO_325002.out (2 : Int) 1) | ((with_reducible refine gate_store (t := 3) (p := 69) rfl ?_); refine store_event (t := 3) (p := 69) (v := ?vo_w106) (w1 := (w101.setCell ⟨go94, (2 : Int).toNat, none⟩ (.int .i64 1))) ?hg ?ho ?hn ?hr ?_; (case ho => rfl); (case hg => rfl); (case hn => rfl); (case hr => first | (go_simp; done) | (go_simp; rfl)); intro w106 hw; have hg : w101.grownBy w106 (some go94) := (by rw [hw]; exact HP105.2); have hp_ : Kd.R (Kd.int .i64) 3 w106 w.heap.size (fun k_ => (w.heap.size ≤ k_) ∧ some k_ ≠ (u315000 : Value).ownBlock ∧ some k_ ≠ (u315001 : Value).ownBlock ∧ some k_ ≠ (.slice (some ⟨go92, 0, none⟩) x315002_2.length co92 : Value).ownBlock ∧ some k_ ≠ (u325000 : Value).ownBlock ∧ some k_ ≠ (u325001 : Value).ownBlock) (.slice (some ⟨go94, 0, none⟩) x325002_2.length co94) y330 := (by rw [hw, Ny330.out]; exact HP105.1); clear HP105; replace HO_289002 := Aside0.mk (Kd.N_afterv (v := (.slice (some ⟨go94, 0, none⟩) x325002_2.length co94)) (v1 := (.slice (some ⟨go94, 0, none⟩) x325002_2.length co94)) (ok := (fun k_ => (w.heap.size ≤ k_) ∧ some k_ ≠ (u315000 : Value).ownBlock ∧ some k_ ≠ (u315001 : Value).ownBlock ∧ some k_ ≠ (.slice (some ⟨go92, 0, none⟩) x315002_2.length co92 : Value).ownBlock ∧ some k_ ≠ (u325000 : Value).ownBlock ∧ some k_ ≠ (u325001 : Value).ownBlock ∧ k_ ≠ gb287 ∧ k_ ≠ gb288 ∧ k_ ≠ gb314 ∧ k_ ≠ gb324)) (by (with_reducible repeat (first | apply Kd.N_alloc | apply Kd.N_drewN | apply Kd.N_drew)); exact Kd.N_mono HO_289002.out (fun _ hk => ⟨⟨hk.1.1, ⟨hk.1.2.1, ⟨hk.1.2.2.1, ⟨hk.2, ⟨hk.1.2.2.2.1, ⟨hk.1.2.2.2.2.1, ⟨hk.1.2.2.2.2.2.2.1, ⟨hk.1.2.2.2.2.2.2.2.1, ⟨hk.1.2.2.2.2.2.2.2.2.1, hk.1.2.2.2.2.2.2.2.2.2⟩⟩⟩⟩⟩⟩⟩⟩⟩, hk.1.2.2.2.2.2.1⟩)) hg (.inl rfl)); replace HO_315000 := Aside0.mk (Kd.R_after (v := (.slice (some ⟨go94, 0, none⟩) x325002_2.length co94)) (v1 := (.slice (some ⟨go94, 0, none⟩) x325002_2.length co94)) (ok := (fun k_ => (w.heap.size ≤ k_) ∧ some k_ ≠ (u315001 : Value).ownBlock ∧ some k_ ≠ (.slice (some ⟨go92, 0, none⟩) x315002_2.length co92 : Value).ownBlock ∧ some k_ ≠ (u325000 : Value).ownBlock ∧ some k_ ≠ (u325001 : Value).ownBlock)) (by (with_reducible repeat (first | apply Kd.R_alloc | apply Kd.R_drewN | apply Kd.R_drew)); exact Kd.R_mono HO_315000.out (fun _ hk => ⟨⟨hk.1.1, ⟨hk.1.2.1, ⟨hk.2, ⟨hk.1.2.2.1, hk.1.2.2.2.1⟩⟩⟩⟩, hk.1.2.2.2.2⟩)) hg (.inl rfl)); replace HO_315001 := Aside0.mk (Kd.R_after (v := (.slice (some ⟨go94, 0, none⟩) x325002_2.length co94)) (v1 := (.slice (some ⟨go94, 0, none⟩) x325002_2.length co94)) (ok := (fun k_ => (w.heap.size ≤ k_) ∧ some k_ ≠ (u315000 : Value).ownBlock ∧ some k_ ≠ (.slice (some ⟨go92, 0, none⟩) x315002_2.length co92 : Value).ownBlock ∧ some k_ ≠ (u325000 : Value).ownBlock ∧ some k_ ≠ (u325001 : Value).ownBlock)) (by (with_reducible repeat (first | apply Kd.R_alloc | apply Kd.R_drewN | apply Kd.R_drew)); exact Kd.R_mono HO_315001.out (fun _ hk => ⟨⟨hk.1.1, ⟨hk.1.2.1, ⟨hk.2, ⟨hk.1.2.2.1, hk.1.2.2.2.1⟩⟩⟩⟩, hk.1.2.2.2.2⟩)) hg (.inl rfl)); replace HO_315002 := Aside0.mk (Kd.R_after (v := (.slice (some ⟨go94, 0, none⟩) x325002_2.length co94)) (v1 := (.slice (some ⟨go94, 0, none⟩) x325002_2.length co94)) (ok := (fun k_ => (w.heap.size ≤ k_) ∧ some k_ ≠ (u315000 : Value).ownBlock ∧ some k_ ≠ (u315001 : Value).ownBlock ∧ some k_ ≠ (u325000 : Value).ownBlock ∧ some k_ ≠ (u325001 : Value).ownBlock)) (by (with_reducible repeat (first | apply Kd.R_alloc | apply Kd.R_drewN | apply Kd.R_drew)); exact Kd.R_mono HO_315002.out (fun _ hk => ⟨⟨hk.1, ⟨hk.2.1, ⟨hk.2.2.1, ⟨hk.2.2.2.1, hk.2.2.2.2.1⟩⟩⟩⟩, hk.2.2.2.2.2⟩)) hg (.inl rfl)); replace HO_325000 := Aside0.mk (Kd.R_after (v := (.slice (some ⟨go94, 0, none⟩) x325002_2.length co94)) (v1 := (.slice (some ⟨go94, 0, none⟩) x325002_2.length co94)) (ok := (fun k_ => (w.heap.size ≤ k_) ∧ some k_ ≠ (u315000 : Value).ownBlock ∧ some k_ ≠ (u315001 : Value).ownBlock ∧ some k_ ≠ (.slice (some ⟨go92, 0, none⟩) x315002_2.length co92 : Value).ownBlock ∧ some k_ ≠ (u325001 : Value).ownBlock)) (by (with_reducible repeat (first | apply Kd.R_alloc | apply Kd.R_drewN | apply Kd.R_drew)); exact Kd.R_mono HO_325000.out (fun _ hk => ⟨⟨hk.1.1, ⟨hk.1.2.1, ⟨hk.1.2.2.1, ⟨hk.2, hk.1.2.2.2.1⟩⟩⟩⟩, hk.1.2.2.2.2⟩)) hg (.inl rfl)); replace HO_325001 := Aside0.mk (Kd.R_after (v := (.slice (some ⟨go94, 0, none⟩) x325002_2.length co94)) (v1 := (.slice (some ⟨go94, 0, none⟩) x325002_2.length co94)) (ok := (fun k_ => (w.heap.size ≤ k_) ∧ some k_ ≠ (u315000 : Value).ownBlock ∧ some k_ ≠ (u315001 : Value).ownBlock ∧ some k_ ≠ (.slice (some ⟨go92, 0, none⟩) x315002_2.length co92 : Value).ownBlock ∧ some k_ ≠ (u325000 : Value).ownBlock)) (by (with_reducible repeat (first | apply Kd.R_alloc | apply Kd.R_drewN | apply Kd.R_drew)); exact Kd.R_mono HO_325001.out (fun _ hk => ⟨⟨hk.1.1, ⟨hk.1.2.1, ⟨hk.1.2.2.1, ⟨hk.2, hk.1.2.2.2.1⟩⟩⟩⟩, hk.1.2.2.2.2⟩)) hg (.inl rfl)); replace BK287 := Aside0.mk (blk_grown (bP BK287) hg (Kd.R_ne HO_325002.out BK287.out (by decide))); replace BK288 := Aside0.mk (blk_grown (bP BK288) hg (Kd.R_ne HO_325002.out BK288.out (by decide))); replace BK314 := Aside0.mk (blk_grown (bP BK314) hg (Kd.R_ne HO_325002.out BK314.out (by decide))); replace BK324 := Aside0.mk (blk_grown (bP BK324) hg (Kd.R_ne HO_325002.out BK324.out (by decide))); replace HO_325002 := Aside0.mk (hp_); replace HB := Aside0.mk ((by rw [hw]; exact below_set (HB.out) GB94.out : Below w.heap.size w w106)); clear hg hw hp_; obtain ⟨hnb107, hnc107⟩ := nB NB288_287; obtain ⟨hcz108_0, hcz108_1, hcz108_2, hfz108_0, hfz108_1, hfz108_2⟩ := bK3 (w := w106) BK288; obtain ⟨hcz109_0, hcz109_1, hcz109_2, hfz109_0, hfz109_1, hfz109_2⟩ := bK3 (w := w106) BK314; obtain ⟨hcz110_0, hcz110_1, hcz110_2, hfz110_0, hfz110_1, hfz110_2⟩ := bK3 (w := w106) BK324; obtain ⟨Ao111, co111, eo111⟩ := Kd.R_slice HO_315000.out; subst eo111; obtain ⟨Ao112, co112, eo112⟩ := Kd.R_slice HO_315001.out; subst eo112; obtain ⟨Ao113, co113, eo113⟩ := Kd.R_slice HO_325000.out; subst eo113; obtain ⟨Ao114, co114, eo114⟩ := Kd.R_slice HO_325001.out; subst eo114) | ((with_reducible refine gate_dst (N := 74) rfl ?_); refine Kd.N_lit k75 _ 75 ?hg (N' := 74) ?hd (xs := ([(⟨x315000_2, x315001_2, y329⟩ : S75), (⟨x325000_2, x325001_2, y330⟩ : S75)] : List (S75))) (inner := [.slice Ao111 x315000_2.length co111, .slice Ao112 x315001_2.length co112, .slice (some ⟨go92, 0, none⟩) x315002_2.length co92, .slice Ao113 x325000_2.length co113, .slice Ao114 x325001_2.length co114, .slice (some ⟨go94, 0, none⟩) x325002_2.length co94]) (ok := (fun k_ => (w.heap.size ≤ k_) ∧ some k_ ≠ (u289002 : Value).ownBlock ∧ k_ ≠ gb287 ∧ k_ ≠ gb288 ∧ k_ ≠ gb314 ∧ k_ ≠ gb324)) (okp := (fun k_ => (w.heap.size ≤ k_) ∧ some k_ ≠ (u289002 : Value).ownBlock ∧ k_ ≠ gb287 ∧ k_ ≠ gb288 ∧ k_ ≠ gb314 ∧ k_ ≠ gb324)) ?hr ?hp (fun _ hk => hk) ((show ∀ k_, w106.heap.size ≤ k_ → (fun k_ => (w.heap.size ≤ k_) ∧ some k_ ≠ (u289002 : Value).ownBlock ∧ k_ ≠ gb287 ∧ k_ ≠ gb288 ∧ k_ ≠ gb314 ∧ k_ ≠ gb324) k_ from fun k_ hk => ⟨(Nat.le_trans (below_size (bZ HB)) hk), Kd.fresh' (Kd.N_lt (by (with_reducible repeat (first | apply Kd.N_alloc | apply Kd.N_drewN | apply Kd.N_drew)); exact HO_289002.out)) k_ hk, Kd.freshB (bP BK287) k_ hk, Kd.freshB (bP BK288) k_ hk, Kd.freshB (bP BK314) k_ hk, Kd.freshB (bP BK324) k_ hk⟩) _ (Nat.le_refl _)) (Below.refl _ _) (Nat.le_refl _) (by simp) ?_; (case hd => rfl); (case hg => rfl); (case hr => first | (go_simp; done) | (go_simp; rfl)); (case hp => exact (Reps.c3 (show Kd.FK k75 _ _ (⟨x315000_2, x315001_2, y329⟩ : S75) [.slice Ao111 x315000_2.length co111, .slice Ao112 x315001_2.length co112, .slice (some ⟨go92, 0, none⟩) x315002_2.length co92] from (k75_mkFV _ _ _ (⟨x315000_2, x315001_2, y329⟩ : S75) (Kd.R_mono (ok' := (fun k_ => (w.heap.size ≤ k_) ∧ some k_ ≠ (u289002 : Value).ownBlock ∧ k_ ≠ gb287 ∧ k_ ≠ gb288 ∧ k_ ≠ gb314 ∧ k_ ≠ gb324)) (Kd.R_types (Kd.R_types (Kd.R_types (Kd.R_types (Kd.R_apart' (HO_315000.out) (Kd.N_typed HO_289002.out) (by decide)) BK287.out (by decide)) BK288.out (by decide)) BK314.out (by decide)) BK324.out (by decide)) (fun k_ hk => ⟨hk.1.1.1.1.1.1.1, ⟨hk.1.1.1.1.2, ⟨hk.1.1.1.2, ⟨hk.1.1.2, ⟨hk.1.2, hk.2⟩⟩⟩⟩⟩)) (Kd.R_mono (ok' := (fun k_ => (w.heap.size ≤ k_) ∧ some k_ ≠ (u289002 : Value).ownBlock ∧ k_ ≠ gb287 ∧ k_ ≠ gb288 ∧ k_ ≠ gb314 ∧ k_ ≠ gb324)) (Kd.R_types (Kd.R_types (Kd.R_types (Kd.R_types (Kd.R_apart' (HO_315001.out) (Kd.N_typed HO_289002.out) (by decide)) BK287.out (by decide)) BK288.out (by decide)) BK314.out (by decide)) BK324.out (by decide)) (fun k_ hk => ⟨hk.1.1.1.1.1.1.1, ⟨hk.1.1.1.1.2, ⟨hk.1.1.1.2, ⟨hk.1.1.2, ⟨hk.1.2, hk.2⟩⟩⟩⟩⟩)) (Kd.R_mono (ok' := (fun k_ => (w.heap.size ≤ k_) ∧ some k_ ≠ (u289002 : Value).ownBlock ∧ k_ ≠ gb287 ∧ k_ ≠ gb288 ∧ k_ ≠ gb314 ∧ k_ ≠ gb324)) (Kd.R_types (Kd.R_types (Kd.R_types (Kd.R_types (Kd.R_apart' (HO_315002.out) (Kd.N_typed HO_289002.out) (by decide)) BK287.out (by decide)) BK288.out (by decide)) BK314.out (by decide)) BK324.out (by decide)) (fun k_ hk => ⟨hk.1.1.1.1.1.1.1, ⟨hk.1.1.1.1.2, ⟨hk.1.1.1.2, ⟨hk.1.1.2, ⟨hk.1.2, hk.2⟩⟩⟩⟩⟩)))) (Reps.c3 (show Kd.FK k75 _ _ (⟨x325000_2, x325001_2, y330⟩ : S75) [.slice Ao113 x325000_2.length co113, .slice Ao114 x325001_2.length co114, .slice (some ⟨go94, 0, none⟩) x325002_2.length co94] from (k75_mkFV _ _ _ (⟨x325000_2, x325001_2, y330⟩ : S75) (Kd.R_mono (ok' := (fun k_ => (w.heap.size ≤ k_) ∧ some k_ ≠ (u289002 : Value).ownBlock ∧ k_ ≠ gb287 ∧ k_ ≠ gb288 ∧ k_ ≠ gb314 ∧ k_ ≠ gb324)) (Kd.R_types (Kd.R_types (Kd.R_types (Kd.R_types (Kd.R_apart' (HO_325000.out) (Kd.N_typed HO_289002.out) (by decide)) BK287.out (by decide)) BK288.out (by decide)) BK314.out (by decide)) BK324.out (by decide)) (fun k_ hk => ⟨hk.1.1.1.1.1.1.1, ⟨hk.1.1.1.1.2, ⟨hk.1.1.1.2, ⟨hk.1.1.2, ⟨hk.1.2, hk.2⟩⟩⟩⟩⟩)) (Kd.R_mono (ok' := (fun k_ => (w.heap.size ≤ k_) ∧ some k_ ≠ (u289002 : Value).ownBlock ∧ k_ ≠ gb287 ∧ k_ ≠ gb288 ∧ k_ ≠ gb314 ∧ k_ ≠ gb324)) (Kd.R_types (Kd.R_types (Kd.R_types (Kd.R_types (Kd.R_apart' (HO_325001.out) (Kd.N_typed HO_289002.out) (by decide)) BK287.out (by decide)) BK288.out (by decide)) BK314.out (by decide)) BK324.out (by decide)) (fun k_ hk => ⟨hk.1.1.1.1.1.1.1, ⟨hk.1.1.1.1.2, ⟨hk.1.1.1.2, ⟨hk.1.1.2, ⟨hk.1.2, hk.2⟩⟩⟩⟩⟩)) (Kd.R_mono (ok' := (fun k_ => (w.heap.size ≤ k_) ∧ some k_ ≠ (u289002 : Value).ownBlock ∧ k_ ≠ gb287 ∧ k_ ≠ gb288 ∧ k_ ≠ gb314 ∧ k_ ≠ gb324)) (Kd.R_types (Kd.R_types (Kd.R_types (Kd.R_types (Kd.R_apart' (HO_325002.out) (Kd.N_typed HO_289002.out) (by decide)) BK287.out (by decide)) BK288.out (by decide)) BK314.out (by decide)) BK324.out (by decide)) (fun k_ hk => ⟨hk.1.1.1.1.1.1, ⟨hk.1.1.1.1.2, ⟨hk.1.1.1.2, ⟨hk.1.1.2, ⟨hk.1.2, hk.2⟩⟩⟩⟩⟩)))) (Reps.none _ _)))); intro v332 w115 ho116 hb hg_ hnew_; clear hg_ hnew_; (first | rw [← Ny331.out] at ho116 | (simp only [Int.reduceToNat] at ho116; rw [← Ny331.out] at ho116)); replace HO_289002 := Aside0.mk (Kd.N_elder' (by (with_reducible repeat (first | apply Kd.N_alloc | apply Kd.N_drewN | apply Kd.N_drew)); exact HO_289002.out) (Kd.N_base ho116) hb); have HO333 := Aside0.mk (Kd.N_lower ho116 (below_size (bZ HB))); replace BK287 := bB BK287 hb; replace BK288 := bB BK288 hb; replace BK314 := bB BK314 hb; replace BK324 := bB BK324 hb; replace HB := bS HB hb; clear HO_315000 HO_315001 HO_315002 HO_325000 HO_325001 HO_325002; clear hb ho116; obtain ⟨Ao118, co118, eo118⟩ := Kd.N_slice HO333.out; subst eo118) | ((with_reducible refine gate_builtin (b := .append) (xs := #[.tmp 71, .tmp 74]) rfl ?_); at_builtin; refine Kd.N_append_rows k75 (w0 := w) w.heap.size rfl (.tmp 71) (.tmp 74) 41 75 (.agg #[(.slice none 0 0), (.slice none 0 0), (.slice none 0 0)]) 72 rfl Try.underlying41 info75 rfl (by decide) (by omega) u289002 x289002_1 y331 _ _ _ (fun k_ => (w.heap.size ≤ k_) ∧ k_ ≠ gb287 ∧ k_ ≠ gb288 ∧ k_ ≠ gb314 ∧ k_ ≠ gb324) (fun k_ => ((fun k_ => (w.heap.size ≤ k_) ∧ k_ ≠ gb287 ∧ k_ ≠ gb288 ∧ k_ ≠ gb314 ∧ k_ ≠ gb324)) k_ ∧ some k_ ≠ (u289002 : Value).ownBlock) rfl rfl ?aO ?aR (fun _ hk => hk) ?aF ?aB ?aS ?aL ?_; (case aR => exact (by skip; exact Kd.N_F (Kd.N_mono (ok' := (fun k_ => ((fun k_ => (w.heap.size ≤ k_) ∧ k_ ≠ gb287 ∧ k_ ≠ gb288 ∧ k_ ≠ gb314 ∧ k_ ≠ gb324)) k_ ∧ some k_ ≠ (u289002 : Value).ownBlock)) (HO333.out) (fun k_ hk => ⟨⟨hk.1, ⟨hk.2.2.1, ⟨hk.2.2.2.1, ⟨hk.2.2.2.2.1, hk.2.2.2.2.2⟩⟩⟩⟩, hk.2.1⟩)))); (case aB => exact (bZ HB)); (case aF => exact (fun k_ hk => ⟨(Nat.le_trans (below_size (bZ HB)) hk), Kd.freshB (bP BK287) k_ hk, Kd.freshB (bP BK288) k_ hk, Kd.freshB (bP BK314) k_ hk, Kd.freshB (bP BK324) k_ hk⟩)); (case aO => exact (by (with_reducible repeat (first | apply Kd.N_alloc | apply Kd.N_drewN | apply Kd.N_drew)); exact Kd.N_mono HO_289002.out (fun _ hk => ⟨hk.1.1.1, ⟨hk.1.1.2.2.2.2.2.2.1, ⟨hk.1.1.2.2.2.2.2.2.2.1, ⟨hk.1.1.2.2.2.2.2.2.2.2.1, hk.1.1.2.2.2.2.2.2.2.2.2⟩⟩⟩⟩))); (case aS => exact (below_size (bZ HB))); (case aL => have := LMc95.out; omega); intro v335 w117 ho hb hg hat; rw [← Ny334.out] at ho; replace BK287 := Aside0.mk (blk_grown (bP BK287) hg (Kd.N_ne HO_289002.out BK287.out (by decide))); replace BK288 := Aside0.mk (blk_grown (bP BK288) hg (Kd.N_ne HO_289002.out BK288.out (by decide))); replace BK314 := Aside0.mk (blk_grown (bP BK314) hg (Kd.N_away HO_289002.out (fun _ hk => hk.1.1.2.2.2.2.2.2.2.2.1))); replace BK324 := Aside0.mk (blk_grown (bP BK324) hg (Kd.N_away HO_289002.out (fun _ hk => hk.1.1.2.2.2.2.2.2.2.2.2))); replace HO333 := Aside0.mk (Kd.N_afterv (ok := (fun k_ => (w.heap.size ≤ k_) ∧ k_ ≠ gb287 ∧ k_ ≠ gb288 ∧ k_ ≠ gb314 ∧ k_ ≠ gb324)) (by (with_reducible repeat (first | apply Kd.N_alloc | apply Kd.N_drewN | apply Kd.N_drew)); exact Kd.N_mono HO333.out (fun _ hk => ⟨⟨hk.1, ⟨hk.2.2.1, ⟨hk.2.2.2.1, ⟨hk.2.2.2.2.1, hk.2.2.2.2.2⟩⟩⟩⟩, hk.2.1⟩)) hg hat); replace HB := Aside0.mk (hb); have HO336 := Aside0.mk (ho); clear HO_289002; clear ho hb hg hat; obtain ⟨Ao119, co119, eo119⟩ := Kd.N_slice HO336.out; subst eo119; obtain ⟨hcz120_0, hcz120_1, hcz120_2, hfz120_0, hfz120_1, hfz120_2⟩ := bK3 (w := w117) BK288; obtain ⟨hcz121_0, hcz121_1, hcz121_2, hfz121_0, hfz121_1, hfz121_2⟩ := bK3 (w := w117) BK287))
            refine rC gb287 43 #[.int .i64 11, .int .i64 2, .slice Ao119 y334.length co119] (bU BK287) Try.underlying43 ?_
            exact ⟨_, by first | rfl | (simp [errW_none, errW_some] <;> rfl) | (simp [*, errW_none, errW_some] <;> rfl), by (with_reducible repeat (first | apply Kd.N_alloc | apply Kd.N_drewN | apply Kd.N_drew)); exact Kd.N_mono (Kd.N_far (p := ⟨gb287, 2, none⟩) (Kd.N_far (p := ⟨gb287, 1, none⟩) (Kd.N_far (p := ⟨gb287, 0, none⟩) (Kd.N_far (p := ⟨gb288, 2, none⟩) (Kd.N_mono (Kd.N_mono HO336.out (fun k_ hk => (⟨hk, hk.2.2.1⟩ : _ ∧ k_ ≠ gb288))) (fun k_ hk => (⟨hk, hk.1.2.1⟩ : _ ∧ k_ ≠ gb287))) (fun _ hk => hk.1.2) (.slice Ao119 y334.length co119)) (fun _ hk => hk.2) (.int .i64 11)) (fun _ hk => hk.2) (.int .i64 2)) (fun _ hk => hk.2) (.slice Ao119 y334.length co119)) (fun _ hk => hk.1.1.1), bZ HB⟩
           ·rw [if_neg c95] at H
            exact absurd H (by simp)
          ·rw [if_neg c93] at H
           exact absurd H (by simp)
         ·rw [if_neg c91] at H
          exact absurd H (by simp)
     ·rw [if_neg c44] at H
      exact absurd H (by simp)
    ·rw [if_neg c42] at H
     exact absurd H (by simp)
end Go.Proofs.Ythdpfjkdpeamnaa.Pf
end
section
namespace Go.Proofs.Ythdpfjkdpeamnaa.Pf
open Go.RowKit Go.Proofs.YthdpfjkdpeamnaaW.PrintWords Go.Proofs.YthdpfjkdpeamnaaW.PrintLast Go.Proofs.YthdpfjkdpeamnaaW.PrintMore
attribute [local go_sem] max2_int min2_int max_two min_two max_three min_three max_four min_four
set_option linter.unusedVariables false
set_option linter.unusedSimpArgs false
set_option maxHeartbeats 8000000
set_option maxRecDepth 100000
def spec_l01Once.f (s0_0 : List Int) (s0_1 : Int) (s0_2 : Int) (a1 : Int) : Option (Bool × Int × Int) := (spec_l01Below.f s0_0 s0_1 s0_2 a1).bind fun bt337 => (some ((bt337.1 == 0), bt337.2.1, bt337.2.2))
theorem spec_l01Once.calls (g : Nat) (s0_0 : List Int) (s0_1 : Int) (s0_2 : Int) (a1 : Int) (r1 : Bool) (r2 : Int) (r3 : Int) (w0 w : World) (hI : IsS103 w0 w g s0_0 s0_1 s0_2) (hB : Below w0.heap.size w0 w) (h : spec_l01Once.f s0_0 s0_1 s0_2 a1 = some (r1, r2, r3)) :
  Calls Try.prog 100 #[.pointer (some ⟨g, 0, none⟩), .int .i64 a1] w fun e w' => e = .returned (.bool r1) ∧ IsS103 w0 w' g s0_0 r2 r3 ∧ Below w0.heap.size w0 w' ∧ KeepBut w w' g none := by
 have HI0 := Aside0.mk hI
 have HK := Aside0.mk (KeepBut.refl w g none)
 have HL := Aside0.mk hB.size
 clear hI
 have HW0 := Aside0.mk hB.size
 have HB := Aside0.mk hB
 clear hB
 have H : ((spec_l01Below.f s0_0 s0_1 s0_2 a1).bind fun bt337 => (some ((bt337.1 == 0), bt337.2.1, bt337.2.2))) = some (r1, r2, r3) := h
 clear h
 replace H := Option.bind_eq_some_iff.mp H
 obtain ⟨⟨t337, t338, t339⟩, A30, H⟩ := H
 have A3 := Aside0.mk A30
 clear A30
 simp only [Option.some.injEq, Prod.mk.injEq] at H
 obtain ⟨rfl, rfl, rfl⟩ := H
 go_enter Try.func100, Try.ntmps100
 go_wp2_with (first | (refine gC (some 7) Try.func82 #[.pointer (some ⟨g, 0, none⟩), .int .i64 a1] ?_; (with_reducible refine (spec_l01Below.calls g s0_0 s0_1 s0_2 a1 t337 t338 t339 w0 _ ?side1 ?side2 A3.out).mono ?_); (case side1 => exact iZ103 HI0); (case side2 => exact jZ103 HB HI0); rintro e w4 ⟨rfl, hi, hb, hk⟩; refine ⟨_, rfl, ?_⟩; replace HK := Aside0.mk (KeepBut.trans (kZ HK) hk (.inl rfl)); replace HB := Aside0.mk (hb); replace HI0 := Aside0.mk (hi); (try clear hb)))
 go_ret
 exact ⟨by first | rfl | (simp [errW_none, errW_some] <;> rfl) | (simp [*, errW_none, errW_some] <;> rfl), iZ103 HI0, jZ103 HB HI0, kZ HK⟩
def spec_l01PickInt.f (s0_0 : List Int) (s0_1 : Int) (s0_2 : Int) (l1 : List Int) : Option (Int × Int × Int) := (spec_l01Below.f s0_0 s0_1 s0_2 (l1.length : Int)).bind fun bt340 => (if 0 ≤ bt340.1 then (if bt340.1 < (l1.length : Int) then (some (rd l1 bt340.1, bt340.2.1, bt340.2.2)) else (none)) else (none))
theorem spec_l01PickInt.calls (g : Nat) (s0_0 : List Int) (s0_1 : Int) (s0_2 : Int) (A1 : Option Addr) (c1 : Nat) (l1 : List Int) (r1 : Int) (r2 : Int) (r3 : Int) (w0 w : World) (hI : IsS103 w0 w g s0_0 s0_1 s0_2) (hB : Below w0.heap.size w0 w) (hr1 : Kd.C (Kd.int .i64) w A1 l1.length l1) (hc1 : l1.length ≤ c1) (hf1 : ∀ ad, A1 = some ad → 0 < l1.length → ad.block ≠ g) (h : spec_l01PickInt.f s0_0 s0_1 s0_2 l1 = some (r1, r2, r3)) :
  Calls Try.prog 102 #[.pointer (some ⟨g, 0, none⟩), .slice A1 l1.length c1] w fun e w' => e = .returned (.int .i64 r1) ∧ IsS103 w0 w' g s0_0 r2 r3 ∧ Below w0.heap.size w0 w' ∧ KeepBut w w' g none := by
 have HR1 := Aside0.mk hr1
 have HC1 := Aside0.mk hc1
 clear hr1 hc1
 have HI0 := Aside0.mk hI
 have HK := Aside0.mk (KeepBut.refl w g none)
 have HL := Aside0.mk hB.size
 clear hI
 have HW0 := Aside0.mk hB.size
 have HB := Aside0.mk hB
 clear hB
 have H : ((spec_l01Below.f s0_0 s0_1 s0_2 (l1.length : Int)).bind fun bt340 => (if 0 ≤ bt340.1 then (if bt340.1 < (l1.length : Int) then (some (rd l1 bt340.1, bt340.2.1, bt340.2.2)) else (none)) else (none))) = some (r1, r2, r3) := h
 clear h
 replace H := Option.bind_eq_some_iff.mp H
 obtain ⟨⟨t340, t341, t342⟩, A30, H⟩ := H
 have A3 := Aside0.mk A30
 clear A30
 by_cases c4 : 0 ≤ t340
 ·rw [if_pos c4] at H
  have c4b0 := decide_eq_true c4
  clear c4
  by_cases c5 : t340 < (l1.length : Int)
  ·rw [if_pos c5] at H
   have c5b0 := decide_eq_true c5
   clear c5
   simp only [Option.some.injEq, Prod.mk.injEq] at H
   obtain ⟨rfl, rfl, rfl⟩ := H
   go_enter Try.func102, Try.ntmps102
   go_wp2_with (first | (refine gC (some 9) Try.func82 #[.pointer (some ⟨g, 0, none⟩), .int .i64 (l1.length : Int)] ?_; (with_reducible refine (spec_l01Below.calls g s0_0 s0_1 s0_2 (l1.length : Int) t340 t341 t342 w0 _ ?side1 ?side2 A3.out).mono ?_); (case side1 => exact iZ103 HI0); (case side2 => exact jZ103 HB HI0); rintro e w6 ⟨rfl, hi, hb, hk⟩; refine ⟨_, rfl, ?_⟩; replace HK := Aside0.mk (KeepBut.trans (kZ HK) hk (.inl rfl)); replace HB := Aside0.mk (hb); replace HI0 := Aside0.mk (hi); (try clear hb); have p343 : 0 ≤ (t340 : Int) := of_decide_eq_true (by first | (with_reducible assumption) | assumption); have q343 : t340 < (l1.length : Int) := of_decide_eq_true (by first | (with_reducible assumption) | assumption); obtain ⟨ad343, e343, hx343_0⟩ := Kd.at_int HR1.out t340 p343 q343; cases e343; replace hx343_0 := keep_cell HK.out hx343_0 (by first | (rw [add_block]; exact hf1 _ rfl (by omega)) | exact hf1 _ rfl (by omega) | exact hf1 ad343 rfl (by omega)); replace p343 := eq_true p343; replace q343 := eq_true q343))
   go_ret
   exact ⟨by first | rfl | (simp [errW_none, errW_some] <;> rfl) | (simp [*, errW_none, errW_some] <;> rfl), iZ103 HI0, jZ103 HB HI0, kZ HK⟩
  ·rw [if_neg c5] at H
   exact absurd H (by simp)
 ·rw [if_neg c4] at H
  exact absurd H (by simp)
def spec_l06Num.f (s0_0 : List Int) (s0_1 : Int) (s0_2 : Int) : Option (Int × Int × Int) := (spec_l01Below.f s0_0 s0_1 s0_2 256).bind fun bt344 => ((spec_l01PickInt.f s0_0 bt344.2.1 bt344.2.2 (([0, 1, 2, 1008, 1009, 1010, (-1), wrap64 (bt344.1 * 3), 500, (-9223372036854775808), 9223372036854775807] : List Int))).bind fun bt350 => (some (bt350.1, bt350.2.1, bt350.2.2)))
theorem spec_l06Num.calls (g : Nat) (s0_0 : List Int) (s0_1 : Int) (s0_2 : Int) (r1 : Int) (r2 : Int) (r3 : Int) (w0 w : World) (hI : IsS103 w0 w g s0_0 s0_1 s0_2) (hB : Below w0.heap.size w0 w) (h : spec_l06Num.f s0_0 s0_1 s0_2 = some (r1, r2, r3)) :
  Calls Try.prog 101 #[.pointer (some ⟨g, 0, none⟩)] w fun e w' => e = .returned (.int .i64 r1) ∧ IsS103 w0 w' g s0_0 r2 r3 ∧ Below w0.heap.size w0 w' ∧ KeepBut w w' g none := by
 have HI0 := Aside0.mk hI
 have HK := Aside0.mk (KeepBut.refl w g none)
 have HL := Aside0.mk hB.size
 clear hI
 have HW0 := Aside0.mk hB.size
 have HB := Aside0.mk hB
 clear hB
 have H : ((spec_l01Below.f s0_0 s0_1 s0_2 256).bind fun bt344 => ((spec_l01PickInt.f s0_0 bt344.2.1 bt344.2.2 (([0, 1, 2, 1008, 1009, 1010, (-1), wrap64 (bt344.1 * 3), 500, (-9223372036854775808), 9223372036854775807] : List Int))).bind fun bt350 => (some (bt350.1, bt350.2.1, bt350.2.2)))) = some (r1, r2, r3) := h
 clear h
 replace H := Option.bind_eq_some_iff.mp H
 obtain ⟨⟨t344, t345, t346⟩, A20, H⟩ := H
 have A2 := Aside0.mk A20
 clear A20
 obtain ⟨y347, hy347⟩ : ∃ y_ : List Int, y_ = (([0, 1, 2, 1008, 1009, 1010, (-1), wrap64 (t344 * 3), 500, (-9223372036854775808), 9223372036854775807] : List Int)) := ⟨_, rfl⟩
 replace H : ((spec_l01PickInt.f s0_0 t345 t346 y347).bind fun bt350 => (some (bt350.1, bt350.2.1, bt350.2.2))) = some (r1, r2, r3) := by first | (rw [hy347]; with_reducible exact H) | (have H2_ := (Option.bind_some _ _).symm.trans H; rw [hy347]; with_reducible exact H2_) | (have H2_ := (Option.bind_some _ _).symm.trans H; with_reducible exact H2_) | with_reducible exact H | (rw [hy347]; exact H) | exact H
 have Ny347 := Aside0.mk hy347
 clear hy347
 replace H := Option.bind_eq_some_iff.mp H
 obtain ⟨⟨t350, t351, t352⟩, A30, H⟩ := H
 have A3 := Aside0.mk A30
 clear A30
 simp only [Option.some.injEq, Prod.mk.injEq] at H
 obtain ⟨rfl, rfl, rfl⟩ := H
 go_enter Try.func101, Try.ntmps101
 go_wp2_with (first | (refine gC (some 5) Try.func82 #[.pointer (some ⟨g, 0, none⟩), .int .i64 256] ?_; (with_reducible refine (spec_l01Below.calls g s0_0 s0_1 s0_2 256 t344 t345 t346 w0 _ ?side1 ?side2 A2.out).mono ?_); (case side1 => exact iZ103 HI0); (case side2 => exact jZ103 HB HI0); rintro e w4 ⟨rfl, hi, hb, hk⟩; refine ⟨_, rfl, ?_⟩; replace HK := Aside0.mk (KeepBut.trans (kZ HK) hk (.inl rfl)); replace HB := Aside0.mk (hb); replace HI0 := Aside0.mk (hi); (try clear hb)) | ((with_reducible refine gate_dst (N := 7) rfl ?_); refine Kd.R_lit (Kd.int .i64) _ 3 ?hg (N := 7) ?hd (xs := ([0, 1, 2, 1008, 1009, 1010, (-1), wrap64 (t344 * 3), 500, (-9223372036854775808), 9223372036854775807] : List Int)) (inner := [.int .i64 0, .int .i64 1, .int .i64 2, .int .i64 1008, .int .i64 1009, .int .i64 1010, .int .i64 (-1), .int .i64 (wrap64 (t344 * 3)), .int .i64 500, .int .i64 (-9223372036854775808), .int .i64 9223372036854775807]) (ok := fun _ => True) (okp := fun _ => True) ?hr ?hp (fun _ hk => hk) trivial (Below.refl _ _) (Nat.le_refl _) (by simp) ?_; (case hd => rfl); (case hg => rfl); (case hr => first | (go_simp; done) | (go_simp; rfl)); (case hp => exact (Reps.one (show Kd.M (Kd.int .i64) _ _ _ 0 [.int .i64 0] from rfl) (Reps.one (show Kd.M (Kd.int .i64) _ _ _ 1 [.int .i64 1] from rfl) (Reps.one (show Kd.M (Kd.int .i64) _ _ _ 2 [.int .i64 2] from rfl) (Reps.one (show Kd.M (Kd.int .i64) _ _ _ 1008 [.int .i64 1008] from rfl) (Reps.one (show Kd.M (Kd.int .i64) _ _ _ 1009 [.int .i64 1009] from rfl) (Reps.one (show Kd.M (Kd.int .i64) _ _ _ 1010 [.int .i64 1010] from rfl) (Reps.one (show Kd.M (Kd.int .i64) _ _ _ (-1) [.int .i64 (-1)] from rfl) (Reps.one (show Kd.M (Kd.int .i64) _ _ _ (wrap64 (t344 * 3)) [.int .i64 (wrap64 (t344 * 3))] from rfl) (Reps.one (show Kd.M (Kd.int .i64) _ _ _ 500 [.int .i64 500] from rfl) (Reps.one (show Kd.M (Kd.int .i64) _ _ _ (-9223372036854775808) [.int .i64 (-9223372036854775808)] from rfl) (Reps.one (show Kd.M (Kd.int .i64) _ _ _ 9223372036854775807 [.int .i64 9223372036854775807] from rfl) (Reps.none _ _))))))))))))); intro v348 w5 ho6 hb hg_ hnew_; clear hg_ hnew_; (first | rw [← Ny347.out] at ho6 | (simp only [Int.reduceToNat] at ho6; rw [← Ny347.out] at ho6)); have HO349 := Aside0.mk (Kd.R_lower ho6 (keep_size (w := w) (g := g) (row := none) (kZ HK))); replace HK := Aside0.mk (KeepBut.trans (kZ HK) (KeepBut.of_below hb g none) (.inl rfl)); replace HB := Aside0.mk (below_step (jZ103 HB HI0) hb); replace HI0 := Aside0.mk (IsS103.below (iZ103 HI0) hb); clear hb ho6; obtain ⟨Ao7, co7, eo7⟩ := Kd.R_slice HO349.out; subst eo7) | (refine gC (some 8) Try.func102 #[.pointer (some ⟨g, 0, none⟩), .slice Ao7 y347.length co7] ?_; (with_reducible refine (spec_l01PickInt.calls g s0_0 t345 t346 _ _ y347 t350 t351 t352 w0 _ ?side1 ?side2 ?side3 ?side4 ?side5 A3.out).mono ?_); (case side1 => exact iZ103 HI0); (case side2 => exact jZ103 HB HI0); (case side3 => exact cP ((Kd.R_reads' HO349.out).2.2)); (case side4 => exact (Kd.R_reads' HO349.out).2.1); (case side5 => exact far_slice (IsS103.own_ne HI0.out HO349.out (by decide))); rintro e w8 ⟨rfl, hi, hb, hk⟩; refine ⟨_, rfl, ?_⟩; replace HO349 := Aside0.mk (Kd.R_mono (Kd.R_keep (IsS103.apart (show IsS103 w0 _ g s0_0 t345 t346 from iZ103 HI0) (rP HO349) (by decide)) hk (fun _ h => h.2)) (fun _ h => h.1)); replace HK := Aside0.mk (KeepBut.trans (kZ HK) hk (.inl rfl)); replace HB := Aside0.mk (hb); replace HI0 := Aside0.mk (hi); (try clear hb)))
 go_ret
 exact ⟨by first | rfl | (simp [errW_none, errW_some] <;> rfl) | (simp [*, errW_none, errW_some] <;> rfl), iZ103 HI0, jZ103 HB HI0, kZ HK⟩
end Go.Proofs.Ythdpfjkdpeamnaa.Pf
end
section
namespace Go.Proofs.Ythdpfjkdpeamnaa.Pf
open Go.RowKit Go.Proofs.YthdpfjkdpeamnaaW.PrintWords Go.Proofs.YthdpfjkdpeamnaaW.PrintLast Go.Proofs.YthdpfjkdpeamnaaW.PrintMore
attribute [local go_sem] max2_int min2_int max_two min_two max_three min_three max_four min_four
set_option linter.unusedVariables false
set_option linter.unusedSimpArgs false
set_option maxHeartbeats 8000000
set_option maxRecDepth 100000
mutual
def spec_l13System.l0 : Nat → Int → List Int → List Int → Int → Int → Option (Int × Int × (List (S75)) × List Int × Int × Int)
 | 0, _, _, _, _, _ => none
 | k + 1, x5, x6, x1000, x1001, x1002 => if (x6.length : Int) < x5 then ((spec_l06Num.f x1000 x1001 x1002).bind fun bt374 => ((spec_ScOf.f bt374.1).bind fun t377 => (if x6.length < 17592186044416 then (spec_l13System.l0 k x5 (x6 ++ [t377]) x1000 bt374.2.1 bt374.2.2) else (none)))) else ((spec_l01Below.f x1000 x1001 x1002 x5).bind fun bt381 => (spec_l13System.l1 k x5 x6 0 x1000 bt381.2.1 bt381.2.2 x5 bt381.1 ([] : List (S75))))
def spec_l13System.l1 : Nat → Int → List Int → Int → List Int → Int → Int → Int → Int → List (S75) → Option (Int × Int × (List (S75)) × List Int × Int × Int)
 | 0, _, _, _, _, _, _, _, _, _ => none
 | k + 1, x5, x6, x8, x1000, x1001, x1002, x385000, x385001, x385002 => (spec_l01Below.f x1000 x1001 x1002 4).bind fun bt385 => (if x8 < (wrap64 (1 + bt385.1)) then ((spec_l13Row.f x5).bind fun bt388 => (spec_l13System.l2 k x5 x6 x8 0 x1000 bt385.2.1 bt385.2.2 x385000 x385001 x385002 bt388.1 bt388.2.1 bt388.2.2)) else (some (x385000, x385001, x385002, x6, bt385.2.1, bt385.2.2)))
def spec_l13System.l2 : Nat → Int → List Int → Int → Int → List Int → Int → Int → Int → Int → List (S75) → List Int → List Int → List Int → Option (Int × Int × (List (S75)) × List Int × Int × Int)
 | 0, _, _, _, _, _, _, _, _, _, _, _, _, _ => none
 | k + 1, x5, x6, x8, x10, x1000, x1001, x1002, x385000, x385001, x385002, x398000, x398001, x398002 => if x10 < x5 then ((spec_l01Below.f x1000 x1001 x1002 3).bind fun bt398 => (if 0 ≤ x10 then (if x10 < (x398000.length : Int) then ((spec_l01Below.f x1000 bt398.2.1 bt398.2.2 3).bind fun bt402 => (if x10 < (x398001.length : Int) then (spec_l13System.l2 k x5 x6 x8 (wrap64 (x10 + 1)) x1000 bt402.2.1 bt402.2.2 x385000 x385001 x385002 (x398000.set (x10 : Int).toNat bt398.1) (x398001.set (x10 : Int).toNat bt402.1) x398002) else (none))) else (none)) else (none))) else ((spec_ScDot.f k x398000 x6).bind fun t406 => ((spec_ScDot.f k x398001 x6).bind fun t407 => ((spec_ScMul.f t406 t407).bind fun t408 => (if 0 < (x398002.length : Int) then (if x385002.length < 1954687338268 then (spec_l13System.l1 k x5 x6 (wrap64 (x8 + 1)) x1000 x1001 x1002 x385000 x385001 (x385002 ++ [(⟨x398000, x398001, (x398002.set (0 : Int).toNat t408)⟩ : S75)])) else (none)) else (none)))))
end
def spec_l13System.f (k : Nat) (s0_0 : List Int) (s0_1 : Int) (s0_2 : Int) : Option (Int × Int × (List (S75)) × List Int × Int × Int) := (spec_l01Once.f s0_0 s0_1 s0_2 3).bind fun bt354 => (if bt354.1 = true then ((spec_l01Below.f s0_0 bt354.2.1 bt354.2.2 256).bind fun bt357 => ((spec_CountSystem.f k).bind fun bt360 => ((spec_CountWitness.f k bt357.1).bind fun t365 => (some (bt360.1, bt360.2.1, bt360.2.2, t365, bt357.2.1, bt357.2.2))))) else ((spec_l01Below.f s0_0 bt354.2.1 bt354.2.2 4).bind fun bt368 => (spec_l13System.l0 k (wrap64 (2 + bt368.1)) (([1] : List Int)) s0_0 bt368.2.1 bt368.2.2)))
def spec_l13System.T18 : Bool × List (List Nat × List Nat) := (true, [([], []), ([0], [0]), ([], []), ([2], [2]), ([], []), ([3, 4], [3, 4]), ([], []), ([6], [6]), ([], []), ([7, 8, 5], [7, 8]), ([5, 9, 9], [5, 9]), ([1, 0, 1, 2, 3, 4, 5, 6, 7, 8, 9, 10], [1]), ([11, 10, 10, 0, 1, 2, 3, 4, 5, 6, 7, 8, 9, 10], [10, 11])])
def spec_l13System.B18 : List Nat := [0, 1, 0, 4, 0, 28, 0, 64, 0, 508, 1020, 2047, 4095]
theorem spec_l13System.tab18 : rtab .any (opsOf Try.f96 18) = spec_l13System.T18 := by kernel_rfl
theorem spec_l13System.bits18 : waitsOk spec_l13System.T18.2 spec_l13System.B18 = true := by kernel_rfl
theorem spec_l13System.calls (k : Nat) (g : Nat) (s0_0 : List Int) (s0_1 : Int) (s0_2 : Int) (r1 : Int) (r2 : Int) (r3 : List (S75)) (r4 : List Int) (r5 : Int) (r6 : Int) (w0 w : World) (hI : IsS103 w0 w g s0_0 s0_1 s0_2) (hB : Below w0.heap.size w0 w) (h : spec_l13System.f k s0_0 s0_1 s0_2 = some (r1, r2, r3, r4, r5, r6)) :
  Calls Try.prog 96 #[.pointer (some ⟨g, 0, none⟩)] w fun e w' => ∃ v2_ v3_ : Value, e = .returned (.tuple #[.agg #[.int .i64 r1, .int .i64 r2, v2_], v3_]) ∧ Kd.N k75 75 w' w.heap.size (fun k_ => (w.heap.size ≤ k_) ∧ some k_ ≠ (v3_ : Value).ownBlock) v2_ r3 ∧ Kd.R (Kd.int .i64) 3 w' w.heap.size (fun k_ => (w.heap.size ≤ k_)) v3_ r4 ∧ IsS103 w0 w' g s0_0 r5 r6 ∧ Below w0.heap.size w0 w' ∧ KeepBut w w' g none := by
 have hu43 := Try.underlying43
 have hu75 := Try.underlying75
 have HI0 := Aside0.mk hI
 have HK := Aside0.mk (KeepBut.refl w g none)
 have HL := Aside0.mk hB.size
 clear hI
 have HW0 := Aside0.mk hB.size
 have HB := Aside0.mk hB
 clear hB
 have H : ((spec_l01Once.f s0_0 s0_1 s0_2 3).bind fun bt354 => (if bt354.1 = true then ((spec_l01Below.f s0_0 bt354.2.1 bt354.2.2 256).bind fun bt357 => ((spec_CountSystem.f k).bind fun bt360 => ((spec_CountWitness.f k bt357.1).bind fun t365 => (some (bt360.1, bt360.2.1, bt360.2.2, t365, bt357.2.1, bt357.2.2))))) else ((spec_l01Below.f s0_0 bt354.2.1 bt354.2.2 4).bind fun bt368 => (spec_l13System.l0 k (wrap64 (2 + bt368.1)) (([1] : List Int)) s0_0 bt368.2.1 bt368.2.2)))) = some (r1, r2, r3, r4, r5, r6) := h
 clear h
 replace H := Option.bind_eq_some_iff.mp H
 obtain ⟨⟨t354, t355, t356⟩, A20, H⟩ := H
 have A2 := Aside0.mk A20
 clear A20
 by_cases c3 : t354 = true
 ·subst c3
  rw [if_pos rfl] at H
  replace H := Option.bind_eq_some_iff.mp H
  obtain ⟨⟨t357, t358, t359⟩, A40, H⟩ := H
  have A4 := Aside0.mk A40
  clear A40
  replace H := Option.bind_eq_some_iff.mp H
  obtain ⟨⟨t360, t361, t362⟩, A50, H⟩ := H
  have A5 := Aside0.mk A50
  clear A50
  replace H := Option.bind_eq_some_iff.mp H
  obtain ⟨t365, A60, H⟩ := H
  have A6 := Aside0.mk A60
  clear A60
  simp only [Option.some.injEq, Prod.mk.injEq] at H
  obtain ⟨rfl, rfl, rfl, rfl, rfl, rfl⟩ := H
  go_enter Try.func96, Try.ntmps96
  go_wp2_with (first | ((with_reducible refine gate_dst (N := 2) rfl ?_); refine bE 2 #[.int .i64 0, .int .i64 0, .slice none 0 0] 43 ?_; intro gb353 hg w7 hbox hb; replace HB := Aside0.mk (below_step (jZ103 HB HI0) hb); have BK353 := Aside0.mk (hbox); have GW353 := Aside0.mk ((by rw [hg]; exact (keep_size (w := w) (g := g) (row := none) (kZ HK)) : w.heap.size ≤ gb353)); have GE353 := Aside0.mk ((Nat.le_trans HW0.out (by rw [hg]; exact (keep_size (w := w) (g := g) (row := none) (kZ HK)) : w.heap.size ≤ gb353) : w0.heap.size ≤ gb353)); replace HK := Aside0.mk (KeepBut.trans (kZ HK) (KeepBut.of_below hb g none) (.inl rfl)); have NB0_353 := Aside0.mk ((by rw [hg]; exact Nat.ne_of_lt (IsS103.lt (show IsS103 w0 _ g s0_0 s0_1 s0_2 from iZ103 HI0)) : g ≠ gb353)); have NB353_0 := Aside0.mk ((by rw [hg]; exact Nat.ne_of_gt (IsS103.lt (show IsS103 w0 _ g s0_0 s0_1 s0_2 from iZ103 HI0)) : gb353 ≠ g)); replace HI0 := Aside0.mk (IsS103.below (iZ103 HI0) hb); clear hb hbox hg) | (refine gC (some 12) Try.func100 #[.pointer (some ⟨g, 0, none⟩), .int .i64 3] ?_; (with_reducible refine (spec_l01Once.calls g s0_0 s0_1 s0_2 3 true t355 t356 w0 _ ?side1 ?side2 A2.out).mono ?_); (case side1 => exact iZ103 HI0); (case side2 => exact jZ103 HB HI0); rintro e w8 ⟨rfl, hi, hb, hk⟩; refine ⟨_, rfl, ?_⟩; replace BK353 := Aside0.mk (KeepBut.blk hk (g' := gb353) (o := .cells #[.int .i64 0, .int .i64 0, .slice none 0 0] 43 (0, 0)) (bP BK353) NB353_0.out (by simp)); replace HK := Aside0.mk (KeepBut.trans (kZ HK) hk (.inl rfl)); replace HB := Aside0.mk (hb); replace HI0 := Aside0.mk (hi); (try clear hb)) | (refine gC (some 14) Try.func82 #[.pointer (some ⟨g, 0, none⟩), .int .i64 256] ?_; (with_reducible refine (spec_l01Below.calls g s0_0 t355 t356 256 t357 t358 t359 w0 _ ?side1 ?side2 A4.out).mono ?_); (case side1 => exact iZ103 HI0); (case side2 => exact jZ103 HB HI0); rintro e w9 ⟨rfl, hi, hb, hk⟩; refine ⟨_, rfl, ?_⟩; replace BK353 := Aside0.mk (KeepBut.blk hk (g' := gb353) (o := .cells #[.int .i64 0, .int .i64 0, .slice none 0 0] 43 (0, 0)) (bP BK353) NB353_0.out (by simp)); replace HK := Aside0.mk (KeepBut.trans (kZ HK) hk (.inl rfl)); replace HB := Aside0.mk (hb); replace HI0 := Aside0.mk (hi); (try clear hb)) | (refine gC (some 15) Try.func37 #[] ?_; (with_reducible refine (spec_CountSystem.calls k  t360 t361 t362 _ A5.out).mono ?_); rintro e w10 ⟨v363, rfl, ho0, hb⟩; refine ⟨_, rfl, ?_⟩; have HO364 := Aside0.mk (Kd.N_lower (Kd.N_mono (ok' := fun k_ => (w.heap.size ≤ k_) ∧ k_ ≠ gb353 ∧ k_ ≠ g) ho0 (fun k_ hk_ => ⟨(Nat.le_trans (keep_size (w := w) (g := g) (row := none) (kZ HK)) hk_), (Kd.freshB (bP BK353) k_ hk_), (IsS103.fresh (iZ103 HI0) k_ hk_)⟩)) (keep_size (w := w) (g := g) (row := none) (kZ HK))); replace BK353 := bB BK353 hb; replace HK := Aside0.mk (KeepBut.trans (kZ HK) (KeepBut.of_below hb g none) (.inl rfl)); replace HB := Aside0.mk (below_step (jZ103 HB HI0) hb); replace HI0 := Aside0.mk (IsS103.below (iZ103 HI0) hb); (try clear hb); (try clear ho0)) | (refine gC (some 17) Try.func35 #[.int .i64 t357] ?_; (with_reducible refine (spec_CountWitness.calls k t357 t365 _ A6.out).mono ?_); rintro e w11 ⟨v366, rfl, ho0, hb⟩; refine ⟨_, rfl, ?_⟩; replace HO364 := Aside0.mk (Kd.N_elder' (by (with_reducible repeat (first | apply Kd.N_alloc | apply Kd.N_drewN | apply Kd.N_drew)); exact HO364.out) (Kd.R_base ho0) hb); have HO367 := Aside0.mk (Kd.R_lower (Kd.R_newM (M := fun k_ => (w.heap.size ≤ k_)) ho0 (keep_size (w := w) (g := g) (row := none) (kZ HK)) (fun k_ h_ => h_)) (keep_size (w := w) (g := g) (row := none) (kZ HK))); replace BK353 := bB BK353 hb; replace HK := Aside0.mk (KeepBut.trans (kZ HK) (KeepBut.of_below hb g none) (.inl rfl)); replace HB := Aside0.mk (below_step (jZ103 HB HI0) hb); replace HI0 := Aside0.mk (IsS103.below (iZ103 HI0) hb); (try clear hb); (try clear ho0); obtain ⟨hnb12, hnc12⟩ := nB NB353_0; obtain ⟨hcz13_0, hcz13_1, hcz13_2, hfz13_0, hfz13_1, hfz13_2⟩ := bK3 (w := w11) BK353; obtain ⟨Ao14, co14, eo14⟩ := Kd.N_slice HO364.out; subst eo14))
  refine bodyPost_ret (results_ct rfl _ _ gb353 43 #[.int .i64 t360, .int .i64 t361, .slice Ao14 t362.length co14] (0, 0) _ rfl (bU BK353) Try.underlying43 rfl (by kernel_rfl)) rfl ?_
  exact ⟨_, _, by first | rfl | (simp [errW_none, errW_some] <;> rfl) | (simp [*, errW_none, errW_some] <;> rfl), by (with_reducible repeat (first | apply Kd.N_alloc | apply Kd.N_drewN | apply Kd.N_drew)); exact Kd.N_mono (Kd.N_far (p := ⟨gb353, 2, none⟩) (Kd.N_far (p := ⟨gb353, 1, none⟩) (Kd.N_far (p := ⟨gb353, 0, none⟩) (Kd.N_mono HO364.out (fun k_ hk => (⟨hk, hk.1.2.1⟩ : _ ∧ k_ ≠ gb353))) (fun _ hk => hk.2) (.int .i64 t360)) (fun _ hk => hk.2) (.int .i64 t361)) (fun _ hk => hk.2) (.slice Ao14 t362.length co14)) (fun _ hk => ⟨hk.1.1.1, hk.1.2⟩), by (with_reducible repeat (first | apply Kd.R_alloc | apply Kd.R_drewN | apply Kd.R_drew)); exact Kd.R_mono (Kd.R_far (p := ⟨gb353, 2, none⟩) (Kd.R_far (p := ⟨gb353, 1, none⟩) (Kd.R_far (p := ⟨gb353, 0, none⟩) (Kd.R_types HO367.out BK353.out (by decide)) (fun _ hk => hk.2) (.int .i64 t360)) (fun _ hk => hk.2) (.int .i64 t361)) (fun _ hk => hk.2) (.slice Ao14 t362.length co14)) (fun _ hk => hk.1.1), iZ103 HI0, jZ103 HB HI0, kZ HK⟩
 ·replace c3 := Bool.eq_false_iff.mpr c3
  subst c3
  rw [if_neg (show ¬ (false = true) by decide)] at H
  replace H := Option.bind_eq_some_iff.mp H
  obtain ⟨⟨t368, t369, t370⟩, A150, H⟩ := H
  have A15 := Aside0.mk A150
  clear A150
  obtain ⟨y371, hy371⟩ : ∃ y_ : List Int, y_ = (([1] : List Int)) := ⟨_, rfl⟩
  replace H : (spec_l13System.l0 k (wrap64 (2 + t368)) y371 s0_0 t369 t370) = some (r1, r2, r3, r4, r5, r6) := by first | (rw [hy371]; with_reducible exact H) | (have H2_ := (Option.bind_some _ _).symm.trans H; rw [hy371]; with_reducible exact H2_) | (have H2_ := (Option.bind_some _ _).symm.trans H; with_reducible exact H2_) | with_reducible exact H | (rw [hy371]; exact H) | exact H
  have Ny371 := Aside0.mk hy371
  clear hy371
  have H' := Aside0.mk H
  clear H
  go_enter Try.func96, Try.ntmps96
  go_wp2_with (first | ((with_reducible refine gate_dst (N := 2) rfl ?_); refine bE 2 #[.int .i64 0, .int .i64 0, .slice none 0 0] 43 ?_; intro gb353 hg w16 hbox hb; replace HB := Aside0.mk (below_step (jZ103 HB HI0) hb); have BK353 := Aside0.mk (hbox); have GW353 := Aside0.mk ((by rw [hg]; exact (keep_size (w := w) (g := g) (row := none) (kZ HK)) : w.heap.size ≤ gb353)); have GE353 := Aside0.mk ((Nat.le_trans HW0.out (by rw [hg]; exact (keep_size (w := w) (g := g) (row := none) (kZ HK)) : w.heap.size ≤ gb353) : w0.heap.size ≤ gb353)); replace HK := Aside0.mk (KeepBut.trans (kZ HK) (KeepBut.of_below hb g none) (.inl rfl)); have NB0_353 := Aside0.mk ((by rw [hg]; exact Nat.ne_of_lt (IsS103.lt (show IsS103 w0 _ g s0_0 s0_1 s0_2 from iZ103 HI0)) : g ≠ gb353)); have NB353_0 := Aside0.mk ((by rw [hg]; exact Nat.ne_of_gt (IsS103.lt (show IsS103 w0 _ g s0_0 s0_1 s0_2 from iZ103 HI0)) : gb353 ≠ g)); replace HI0 := Aside0.mk (IsS103.below (iZ103 HI0) hb); clear hb hbox hg) | (refine gC (some 12) Try.func100 #[.pointer (some ⟨g, 0, none⟩), .int .i64 3] ?_; (with_reducible refine (spec_l01Once.calls g s0_0 s0_1 s0_2 3 false t355 t356 w0 _ ?side1 ?side2 A2.out).mono ?_); (case side1 => exact iZ103 HI0); (case side2 => exact jZ103 HB HI0); rintro e w17 ⟨rfl, hi, hb, hk⟩; refine ⟨_, rfl, ?_⟩; replace BK353 := Aside0.mk (KeepBut.blk hk (g' := gb353) (o := .cells #[.int .i64 0, .int .i64 0, .slice none 0 0] 43 (0, 0)) (bP BK353) NB353_0.out (by simp)); replace HK := Aside0.mk (KeepBut.trans (kZ HK) hk (.inl rfl)); replace HB := Aside0.mk (hb); replace HI0 := Aside0.mk (hi); (try clear hb)) | (refine gC (some 19) Try.func82 #[.pointer (some ⟨g, 0, none⟩), .int .i64 4] ?_; (with_reducible refine (spec_l01Below.calls g s0_0 t355 t356 4 t368 t369 t370 w0 _ ?side1 ?side2 A15.out).mono ?_); (case side1 => exact iZ103 HI0); (case side2 => exact jZ103 HB HI0); rintro e w18 ⟨rfl, hi, hb, hk⟩; refine ⟨_, rfl, ?_⟩; replace BK353 := Aside0.mk (KeepBut.blk hk (g' := gb353) (o := .cells #[.int .i64 0, .int .i64 0, .slice none 0 0] 43 (0, 0)) (bP BK353) NB353_0.out (by simp)); replace HK := Aside0.mk (KeepBut.trans (kZ HK) hk (.inl rfl)); replace HB := Aside0.mk (hb); replace HI0 := Aside0.mk (hi); (try clear hb)) | ((with_reducible refine gate_dst (N := 21) rfl ?_); refine Kd.R_lit (Kd.int .i64) _ 3 ?hg (N := 21) ?hd (xs := ([1] : List Int)) (inner := [.int .i64 1]) (ok := fun _ => True) (okp := fun _ => True) ?hr ?hp (fun _ hk => hk) trivial (Below.refl _ _) (Nat.le_refl _) (by simp) ?_; (case hd => rfl); (case hg => rfl); (case hr => first | (go_simp; done) | (go_simp; rfl)); (case hp => exact (Reps.one (show Kd.M (Kd.int .i64) _ _ _ 1 [.int .i64 1] from rfl) (Reps.none _ _))); intro v372 w19 ho20 hb hg_ hnew_; clear hg_ hnew_; (first | rw [← Ny371.out] at ho20 | (simp only [Int.reduceToNat] at ho20; rw [← Ny371.out] at ho20)); have HO373 := Aside0.mk (Kd.R_lower (Kd.R_newM (M := fun k_ => (w.heap.size ≤ k_)) ho20 (keep_size (w := w) (g := g) (row := none) (kZ HK)) (fun k_ h_ => h_)) (keep_size (w := w) (g := g) (row := none) (kZ HK))); replace BK353 := bB BK353 hb; replace HK := Aside0.mk (KeepBut.trans (kZ HK) (KeepBut.of_below hb g none) (.inl rfl)); replace HB := Aside0.mk (below_step (jZ103 HB HI0) hb); replace HI0 := Aside0.mk (IsS103.below (iZ103 HI0) hb); clear hb ho20))
  go_loopg [6] k (fun kq v6 w' => ∃ (x6_1 : List Int) (x1001_1 : Int) (x1002_1 : Int), Aside0 (spec_l13System.l0 kq (wrap64 (2 + t368)) x6_1 s0_0 x1001_1 x1002_1 = some (r1, r2, r3, r4, r5, r6)) ∧ Aside0 (kq ≤ k) ∧ Aside0 (Kd.R (Kd.int .i64) 3 w' w.heap.size (fun k_ => (w.heap.size ≤ k_)) v6 x6_1) ∧ Aside0 (w'.heap[gb353]? = some (.cells #[.int .i64 0, .int .i64 0, (.slice none 0 0)] 43 (0, 0))) ∧ Aside0 (IsS103 w0 w' g s0_0 x1001_1 x1002_1) ∧ Aside0 (KeepBut w w' g none) ∧ Aside0 (Below w0.heap.size w0 w'))
  case atStart => exact ⟨(y371), (t369), (t370), H', ⟨Nat.le_refl _⟩, ⟨by (with_reducible repeat (first | apply Kd.R_alloc | apply Kd.R_drewN | apply Kd.R_drew)); exact Kd.R_mono HO373.out (fun _ hk => hk.1)⟩, ⟨bP BK353⟩, ⟨iZ103 HI0⟩, ⟨kZ HK⟩, ⟨jZ103 HB HI0⟩⟩
  case round =>
   clear H'
   try clear c1
   try clear p2
   try clear c3
   try clear p6
   try clear c8
   try clear c9
   try clear c10
   try clear c12
   try clear hcz13_0
   try clear hcz13_1
   try clear hcz13_2
   try clear hfz13_0
   try clear hfz13_1
   try clear hfz13_2
   obtain ⟨x6_1, x1001_1, x1002_1, HA, HK1, HO_6, BK353, HI0, HK, HB⟩ := hrel
   cases gk with
   | zero => exact absurd HA.out (by simp [spec_l13System.l0])
   | succ k1 =>
    have H := HA.out
    clear HA
    simp only [spec_l13System.l0] at H
    by_cases c21 : (x6_1.length : Int) < (wrap64 (2 + t368))
    ·rw [if_pos c21] at H
     have c21b0 := decide_eq_true c21
     clear c21
     replace H := Option.bind_eq_some_iff.mp H
     obtain ⟨⟨t374, t375, t376⟩, A220, H⟩ := H
     have A22 := Aside0.mk A220
     clear A220
     replace H := Option.bind_eq_some_iff.mp H
     obtain ⟨t377, A230, H⟩ := H
     have A23 := Aside0.mk A230
     clear A230
     by_cases c24 : x6_1.length < 17592186044416
     ·rw [if_pos c24] at H
      have LMc24 := Aside0.mk c24
      clear c24
      obtain ⟨y378, hy378⟩ : ∃ y_ : List Int, y_ = (x6_1 ++ [t377]) := ⟨_, rfl⟩
      replace H : (spec_l13System.l0 k1 (wrap64 (2 + t368)) y378 s0_0 t375 t376) = some (r1, r2, r3, r4, r5, r6) := by first | (rw [hy378]; with_reducible exact H) | (have H2_ := (Option.bind_some _ _).symm.trans H; rw [hy378]; with_reducible exact H2_) | (have H2_ := (Option.bind_some _ _).symm.trans H; with_reducible exact H2_) | with_reducible exact H | (rw [hy378]; exact H) | exact H
      have Ny378 := Aside0.mk hy378
      clear hy378
      have H' := Aside0.mk H
      clear H
      obtain ⟨Ao25, co25, eo25⟩ := Kd.R_slice HO_6.out
      subst eo25
      go_wp2_with (first | (refine gC (some 28) Try.func101 #[.pointer (some ⟨g, 0, none⟩)] ?_; (with_reducible refine (spec_l06Num.calls g s0_0 x1001_1 x1002_1 t374 t375 t376 w0 _ ?side1 ?side2 A22.out).mono ?_); (case side1 => exact iZ103 HI0); (case side2 => exact jZ103 HB HI0); rintro e w26 ⟨rfl, hi, hb, hk⟩; refine ⟨_, rfl, ?_⟩; replace HO_6 := Aside0.mk (Kd.R_mono (Kd.R_keep (IsS103.apart (show IsS103 w0 _ g s0_0 x1001_1 x1002_1 from iZ103 HI0) (rP HO_6) (by decide)) hk (fun _ h => h.2)) (fun _ h => h.1)); replace BK353 := Aside0.mk (KeepBut.blk hk (g' := gb353) (o := .cells #[.int .i64 0, .int .i64 0, .slice none 0 0] 43 (0, 0)) (bP BK353) NB353_0.out (by simp)); replace HK := Aside0.mk (KeepBut.trans (kZ HK) hk (.inl rfl)); replace HB := Aside0.mk (hb); replace HI0 := Aside0.mk (hi); (try clear hb)) | (refine gC (some 29) Try.func83 #[.int .i64 t374] ?_; (with_reducible refine (spec_ScOf.calls t374 t377 _ A23.out).mono ?_); rintro e w' ⟨rfl, ⟨nd, rfl⟩⟩; refine ⟨_, rfl, ?_⟩) | ((with_reducible refine gate_builtin (b := .append) (xs := #[.tmp 26, .tmp 30]) rfl ?_); at_builtin; refine Kd.R_append (Kd.int .i64) w.heap.size rfl (.tmp 26) (.tmp 30) 31 3 (.int .i64 0) 8 rfl Try.underlying31 info3 rfl (by decide) (by omega) (.slice Ao25 x6_1.length co25) x6_1 t377 [.int .i64 t377] (fun k_ => (w.heap.size ≤ k_)) (fun _ => False) rfl rfl ?aP (fun _ hk => hk.elim) ?aF ?aO (Below.refl _ _) ?aS ?aL ?_; (case aP => exact rfl); (case aF => exact (fun k_ hk => (Nat.le_trans (keep_size (w := w) (g := g) (row := none) (kZ HK)) hk))); (case aO => exact (rP HO_6)); (case aS => exact (keep_size (w := w) (g := g) (row := none) (kZ HK))); (case aL => have := LMc24.out; omega); intro v379 w27 ho hb hg hat; rw [← Ny378.out] at ho; replace BK353 := Aside0.mk (blk_grown (bP BK353) hg (Kd.R_ne HO_6.out BK353.out (by decide))); replace HB := Aside0.mk (below_weaken (jZ103 HB HI0) HL.out hb); replace HI0 := Aside0.mk (IsS103.grown (iZ103 HI0) hg (IsS103.own_ne HI0.out HO_6.out (by decide))); replace HK := Aside0.mk (KeepBut.trans (kZ HK) (KeepBut.of_grown hg g) (Kd.R_base2 HO_6.out)); have HO380 := Aside0.mk (ho); clear HO_6; clear ho hb hg hat))
      go_roundg k1
      case measure => have := HK1.out; omega
      case rel => exact ⟨(y378), (t375), (t376), H', ⟨by have := HK1.out; omega⟩, ⟨rP HO380⟩, ⟨bP BK353⟩, ⟨iZ103 HI0⟩, ⟨kZ HK⟩, ⟨jZ103 HB HI0⟩⟩
     ·rw [if_neg c24] at H
      exact absurd H (by simp)
    ·rw [if_neg c21] at H
     have c21b0 := decide_eq_false c21
     clear c21
     replace H := Option.bind_eq_some_iff.mp H
     obtain ⟨⟨t381, t382, t383⟩, A280, H⟩ := H
     have A28 := Aside0.mk A280
     clear A280
     have H' := Aside0.mk H
     clear H
     obtain ⟨Ao29, co29, eo29⟩ := Kd.R_slice HO_6.out
     subst eo29
     go_wp2_with (first | (refine gC (some 35) Try.func82 #[.pointer (some ⟨g, 0, none⟩), .int .i64 (wrap64 (2 + t368))] ?_; (with_reducible refine (spec_l01Below.calls g s0_0 x1001_1 x1002_1 (wrap64 (2 + t368)) t381 t382 t383 w0 _ ?side1 ?side2 A28.out).mono ?_); (case side1 => exact iZ103 HI0); (case side2 => exact jZ103 HB HI0); rintro e w30 ⟨rfl, hi, hb, hk⟩; refine ⟨_, rfl, ?_⟩; replace HO_6 := Aside0.mk (Kd.R_mono (Kd.R_keep (IsS103.apart (show IsS103 w0 _ g s0_0 x1001_1 x1002_1 from iZ103 HI0) (rP HO_6) (by decide)) hk (fun _ h => h.2)) (fun _ h => h.1)); replace BK353 := Aside0.mk (KeepBut.blk hk (g' := gb353) (o := .cells #[.int .i64 0, .int .i64 0, .slice none 0 0] 43 (0, 0)) (bP BK353) NB353_0.out (by simp)); replace HK := Aside0.mk (KeepBut.trans (kZ HK) hk (.inl rfl)); replace HB := Aside0.mk (hb); replace HI0 := Aside0.mk (hi); (try clear hb)) | ((with_reducible refine gate_dst (N := 7) rfl ?_); refine bE 7 #[.int .i64 0, .int .i64 0, .slice none 0 0] 43 ?_; intro gb384 hg w31 hbox hb; replace HO_6 := Aside0.mk (Kd.R_below (rP HO_6) hb); replace HB := Aside0.mk (below_step (jZ103 HB HI0) hb); have BK384 := Aside0.mk (hbox); have GW384 := Aside0.mk ((by rw [hg]; exact (keep_size (w := w) (g := g) (row := none) (kZ HK)) : w.heap.size ≤ gb384)); have GE384 := Aside0.mk ((Nat.le_trans HW0.out (by rw [hg]; exact (keep_size (w := w) (g := g) (row := none) (kZ HK)) : w.heap.size ≤ gb384) : w0.heap.size ≤ gb384)); replace HK := Aside0.mk (KeepBut.trans (kZ HK) (KeepBut.of_below hb g none) (.inl rfl)); obtain ⟨NB353_384, NB384_353⟩ := bN BK353 hg; replace BK353 := bB BK353 hb; have NB0_384 := Aside0.mk ((by rw [hg]; exact Nat.ne_of_lt (IsS103.lt (show IsS103 w0 _ g s0_0 t382 t383 from iZ103 HI0)) : g ≠ gb384)); have NB384_0 := Aside0.mk ((by rw [hg]; exact Nat.ne_of_gt (IsS103.lt (show IsS103 w0 _ g s0_0 t382 t383 from iZ103 HI0)) : gb384 ≠ g)); replace HI0 := Aside0.mk (IsS103.below (iZ103 HI0) hb); clear hb hbox hg; obtain ⟨hnb32, hnc32⟩ := nB NB384_353; obtain ⟨hnb33, hnc33⟩ := nB NB384_0; obtain ⟨hcz34_0, hcz34_1, hcz34_2, hfz34_0, hfz34_1, hfz34_2⟩ := bK3 (w := w31) BK384))
     go_loopg [8] k1 (fun kq v8 w' => ∃ (x6_2 : List Int) (x8_2 : Int) (x1001_2 : Int) (x1002_2 : Int) (x385002_2 : List (S75)) (u385002 : Value), v8 = .int .i64 x8_2 ∧ Aside0 (spec_l13System.l1 kq (wrap64 (2 + t368)) x6_2 x8_2 s0_0 x1001_2 x1002_2 (wrap64 (2 + t368)) t381 x385002_2 = some (r1, r2, r3, r4, r5, r6)) ∧ Aside0 (kq ≤ k1) ∧ Aside0 (Kd.R (Kd.int .i64) 3 w' w.heap.size (fun k_ => (w.heap.size ≤ k_)) (.slice Ao29 x6_1.length co29) x6_2) ∧ Aside0 (Kd.N k75 75 w' w.heap.size (fun k_ => (w.heap.size ≤ k_) ∧ some k_ ≠ ((.slice Ao29 x6_1.length co29) : Value).ownBlock ∧ k_ ≠ gb353 ∧ k_ ≠ gb384 ∧ k_ ≠ g) u385002 x385002_2) ∧ Aside0 (w'.heap[gb353]? = some (.cells #[.int .i64 0, .int .i64 0, (.slice none 0 0)] 43 (0, 0))) ∧ Aside0 (w'.heap[gb384]? = some (.cells #[.int .i64 (wrap64 (2 + t368)), .int .i64 t381, u385002] 43 (0, 0))) ∧ Aside0 (IsS103 w0 w' g s0_0 x1001_2 x1002_2) ∧ Aside0 (KeepBut w w' g none) ∧ Aside0 (Below w0.heap.size w0 w'))
     case atStart => exact ⟨(x6_1), (0), (t382), (t383), (([] : List (S75))), (.slice none 0 0), rS, H', ⟨Nat.le_refl _⟩, ⟨by (with_reducible repeat (first | apply Kd.R_alloc | apply Kd.R_drewN | apply Kd.R_drew)); exact Kd.R_mono (Kd.R_far (p := ⟨gb384, 2, none⟩) (Kd.R_far (p := ⟨gb384, 1, none⟩) (Kd.R_far (p := ⟨gb384, 0, none⟩) (Kd.R_types HO_6.out BK384.out (by decide)) (fun _ hk => hk.2) (.int .i64 (wrap64 (2 + t368)))) (fun _ hk => hk.2) (.int .i64 t381)) (fun _ hk => hk.2) (.slice none 0 0)) (fun _ hk => hk.1)⟩, ⟨by first | exact Kd.S_nil _ _ _ _ _ | exact Kd.N_nil _ _ _ _ _ | exact Kd.V_nil _ _ _ _ _ | exact Kd.Q_nil _ _ _ _ _ | exact Kd.R_nil _ _ _ _ _⟩, ⟨bP BK353⟩, ⟨bU BK384⟩, ⟨iZ103 HI0⟩, ⟨kZ HK⟩, ⟨jZ103 HB HI0⟩⟩
     case round =>
      clear H'
      try clear c1
      try clear c2
      try clear p2
      try clear c3
      try clear p6
      try clear c8
      try clear c9
      try clear c10
      try clear c12
      try clear c21
      try clear c21b0
      try clear c24
      try clear c32
      try clear c33
      try clear hcz13_0
      try clear hcz13_1
      try clear hcz13_2
      try clear hcz34_0
      try clear hcz34_1
      try clear hcz34_2
      try clear hfz13_0
      try clear hfz13_1
      try clear hfz13_2
      try clear hfz34_0
      try clear hfz34_1
      try clear hfz34_2
      try clear p2
      try clear p6
      obtain ⟨x6_2, x8_2, x1001_2, x1002_2, x385002_2, u385002, rfl, HA, HK2, HO_6, HO_385002, BK353, BK384, HI0, HK, HB⟩ := hrel
      have hl6_2 := (Kd.R_reads' HO_6.out).1
      rw [hl6_2] at HO_6
      (try simp only [hl6_2])
      (try simp only [hl6_2] at BK353)
      (try simp only [hl6_2] at BK384)
      (try simp only [hl6_2] at HO_385002)
      cases gk with
      | zero => exact absurd HA.out (by simp [spec_l13System.l1])
      | succ k2 =>
       have H := HA.out
       clear HA
       simp only [spec_l13System.l1] at H
       replace H := Option.bind_eq_some_iff.mp H
       obtain ⟨⟨t385, t386, t387⟩, A350, H⟩ := H
       have A35 := Aside0.mk A350
       clear A350
       by_cases c36 : x8_2 < (wrap64 (1 + t385))
       ·rw [if_pos c36] at H
        have c36b0 := decide_eq_true c36
        clear c36
        replace H := Option.bind_eq_some_iff.mp H
        obtain ⟨⟨t388, t391, t394⟩, A370, H⟩ := H
        have A37 := Aside0.mk A370
        clear A370
        have H' := Aside0.mk H
        clear H
        go_wp2_with (first | (refine gC (some 39) Try.func82 #[.pointer (some ⟨g, 0, none⟩), .int .i64 4] ?_; (with_reducible refine (spec_l01Below.calls g s0_0 x1001_2 x1002_2 4 t385 t386 t387 w0 _ ?side1 ?side2 A35.out).mono ?_); (case side1 => exact iZ103 HI0); (case side2 => exact jZ103 HB HI0); rintro e w38 ⟨rfl, hi, hb, hk⟩; refine ⟨_, rfl, ?_⟩; replace HO_6 := Aside0.mk (Kd.R_mono (Kd.R_keep (IsS103.apart (show IsS103 w0 _ g s0_0 x1001_2 x1002_2 from iZ103 HI0) (rP HO_6) (by decide)) hk (fun _ h => h.2)) (fun _ h => h.1)); replace HO_385002 := Aside0.mk (Kd.N_mono (Kd.N_keep (Kd.N_mono (ok := fun k_ => (((w.heap.size ≤ k_)) ∧ (some k_ ≠ (.slice Ao29 x6_2.length co29 : Value).ownBlock ∧ (k_ ≠ gb353 ∧ (k_ ≠ gb384 ∧ k_ ≠ g))))) (by (with_reducible repeat (first | apply Kd.N_alloc | apply Kd.N_drewN | apply Kd.N_drew)); exact HO_385002.out) (fun k_ hk_ => (⟨hk_, hk_.2.2.2.2⟩ : _ ∧ k_ ≠ g))) hk (fun _ h => h.2)) (fun _ h => h.1)); replace BK353 := Aside0.mk (KeepBut.blk hk (g' := gb353) (o := .cells #[.int .i64 0, .int .i64 0, .slice none 0 0] 43 (0, 0)) (bP BK353) NB353_0.out (by simp)); replace BK384 := Aside0.mk (KeepBut.blk hk (g' := gb384) (o := .cells #[.int .i64 (wrap64 (2 + t368)), .int .i64 t381, u385002] 43 (0, 0)) (bP BK384) NB384_0.out (by simp)); replace HK := Aside0.mk (KeepBut.trans (kZ HK) hk (.inl rfl)); replace HB := Aside0.mk (hb); replace HI0 := Aside0.mk (hi); (try clear hb)) | (refine gC (some 45) Try.func66 #[.int .i64 (wrap64 (2 + t368))] ?_; (with_reducible refine (spec_l13Row.calls (wrap64 (2 + t368)) t388 t391 t394 _ A37.out).mono ?_); rintro e w39 ⟨v389, v392, v395, rfl, ho0, ho1, ho2, hb⟩; refine ⟨_, rfl, ?_⟩; replace HO_385002 := Aside0.mk (Kd.N_mono (Kd.N_told (Kd.N_told (Kd.N_told (Kd.N_old (by (with_reducible repeat (first | apply Kd.N_alloc | apply Kd.N_drewN | apply Kd.N_drew)); exact HO_385002.out) hb) (Kd.R_base ho0)) (Kd.R_base ho1)) (Kd.R_base ho2)) (fun _ h_ => h_.1)); have HO390 := Aside0.mk (Kd.R_lower (Kd.R_new' (Kd.R_newM (M := fun k_ => (w.heap.size ≤ k_)) ho0 (keep_size (w := w) (g := g) (row := none) (kZ HK)) (fun k_ h_ => h_)) (Kd.R_lt (rP HO_6))) (keep_size (w := w) (g := g) (row := none) (kZ HK))); have HO393 := Aside0.mk (Kd.R_lower (Kd.R_new' (Kd.R_newM (M := fun k_ => (w.heap.size ≤ k_)) ho1 (keep_size (w := w) (g := g) (row := none) (kZ HK)) (fun k_ h_ => h_)) (Kd.R_lt (rP HO_6))) (keep_size (w := w) (g := g) (row := none) (kZ HK))); have HO396 := Aside0.mk (Kd.R_lower (Kd.R_new' (Kd.R_newM (M := fun k_ => (w.heap.size ≤ k_)) ho2 (keep_size (w := w) (g := g) (row := none) (kZ HK)) (fun k_ h_ => h_)) (Kd.R_lt (rP HO_6))) (keep_size (w := w) (g := g) (row := none) (kZ HK))); replace HO_6 := Aside0.mk (Kd.R_mono (Kd.R_told (Kd.R_told (Kd.R_told (Kd.R_old (rP HO_6) hb) (Kd.R_base ho0)) (Kd.R_base ho1)) (Kd.R_base ho2)) (fun _ h_ => h_.1)); replace BK353 := bB BK353 hb; replace BK384 := bB BK384 hb; replace HK := Aside0.mk (KeepBut.trans (kZ HK) (KeepBut.of_below hb g none) (.inl rfl)); replace HB := Aside0.mk (below_step (jZ103 HB HI0) hb); replace HI0 := Aside0.mk (IsS103.below (iZ103 HI0) hb); (try clear hb); (try clear ho0); (try clear ho1); (try clear ho2)) | ((with_reducible refine gate_dst (N := 9) rfl ?_); refine bE 9 #[.slice none 0 0, .slice none 0 0, .slice none 0 0] 75 ?_; intro gb397 hg w40 hbox hb; replace HO_6 := Aside0.mk (Kd.R_below (rP HO_6) hb); replace HO_385002 := Aside0.mk (Kd.N_below (Kd.N_elderB (by (with_reducible repeat (first | apply Kd.N_alloc | apply Kd.N_drewN | apply Kd.N_drew)); exact HO_385002.out) gb397 (Nat.le_of_eq hg.symm)) hb); replace HO390 := Aside0.mk (Kd.R_below (rP HO390) hb); replace HO393 := Aside0.mk (Kd.R_below (rP HO393) hb); replace HO396 := Aside0.mk (Kd.R_below (rP HO396) hb); replace HB := Aside0.mk (below_step (jZ103 HB HI0) hb); have BK397 := Aside0.mk (hbox); have GW397 := Aside0.mk ((by rw [hg]; exact (keep_size (w := w) (g := g) (row := none) (kZ HK)) : w.heap.size ≤ gb397)); have GE397 := Aside0.mk ((Nat.le_trans HW0.out (by rw [hg]; exact (keep_size (w := w) (g := g) (row := none) (kZ HK)) : w.heap.size ≤ gb397) : w0.heap.size ≤ gb397)); replace HK := Aside0.mk (KeepBut.trans (kZ HK) (KeepBut.of_below hb g none) (.inl rfl)); obtain ⟨NB353_397, NB397_353⟩ := bN BK353 hg; replace BK353 := bB BK353 hb; obtain ⟨NB384_397, NB397_384⟩ := bN BK384 hg; replace BK384 := bB BK384 hb; have NB0_397 := Aside0.mk ((by rw [hg]; exact Nat.ne_of_lt (IsS103.lt (show IsS103 w0 _ g s0_0 t386 t387 from iZ103 HI0)) : g ≠ gb397)); have NB397_0 := Aside0.mk ((by rw [hg]; exact Nat.ne_of_gt (IsS103.lt (show IsS103 w0 _ g s0_0 t386 t387 from iZ103 HI0)) : gb397 ≠ g)); replace HI0 := Aside0.mk (IsS103.below (iZ103 HI0) hb); clear hb hbox hg; obtain ⟨Ao41, co41, eo41⟩ := Kd.R_slice HO390.out; subst eo41; obtain ⟨hnb42, hnc42⟩ := nB NB397_353; obtain ⟨hnb43, hnc43⟩ := nB NB397_384; obtain ⟨hnb44, hnc44⟩ := nB NB397_0; obtain ⟨hcz45_0, hcz45_1, hcz45_2, hfz45_0, hfz45_1, hfz45_2⟩ := bK3 (w := w40) BK397; obtain ⟨Ao46, co46, eo46⟩ := Kd.R_slice HO393.out; subst eo46; obtain ⟨Ao47, co47, eo47⟩ := Kd.R_slice HO396.out; subst eo47))
        go_loopg [10] k2 (fun kq v10 w' => ∃ (x6_3 : List Int) (x10_3 : Int) (x1001_3 : Int) (x1002_3 : Int) (x398000_3 : List Int) (x398001_3 : List Int) (x398002_3 : List Int) (u398000 : Value) (u398001 : Value) (u398002 : Value), v10 = .int .i64 x10_3 ∧ Aside0 (spec_l13System.l2 kq (wrap64 (2 + t368)) x6_3 x8_2 x10_3 s0_0 x1001_3 x1002_3 (wrap64 (2 + t368)) t381 x385002_2 x398000_3 x398001_3 x398002_3 = some (r1, r2, r3, r4, r5, r6)) ∧ Aside0 (kq ≤ k2) ∧ Aside0 (Kd.R (Kd.int .i64) 3 w' w.heap.size (fun k_ => (w.heap.size ≤ k_) ∧ some k_ ≠ (u398000 : Value).ownBlock ∧ some k_ ≠ (u398001 : Value).ownBlock ∧ some k_ ≠ (u398002 : Value).ownBlock) (.slice Ao29 x6_2.length co29) x6_3) ∧ Aside0 (Kd.N k75 75 w' w.heap.size (fun k_ => (w.heap.size ≤ k_) ∧ some k_ ≠ ((.slice Ao29 x6_2.length co29) : Value).ownBlock ∧ some k_ ≠ (u398000 : Value).ownBlock ∧ some k_ ≠ (u398001 : Value).ownBlock ∧ some k_ ≠ (u398002 : Value).ownBlock ∧ k_ ≠ gb353 ∧ k_ ≠ gb384 ∧ k_ ≠ gb397 ∧ k_ ≠ g) u385002 x385002_2) ∧ Aside0 (Kd.R (Kd.int .i64) 3 w' w.heap.size (fun k_ => (w.heap.size ≤ k_) ∧ some k_ ≠ ((.slice Ao29 x6_2.length co29) : Value).ownBlock ∧ some k_ ≠ (u398001 : Value).ownBlock ∧ some k_ ≠ (u398002 : Value).ownBlock) u398000 x398000_3) ∧ Aside0 (Kd.R (Kd.int .i64) 3 w' w.heap.size (fun k_ => (w.heap.size ≤ k_) ∧ some k_ ≠ ((.slice Ao29 x6_2.length co29) : Value).ownBlock ∧ some k_ ≠ (u398000 : Value).ownBlock ∧ some k_ ≠ (u398002 : Value).ownBlock) u398001 x398001_3) ∧ Aside0 (Kd.R (Kd.int .i64) 3 w' w.heap.size (fun k_ => (w.heap.size ≤ k_) ∧ some k_ ≠ ((.slice Ao29 x6_2.length co29) : Value).ownBlock ∧ some k_ ≠ (u398000 : Value).ownBlock ∧ some k_ ≠ (u398001 : Value).ownBlock) u398002 x398002_3) ∧ Aside0 (w'.heap[gb353]? = some (.cells #[.int .i64 0, .int .i64 0, (.slice none 0 0)] 43 (0, 0))) ∧ Aside0 (w'.heap[gb384]? = some (.cells #[.int .i64 (wrap64 (2 + t368)), .int .i64 t381, u385002] 43 (0, 0))) ∧ Aside0 (w'.heap[gb397]? = some (.cells #[u398000, u398001, u398002] 75 (0, 0))) ∧ Aside0 (IsS103 w0 w' g s0_0 x1001_3 x1002_3) ∧ Aside0 (KeepBut w w' g none) ∧ Aside0 (Below w0.heap.size w0 w'))
        case atStart => exact ⟨(x6_2), (0), (t386), (t387), (t388), (t391), (t394), (.slice Ao41 t388.length co41), (.slice Ao46 t391.length co46), (.slice Ao47 t394.length co47), rS, H', ⟨Nat.le_refl _⟩, ⟨by (try simp only [hl6_2]); (with_reducible repeat (first | apply Kd.R_alloc | apply Kd.R_drewN | apply Kd.R_drew)); exact Kd.R_mono (Kd.R_far (p := ⟨gb397, 2, none⟩) (Kd.R_far (p := ⟨gb397, 1, none⟩) (Kd.R_far (p := ⟨gb397, 0, none⟩) (Kd.R_types HO_6.out BK397.out (by decide)) (fun _ hk => hk.2) (.slice Ao41 t388.length co41)) (fun _ hk => hk.2) (.slice Ao46 t391.length co46)) (fun _ hk => hk.2) (.slice Ao47 t394.length co47)) (fun _ hk => ⟨hk.1.1.1.1, ⟨hk.1.1.1.2, ⟨hk.1.1.2, hk.1.2⟩⟩⟩)⟩, ⟨by (try simp only [hl6_2]); (with_reducible repeat (first | apply Kd.N_alloc | apply Kd.N_drewN | apply Kd.N_drew)); exact Kd.N_mono (Kd.N_far (p := ⟨gb397, 2, none⟩) (Kd.N_far (p := ⟨gb397, 1, none⟩) (Kd.N_far (p := ⟨gb397, 0, none⟩) (Kd.N_mono HO_385002.out (fun k_ hk => (⟨hk, hk.2⟩ : _ ∧ k_ ≠ gb397))) (fun _ hk => hk.2) (.slice Ao41 t388.length co41)) (fun _ hk => hk.2) (.slice Ao46 t391.length co46)) (fun _ hk => hk.2) (.slice Ao47 t394.length co47)) (fun _ hk => ⟨hk.1.1.1.1.1.1, ⟨hk.1.1.1.1.1.2.1, ⟨hk.1.1.1.1.2, ⟨hk.1.1.1.2, ⟨hk.1.1.2, ⟨hk.1.1.1.1.1.2.2.1, ⟨hk.1.1.1.1.1.2.2.2.1, ⟨hk.1.2, hk.1.1.1.1.1.2.2.2.2⟩⟩⟩⟩⟩⟩⟩⟩)⟩, ⟨by (try simp only [hl6_2]); (with_reducible repeat (first | apply Kd.R_alloc | apply Kd.R_drewN | apply Kd.R_drew)); exact Kd.R_mono (Kd.R_far (p := ⟨gb397, 2, none⟩) (Kd.R_far (p := ⟨gb397, 1, none⟩) (Kd.R_far (p := ⟨gb397, 0, none⟩) (Kd.R_types HO390.out BK397.out (by decide)) (fun _ hk => hk.2) (.slice Ao41 t388.length co41)) (fun _ hk => hk.2) (.slice Ao46 t391.length co46)) (fun _ hk => hk.2) (.slice Ao47 t394.length co47)) (fun _ hk => ⟨hk.1.1.1, ⟨hk.1.2, ⟨hk.1.1.2.1, hk.1.1.2.2⟩⟩⟩)⟩, ⟨by (try simp only [hl6_2]); (with_reducible repeat (first | apply Kd.R_alloc | apply Kd.R_drewN | apply Kd.R_drew)); exact Kd.R_mono (Kd.R_far (p := ⟨gb397, 2, none⟩) (Kd.R_far (p := ⟨gb397, 1, none⟩) (Kd.R_far (p := ⟨gb397, 0, none⟩) (Kd.R_types HO393.out BK397.out (by decide)) (fun _ hk => hk.2) (.slice Ao41 t388.length co41)) (fun _ hk => hk.2) (.slice Ao46 t391.length co46)) (fun _ hk => hk.2) (.slice Ao47 t394.length co47)) (fun _ hk => ⟨hk.1.1.1, ⟨hk.1.2, ⟨hk.1.1.2.1, hk.1.1.2.2⟩⟩⟩)⟩, ⟨by (try simp only [hl6_2]); (with_reducible repeat (first | apply Kd.R_alloc | apply Kd.R_drewN | apply Kd.R_drew)); exact Kd.R_mono (Kd.R_far (p := ⟨gb397, 2, none⟩) (Kd.R_far (p := ⟨gb397, 1, none⟩) (Kd.R_far (p := ⟨gb397, 0, none⟩) (Kd.R_types HO396.out BK397.out (by decide)) (fun _ hk => hk.2) (.slice Ao41 t388.length co41)) (fun _ hk => hk.2) (.slice Ao46 t391.length co46)) (fun _ hk => hk.2) (.slice Ao47 t394.length co47)) (fun _ hk => ⟨hk.1.1.1, ⟨hk.1.2, ⟨hk.1.1.2.1, hk.1.1.2.2⟩⟩⟩)⟩, ⟨by (try simp only [hl6_2]); (with_reducible repeat (first | refine blk_drewN ?_ _ | refine blk_drew ?_ | refine blk_alloc ?_ _)); refine blk_far ?_ NB353_397.out _; (with_reducible repeat (first | refine blk_drewN ?_ _ | refine blk_drew ?_ | refine blk_alloc ?_ _)); refine blk_far ?_ NB353_397.out _; (with_reducible repeat (first | refine blk_drewN ?_ _ | refine blk_drew ?_ | refine blk_alloc ?_ _)); refine blk_far ?_ NB353_397.out _; (with_reducible repeat (first | refine blk_drewN ?_ _ | refine blk_drew ?_ | refine blk_alloc ?_ _)); exact BK353.out⟩, ⟨by (try simp only [hl6_2]); (with_reducible repeat (first | refine blk_drewN ?_ _ | refine blk_drew ?_ | refine blk_alloc ?_ _)); refine blk_far ?_ NB384_397.out _; (with_reducible repeat (first | refine blk_drewN ?_ _ | refine blk_drew ?_ | refine blk_alloc ?_ _)); refine blk_far ?_ NB384_397.out _; (with_reducible repeat (first | refine blk_drewN ?_ _ | refine blk_drew ?_ | refine blk_alloc ?_ _)); refine blk_far ?_ NB384_397.out _; (with_reducible repeat (first | refine blk_drewN ?_ _ | refine blk_drew ?_ | refine blk_alloc ?_ _)); exact BK384.out⟩, ⟨by (try simp only [hl6_2]); (with_reducible repeat (first | refine blk_drewN ?_ _ | refine blk_drew ?_ | refine blk_alloc ?_ _)); refine blk_put (cs := #[.slice Ao41 t388.length co41, .slice Ao46 t391.length co46, .slice none 0 0]) ?_ 2 _ rfl; (with_reducible repeat (first | refine blk_drewN ?_ _ | refine blk_drew ?_ | refine blk_alloc ?_ _)); refine blk_put (cs := #[.slice Ao41 t388.length co41, .slice none 0 0, .slice none 0 0]) ?_ 1 _ rfl; (with_reducible repeat (first | refine blk_drewN ?_ _ | refine blk_drew ?_ | refine blk_alloc ?_ _)); refine blk_put (cs := #[.slice none 0 0, .slice none 0 0, .slice none 0 0]) ?_ 0 _ rfl; (with_reducible repeat (first | refine blk_drewN ?_ _ | refine blk_drew ?_ | refine blk_alloc ?_ _)); exact BK397.out⟩, ⟨iZ103 HI0⟩, ⟨kZ HK⟩, ⟨jZ103 HB HI0⟩⟩
        case round =>
         clear H'
         try clear c1
         try clear c2
         try clear p2
         try clear c3
         try clear c4
         try clear c6
         try clear p6
         try clear c8
         try clear c9
         try clear c10
         try clear c12
         try clear c21
         try clear c21b0
         try clear c24
         try clear c32
         try clear c33
         try clear c35
         try clear c36
         try clear c36b0
         try clear c37
         try clear c42
         try clear c43
         try clear c44
         try clear hcz13_0
         try clear hcz13_1
         try clear hcz13_2
         try clear hcz34_0
         try clear hcz34_1
         try clear hcz34_2
         try clear hcz45_0
         try clear hcz45_1
         try clear hcz45_2
         try clear hfz13_0
         try clear hfz13_1
         try clear hfz13_2
         try clear hfz34_0
         try clear hfz34_1
         try clear hfz34_2
         try clear hfz45_0
         try clear hfz45_1
         try clear hfz45_2
         try clear p2
         try clear p6
         obtain ⟨x6_3, x10_3, x1001_3, x1002_3, x398000_3, x398001_3, x398002_3, u398000, u398001, u398002, rfl, HA, HK3, HO_6, HO_385002, HO_398000, HO_398001, HO_398002, BK353, BK384, BK397, HI0, HK, HB⟩ := hrel
         have hl6_3 := (Kd.R_reads' HO_6.out).1
         rw [hl6_3] at HO_6
         (try simp only [hl6_3])
         (try simp only [hl6_3] at BK353)
         (try simp only [hl6_3] at BK384)
         (try simp only [hl6_3] at BK397)
         (try simp only [hl6_3] at HO_385002)
         (try simp only [hl6_3] at HO_398000)
         (try simp only [hl6_3] at HO_398001)
         (try simp only [hl6_3] at HO_398002)
         cases gk with
         | zero => exact absurd HA.out (by simp [spec_l13System.l2])
         | succ k3 =>
          have H := HA.out
          clear HA
          simp only [spec_l13System.l2] at H
          by_cases c48 : x10_3 < (wrap64 (2 + t368))
          ·rw [if_pos c48] at H
           have c48b0 := decide_eq_true c48
           clear c48
           replace H := Option.bind_eq_some_iff.mp H
           obtain ⟨⟨t398, t399, t400⟩, A490, H⟩ := H
           have A49 := Aside0.mk A490
           clear A490
           by_cases c50 : 0 ≤ x10_3
           ·rw [if_pos c50] at H
            have c50b0 := decide_eq_true c50
            clear c50
            by_cases c51 : x10_3 < (x398000_3.length : Int)
            ·rw [if_pos c51] at H
             have c51b0 := decide_eq_true c51
             clear c51
             obtain ⟨y401, hy401⟩ : ∃ y_ : List Int, y_ = (x398000_3.set (x10_3 : Int).toNat t398) := ⟨_, rfl⟩
             replace H : ((spec_l01Below.f s0_0 t399 t400 3).bind fun bt402 => (if x10_3 < (x398001_3.length : Int) then (spec_l13System.l2 k3 (wrap64 (2 + t368)) x6_3 x8_2 (wrap64 (x10_3 + 1)) s0_0 bt402.2.1 bt402.2.2 (wrap64 (2 + t368)) t381 x385002_2 y401 (x398001_3.set (x10_3 : Int).toNat bt402.1) x398002_3) else (none))) = some (r1, r2, r3, r4, r5, r6) := by first | (rw [hy401]; with_reducible exact H) | (have H2_ := (Option.bind_some _ _).symm.trans H; rw [hy401]; with_reducible exact H2_) | (have H2_ := (Option.bind_some _ _).symm.trans H; with_reducible exact H2_) | with_reducible exact H | (rw [hy401]; exact H) | exact H
             have Ny401 := Aside0.mk hy401
             clear hy401
             replace H := Option.bind_eq_some_iff.mp H
             obtain ⟨⟨t402, t403, t404⟩, A530, H⟩ := H
             have A53 := Aside0.mk A530
             clear A530
             by_cases c54 : x10_3 < (x398001_3.length : Int)
             ·rw [if_pos c54] at H
              have c54b0 := decide_eq_true c54
              clear c54
              obtain ⟨y405, hy405⟩ : ∃ y_ : List Int, y_ = (x398001_3.set (x10_3 : Int).toNat t402) := ⟨_, rfl⟩
              replace H : (spec_l13System.l2 k3 (wrap64 (2 + t368)) x6_3 x8_2 (wrap64 (x10_3 + 1)) s0_0 t403 t404 (wrap64 (2 + t368)) t381 x385002_2 y401 y405 x398002_3) = some (r1, r2, r3, r4, r5, r6) := by first | (rw [hy405]; with_reducible exact H) | (have H2_ := (Option.bind_some _ _).symm.trans H; rw [hy405]; with_reducible exact H2_) | (have H2_ := (Option.bind_some _ _).symm.trans H; with_reducible exact H2_) | with_reducible exact H | (rw [hy405]; exact H) | exact H
              have Ny405 := Aside0.mk hy405
              clear hy405
              have H' := Aside0.mk H
              clear H
              try go_wp2
              replace HO_6 := Aside0.mk (Kd.R_drew HO_6.out)
              replace HO_385002 := Aside0.mk (Kd.N_drew HO_385002.out)
              replace HO_398000 := Aside0.mk (Kd.R_drew HO_398000.out)
              replace HO_398001 := Aside0.mk (Kd.R_drew HO_398001.out)
              replace HO_398002 := Aside0.mk (Kd.R_drew HO_398002.out)
              replace BK353 := Aside0.mk (blk_drew BK353.out)
              replace BK384 := Aside0.mk (blk_drew BK384.out)
              replace BK397 := Aside0.mk (blk_drew BK397.out)
              replace HI0 := Aside0.mk (IsS103.drew HI0.out)
              replace HK := Aside0.mk (keep_drew HK.out)
              replace HB := Aside0.mk (below_drew1 HB.out)
              refine start_ (n := 7) (S := fun w' => SQ3 w' gb397 (u398000) (u398001) (u398002)) (ds := [6]) #[false, false, false, false, false, false, false] (by kernel_rfl) rfl rfl (bT3 BK397) (fun hHeld => ?_)
              generalize wr.drew = w56 at HO_6 HO_385002 HO_398000 HO_398001 HO_398002 BK353 BK384 BK397 HI0 HK HB hHeld ⊢
              refine pJ 0 (some 51) ?_
              refine pJ 2 (some 53) ?_
              refine pJ 3 (some 54) ?_
              refine tJ 1 (some 52) hHeld ?_
              refine one_ (i := 4) (N := some 55) #[true, true, true, true, true, false, false] rfl rfl (by kernel_rfl) (by decide) (fun K hK => ?_)
              refine gO Try.func82 #[.pointer (some ⟨g, 0, none⟩), .int .i64 3] ?_
              with_reducible refine (spec_l01Below.calls g s0_0 x1001_3 x1002_3 3 t398 t399 t400 w0 _ ?side1 ?side2 A49.out).mono ?_
              (case side1 => exact iZ103 HI0)
              (case side2 => exact jZ103 HB HI0)
              rintro e w57 ⟨rfl, hi, hb, hk⟩
              refine ⟨_, rfl, ?_⟩
              replace HO_6 := Aside0.mk (Kd.R_mono (Kd.R_keep (IsS103.apart (show IsS103 w0 _ g s0_0 x1001_3 x1002_3 from iZ103 HI0) (rP HO_6) (by decide)) hk (fun _ h => h.2)) (fun _ h => h.1))
              replace HO_385002 := Aside0.mk (Kd.N_mono (Kd.N_keep (Kd.N_mono (ok := fun k_ => (((w.heap.size ≤ k_)) ∧ (some k_ ≠ (.slice Ao29 x6_3.length co29 : Value).ownBlock ∧ (some k_ ≠ (u398000 : Value).ownBlock ∧ (some k_ ≠ (u398001 : Value).ownBlock ∧ (some k_ ≠ (u398002 : Value).ownBlock ∧ (k_ ≠ gb353 ∧ (k_ ≠ gb384 ∧ (k_ ≠ gb397 ∧ k_ ≠ g))))))))) (by (with_reducible repeat (first | apply Kd.N_alloc | apply Kd.N_drewN | apply Kd.N_drew)); exact HO_385002.out) (fun k_ hk_ => (⟨hk_, hk_.2.2.2.2.2.2.2.2⟩ : _ ∧ k_ ≠ g))) hk (fun _ h => h.2)) (fun _ h => h.1))
              replace HO_398000 := Aside0.mk (Kd.R_mono (Kd.R_keep (IsS103.apart (show IsS103 w0 _ g s0_0 x1001_3 x1002_3 from iZ103 HI0) (rP HO_398000) (by decide)) hk (fun _ h => h.2)) (fun _ h => h.1))
              replace HO_398001 := Aside0.mk (Kd.R_mono (Kd.R_keep (IsS103.apart (show IsS103 w0 _ g s0_0 x1001_3 x1002_3 from iZ103 HI0) (rP HO_398001) (by decide)) hk (fun _ h => h.2)) (fun _ h => h.1))
              replace HO_398002 := Aside0.mk (Kd.R_mono (Kd.R_keep (IsS103.apart (show IsS103 w0 _ g s0_0 x1001_3 x1002_3 from iZ103 HI0) (rP HO_398002) (by decide)) hk (fun _ h => h.2)) (fun _ h => h.1))
              replace BK353 := Aside0.mk (KeepBut.blk hk (g' := gb353) (o := .cells #[.int .i64 0, .int .i64 0, .slice none 0 0] 43 (0, 0)) (bP BK353) NB353_0.out (by simp))
              replace BK384 := Aside0.mk (KeepBut.blk hk (g' := gb384) (o := .cells #[.int .i64 (wrap64 (2 + t368)), .int .i64 t381, u385002] 43 (0, 0)) (bP BK384) NB384_0.out (by simp))
              replace BK397 := Aside0.mk (KeepBut.blk hk (g' := gb397) (o := .cells #[u398000, u398001, u398002] 75 (0, 0)) (bP BK397) NB397_0.out (by simp))
              replace HK := Aside0.mk (KeepBut.trans (kZ HK) hk (.inl rfl))
              replace HB := Aside0.mk (hb)
              replace HI0 := Aside0.mk (hi)
              (try clear hb)
              have p52 : 0 ≤ (x10_3 : Int) := of_decide_eq_true (by first | (with_reducible assumption) | assumption)
              have q52 : (x10_3 : Int) < ((x398000_3.length : Int) : Int) := of_decide_eq_true (by first | (with_reducible assumption) | assumption)
              obtain ⟨go52, co52, eo52, gb52, gl52, cl52, HG52⟩ := Kd.R_form HO_398000.out (by omega)
              (first | cases eo52 | (injection eo52 with ea_ en_ ec_; (first | subst ea_ | (injection ea_ with ea_; subst ea_)); subst ec_; clear en_))
              have GB52 := Aside0.mk gb52
              have GG52 := Aside0.mk HG52
              clear gb52 gl52 HG52
              obtain ⟨hx52_0, hf52_0⟩ := Kd.R_celln 0 HO_398000.out (x10_3 : Int) p52 q52
              replace p52 := eq_true p52
              replace q52 := eq_true q52
              have HN0_go52 := Aside0.mk (show g ≠ go52 from by have h_ := IsS103.own_ne HI0.out HO_398000.out (by decide); intro e_; exact h_ (by rw [e_]; rfl))
              have HP58 := Kd.R_putn HO_398000.out (x10_3 : Int) t398
              rw [← Ny401.out] at HP58
              have HQ58 := Aside0.mk HP58
              clear HP58
              refine hK.out _ _ (bT3 BK397) (fun hHeld => ?_)
              clear hK K
              refine nO (some 55) ?_
              refine pJ 5 (some 56) ?_
              refine last_ (i := 6) (N := none) #[true, true, true, true, true, true, true] rfl rfl (by kernel_rfl) (by decide) (fun K hK => ?_)
              refine skip_ (w1 := ?_) (by rfl) rfl ?_ ?_
              rotate_left
              ·go_simp
               rfl
              refine hK.out _ _ ?_
              clear hK K
              refine done_ (by kernel_rfl) ?_
              try go_wp2
              obtain ⟨w59, hW_⟩ : ∃ W_ : World, W_ = (w57.setCell ⟨go52, (x10_3 : Int).toNat, none⟩ (.int .i64 t398)) := ⟨_, rfl⟩
              have n0_ : Aside0 (Kd.R (Kd.int .i64) 3 (w57.setCell ⟨go52, (x10_3 : Int).toNat, none⟩ (.int .i64 t398)) w.heap.size (fun k_ => (w.heap.size ≤ k_) ∧ some k_ ≠ (.slice (some ⟨go52, 0, none⟩) x398000_3.length co52 : Value).ownBlock ∧ some k_ ≠ (u398001 : Value).ownBlock ∧ some k_ ≠ (u398002 : Value).ownBlock) (.slice Ao29 x6_3.length co29) x6_3) := ⟨by (with_reducible repeat (first | apply Kd.R_alloc | apply Kd.R_drewN | apply Kd.R_drew)); exact Kd.R_mono (Kd.R_far (p := ⟨go52, (x10_3 : Int).toNat, none⟩) (Kd.R_mono HO_6.out (fun k_ hk => (⟨hk, fun e_ => hk.2.1 (by rw [e_]; rfl)⟩ : _ ∧ k_ ≠ go52))) (fun _ hk => hk.2) (.int .i64 t398)) (fun _ hk => ⟨hk.1.1, ⟨hk.1.2.1, ⟨hk.1.2.2.1, hk.1.2.2.2⟩⟩⟩)⟩
              rw [← hW_] at n0_
              have n1_ : Aside0 (Kd.N k75 75 (w57.setCell ⟨go52, (x10_3 : Int).toNat, none⟩ (.int .i64 t398)) w.heap.size (fun k_ => (w.heap.size ≤ k_) ∧ some k_ ≠ (.slice Ao29 x6_3.length co29 : Value).ownBlock ∧ some k_ ≠ (.slice (some ⟨go52, 0, none⟩) x398000_3.length co52 : Value).ownBlock ∧ some k_ ≠ (u398001 : Value).ownBlock ∧ some k_ ≠ (u398002 : Value).ownBlock ∧ k_ ≠ gb353 ∧ k_ ≠ gb384 ∧ k_ ≠ gb397 ∧ k_ ≠ g) u385002 x385002_2) := ⟨by (with_reducible repeat (first | apply Kd.N_alloc | apply Kd.N_drewN | apply Kd.N_drew)); exact Kd.N_mono (Kd.N_far (p := ⟨go52, (x10_3 : Int).toNat, none⟩) (Kd.N_mono HO_385002.out (fun k_ hk => (⟨hk, fun e_ => hk.2.2.1 (by rw [e_]; rfl)⟩ : _ ∧ k_ ≠ go52))) (fun _ hk => hk.2) (.int .i64 t398)) (fun _ hk => ⟨hk.1.1, ⟨hk.1.2.1, ⟨hk.1.2.2.1, ⟨hk.1.2.2.2.1, ⟨hk.1.2.2.2.2.1, ⟨hk.1.2.2.2.2.2.1, ⟨hk.1.2.2.2.2.2.2.1, ⟨hk.1.2.2.2.2.2.2.2.1, hk.1.2.2.2.2.2.2.2.2⟩⟩⟩⟩⟩⟩⟩⟩)⟩
              rw [← hW_] at n1_
              have n2_ : Aside0 (Kd.R (Kd.int .i64) 3 (w57.setCell ⟨go52, (x10_3 : Int).toNat, none⟩ (.int .i64 t398)) w.heap.size (fun k_ => (w.heap.size ≤ k_) ∧ some k_ ≠ (.slice Ao29 x6_3.length co29 : Value).ownBlock ∧ some k_ ≠ (u398001 : Value).ownBlock ∧ some k_ ≠ (u398002 : Value).ownBlock) (.slice (some ⟨go52, 0, none⟩) x398000_3.length co52) y401) := ⟨rP HQ58⟩
              rw [← hW_] at n2_
              have n3_ : Aside0 (Kd.R (Kd.int .i64) 3 (w57.setCell ⟨go52, (x10_3 : Int).toNat, none⟩ (.int .i64 t398)) w.heap.size (fun k_ => (w.heap.size ≤ k_) ∧ some k_ ≠ (.slice Ao29 x6_3.length co29 : Value).ownBlock ∧ some k_ ≠ (.slice (some ⟨go52, 0, none⟩) x398000_3.length co52 : Value).ownBlock ∧ some k_ ≠ (u398002 : Value).ownBlock) u398001 x398001_3) := ⟨by (with_reducible repeat (first | apply Kd.R_alloc | apply Kd.R_drewN | apply Kd.R_drew)); exact Kd.R_mono (Kd.R_far (p := ⟨go52, (x10_3 : Int).toNat, none⟩) (Kd.R_mono HO_398001.out (fun k_ hk => (⟨hk, fun e_ => hk.2.2.1 (by rw [e_]; rfl)⟩ : _ ∧ k_ ≠ go52))) (fun _ hk => hk.2) (.int .i64 t398)) (fun _ hk => ⟨hk.1.1, ⟨hk.1.2.1, ⟨hk.1.2.2.1, hk.1.2.2.2⟩⟩⟩)⟩
              rw [← hW_] at n3_
              have n4_ : Aside0 (Kd.R (Kd.int .i64) 3 (w57.setCell ⟨go52, (x10_3 : Int).toNat, none⟩ (.int .i64 t398)) w.heap.size (fun k_ => (w.heap.size ≤ k_) ∧ some k_ ≠ (.slice Ao29 x6_3.length co29 : Value).ownBlock ∧ some k_ ≠ (.slice (some ⟨go52, 0, none⟩) x398000_3.length co52 : Value).ownBlock ∧ some k_ ≠ (u398001 : Value).ownBlock) u398002 x398002_3) := ⟨by (with_reducible repeat (first | apply Kd.R_alloc | apply Kd.R_drewN | apply Kd.R_drew)); exact Kd.R_mono (Kd.R_far (p := ⟨go52, (x10_3 : Int).toNat, none⟩) (Kd.R_mono HO_398002.out (fun k_ hk => (⟨hk, fun e_ => hk.2.2.1 (by rw [e_]; rfl)⟩ : _ ∧ k_ ≠ go52))) (fun _ hk => hk.2) (.int .i64 t398)) (fun _ hk => ⟨hk.1.1, ⟨hk.1.2.1, ⟨hk.1.2.2.1, hk.1.2.2.2⟩⟩⟩)⟩
              rw [← hW_] at n4_
              have n5_ : Aside0 ((w57.setCell ⟨go52, (x10_3 : Int).toNat, none⟩ (.int .i64 t398)).heap[gb353]? = some (.cells #[.int .i64 0, .int .i64 0, .slice none 0 0] 43 (0, 0))) := ⟨by (with_reducible repeat (first | refine blk_drewN ?_ _ | refine blk_drew ?_ | refine blk_alloc ?_ _)); refine blk_far ?_ (by have h_ := Kd.R_ne HO_398000.out BK353.out (by decide); intro e_; exact h_ (by rw [e_]; rfl)) _; (with_reducible repeat (first | refine blk_drewN ?_ _ | refine blk_drew ?_ | refine blk_alloc ?_ _)); exact BK353.out⟩
              rw [← hW_] at n5_
              have n6_ : Aside0 ((w57.setCell ⟨go52, (x10_3 : Int).toNat, none⟩ (.int .i64 t398)).heap[gb384]? = some (.cells #[.int .i64 (wrap64 (2 + t368)), .int .i64 t381, u385002] 43 (0, 0))) := ⟨by (with_reducible repeat (first | refine blk_drewN ?_ _ | refine blk_drew ?_ | refine blk_alloc ?_ _)); refine blk_far ?_ (by have h_ := Kd.R_ne HO_398000.out BK384.out (by decide); intro e_; exact h_ (by rw [e_]; rfl)) _; (with_reducible repeat (first | refine blk_drewN ?_ _ | refine blk_drew ?_ | refine blk_alloc ?_ _)); exact BK384.out⟩
              rw [← hW_] at n6_
              have n7_ : Aside0 ((w57.setCell ⟨go52, (x10_3 : Int).toNat, none⟩ (.int .i64 t398)).heap[gb397]? = some (.cells #[.slice (some ⟨go52, 0, none⟩) x398000_3.length co52, u398001, u398002] 75 (0, 0))) := ⟨by (with_reducible repeat (first | refine blk_drewN ?_ _ | refine blk_drew ?_ | refine blk_alloc ?_ _)); refine blk_far ?_ (by have h_ := Kd.R_ne HO_398000.out BK397.out (by decide); intro e_; exact h_ (by rw [e_]; rfl)) _; (with_reducible repeat (first | refine blk_drewN ?_ _ | refine blk_drew ?_ | refine blk_alloc ?_ _)); exact BK397.out⟩
              rw [← hW_] at n7_
              have n8_ : Aside0 (IsS103 w0 (w57.setCell ⟨go52, (x10_3 : Int).toNat, none⟩ (.int .i64 t398)) g s0_0 t399 t400) := ⟨by repeat (first | (with_reducible first | exact HI0.out | apply IsS103.alloc | apply IsS103.drewN | apply IsS103.drew | apply IsS103.set_1 | apply IsS103.set_2 | refine IsS103.far ?_ HN0_go52.out _ | refine IsS103.far ?_ NB0_353.out _ | refine IsS103.far ?_ NB0_384.out _ | refine IsS103.far ?_ NB0_397.out _) | exact HI0.out)⟩
              rw [← hW_] at n8_
              have n9_ : Aside0 (KeepBut w (w57.setCell ⟨go52, (x10_3 : Int).toNat, none⟩ (.int .i64 t398)) g none) := ⟨by repeat (first | (with_reducible first | exact HK.out | apply KeepBut.set_ | apply keep_drewN | apply keep_drew | apply keep_alloc | refine keep_far ?_ GB52.out _ | refine keep_far ?_ GW353.out _ | refine keep_far ?_ GW384.out _ | refine keep_far ?_ GW397.out _) | exact HK.out)⟩
              rw [← hW_] at n9_
              have n10_ : Aside0 (Below w0.heap.size w0 (w57.setCell ⟨go52, (x10_3 : Int).toNat, none⟩ (.int .i64 t398))) := ⟨by repeat (first | (with_reducible first | exact HB.out | apply below_alloc | apply pw_below_drewN | apply below_drew1 | refine below_set ?_ (Nat.le_trans HL.out GB52.out) | refine below_set ?_ (IsS103.ge HI0.out) | refine below_set ?_ GE353.out | refine below_set ?_ GE384.out | refine below_set ?_ GE397.out) | exact HB.out)⟩
              rw [← hW_] at n10_
              (try clear HO_6)
              (try clear HO_385002)
              (try clear HO_398000)
              (try clear HO_398001)
              (try clear HO_398002)
              (try clear BK353)
              (try clear BK384)
              (try clear BK397)
              (try clear HI0)
              (try clear HK)
              (try clear HB)
              have HO_6 := n0_
              clear n0_
              have HO_385002 := n1_
              clear n1_
              have HO_398000 := n2_
              clear n2_
              have HO_398001 := n3_
              clear n3_
              have HO_398002 := n4_
              clear n4_
              have BK353 := n5_
              clear n5_
              have BK384 := n6_
              clear n6_
              have BK397 := n7_
              clear n7_
              have HI0 := n8_
              clear n8_
              have HK := n9_
              clear n9_
              have HB := n10_
              clear n10_
              first | rw [← hW_] | rw [show ∀ (w_ : World) (n_ : Nat) (p_ : Addr) (v_ : Value), (w_.drewN n_).setCell p_ v_ = (w_.setCell p_ v_).drewN n_ from fun _ _ _ _ => rfl, ← hW_]
              clear hW_
              replace HO_6 := Aside0.mk (Kd.R_drew HO_6.out)
              replace HO_385002 := Aside0.mk (Kd.N_drew HO_385002.out)
              replace HO_398000 := Aside0.mk (Kd.R_drew HO_398000.out)
              replace HO_398001 := Aside0.mk (Kd.R_drew HO_398001.out)
              replace HO_398002 := Aside0.mk (Kd.R_drew HO_398002.out)
              replace BK353 := Aside0.mk (blk_drew BK353.out)
              replace BK384 := Aside0.mk (blk_drew BK384.out)
              replace BK397 := Aside0.mk (blk_drew BK397.out)
              replace HI0 := Aside0.mk (IsS103.drew HI0.out)
              replace HK := Aside0.mk (keep_drew HK.out)
              replace HB := Aside0.mk (below_drew1 HB.out)
              refine start_ (n := 7) (S := fun w' => SQ3 w' gb397 (.slice (some ⟨go52, 0, none⟩) x398000_3.length co52) (u398001) (u398002)) (ds := [6]) #[false, false, false, false, false, false, false] (by kernel_rfl) rfl rfl (bT3 BK397) (fun hHeld => ?_)
              generalize w59.drew = w60 at HO_6 HO_385002 HO_398000 HO_398001 HO_398002 BK353 BK384 BK397 HI0 HK HB HQ58 hHeld ⊢
              refine pJ 0 (some 57) ?_
              refine pJ 2 (some 59) ?_
              refine pJ 3 (some 60) ?_
              refine tJ 1 (some 58) hHeld ?_
              refine one_ (i := 4) (N := some 61) #[true, true, true, true, true, false, false] rfl rfl (by kernel_rfl) (by decide) (fun K hK => ?_)
              refine gO Try.func82 #[.pointer (some ⟨g, 0, none⟩), .int .i64 3] ?_
              with_reducible refine (spec_l01Below.calls g s0_0 t399 t400 3 t402 t403 t404 w0 _ ?side1 ?side2 A53.out).mono ?_
              (case side1 => exact iZ103 HI0)
              (case side2 => exact jZ103 HB HI0)
              rintro e w61 ⟨rfl, hi, hb, hk⟩
              refine ⟨_, rfl, ?_⟩
              replace HO_6 := Aside0.mk (Kd.R_mono (Kd.R_keep (IsS103.apart (show IsS103 w0 _ g s0_0 t399 t400 from iZ103 HI0) (rP HO_6) (by decide)) hk (fun _ h => h.2)) (fun _ h => h.1))
              replace HO_385002 := Aside0.mk (Kd.N_mono (Kd.N_keep (Kd.N_mono (ok := fun k_ => (((w.heap.size ≤ k_)) ∧ (some k_ ≠ (.slice Ao29 x6_3.length co29 : Value).ownBlock ∧ (some k_ ≠ (.slice (some ⟨go52, 0, none⟩) x398000_3.length co52 : Value).ownBlock ∧ (some k_ ≠ (u398001 : Value).ownBlock ∧ (some k_ ≠ (u398002 : Value).ownBlock ∧ (k_ ≠ gb353 ∧ (k_ ≠ gb384 ∧ (k_ ≠ gb397 ∧ k_ ≠ g))))))))) (by (with_reducible repeat (first | apply Kd.N_alloc | apply Kd.N_drewN | apply Kd.N_drew)); exact HO_385002.out) (fun k_ hk_ => (⟨hk_, hk_.2.2.2.2.2.2.2.2⟩ : _ ∧ k_ ≠ g))) hk (fun _ h => h.2)) (fun _ h => h.1))
              replace HO_398000 := Aside0.mk (Kd.R_mono (Kd.R_keep (IsS103.apart (show IsS103 w0 _ g s0_0 t399 t400 from iZ103 HI0) (rP HO_398000) (by decide)) hk (fun _ h => h.2)) (fun _ h => h.1))
              replace HO_398001 := Aside0.mk (Kd.R_mono (Kd.R_keep (IsS103.apart (show IsS103 w0 _ g s0_0 t399 t400 from iZ103 HI0) (rP HO_398001) (by decide)) hk (fun _ h => h.2)) (fun _ h => h.1))
              replace HO_398002 := Aside0.mk (Kd.R_mono (Kd.R_keep (IsS103.apart (show IsS103 w0 _ g s0_0 t399 t400 from iZ103 HI0) (rP HO_398002) (by decide)) hk (fun _ h => h.2)) (fun _ h => h.1))
              replace BK353 := Aside0.mk (KeepBut.blk hk (g' := gb353) (o := .cells #[.int .i64 0, .int .i64 0, .slice none 0 0] 43 (0, 0)) (bP BK353) NB353_0.out (by simp))
              replace BK384 := Aside0.mk (KeepBut.blk hk (g' := gb384) (o := .cells #[.int .i64 (wrap64 (2 + t368)), .int .i64 t381, u385002] 43 (0, 0)) (bP BK384) NB384_0.out (by simp))
              replace BK397 := Aside0.mk (KeepBut.blk hk (g' := gb397) (o := .cells #[.slice (some ⟨go52, 0, none⟩) x398000_3.length co52, u398001, u398002] 75 (0, 0)) (bP BK397) NB397_0.out (by simp))
              replace HK := Aside0.mk (KeepBut.trans (kZ HK) hk (.inl rfl))
              replace HB := Aside0.mk (hb)
              replace HI0 := Aside0.mk (hi)
              (try clear hb)
              have p55 : 0 ≤ (x10_3 : Int) := of_decide_eq_true (by first | (with_reducible assumption) | assumption)
              have q55 : (x10_3 : Int) < ((x398001_3.length : Int) : Int) := of_decide_eq_true (by first | (with_reducible assumption) | assumption)
              obtain ⟨go55, co55, eo55, gb55, gl55, cl55, HG55⟩ := Kd.R_form HO_398001.out (by omega)
              (first | cases eo55 | (injection eo55 with ea_ en_ ec_; (first | subst ea_ | (injection ea_ with ea_; subst ea_)); subst ec_; clear en_))
              have GB55 := Aside0.mk gb55
              have GG55 := Aside0.mk HG55
              clear gb55 gl55 HG55
              obtain ⟨hx55_0, hf55_0⟩ := Kd.R_celln 0 HO_398001.out (x10_3 : Int) p55 q55
              replace p55 := eq_true p55
              replace q55 := eq_true q55
              have HN0_go55 := Aside0.mk (show g ≠ go55 from by have h_ := IsS103.own_ne HI0.out HO_398001.out (by decide); intro e_; exact h_ (by rw [e_]; rfl))
              have HP62 := Kd.R_putn HO_398001.out (x10_3 : Int) t402
              rw [← Ny405.out] at HP62
              have HQ62 := Aside0.mk HP62
              clear HP62
              refine hK.out _ _ (bT3 BK397) (fun hHeld => ?_)
              clear hK K
              refine nO (some 61) ?_
              refine pJ 5 (some 62) ?_
              refine last_ (i := 6) (N := none) #[true, true, true, true, true, true, true] rfl rfl (by kernel_rfl) (by decide) (fun K hK => ?_)
              refine skip_ (w1 := ?_) (by rfl) rfl ?_ ?_
              rotate_left
              ·go_simp
               rfl
              refine hK.out _ _ ?_
              clear hK K
              refine done_ (by kernel_rfl) ?_
              try go_wp2
              (try simp only [← hl6_3])
              go_roundg k3
              case measure => have := HK1.out; have := HK2.out; have := HK3.out; omega
              case rel => exact ⟨(x6_3), (wrap64 (x10_3 + 1)), (t403), (t404), (y401), (y405), (x398002_3), (.slice (some ⟨go52, 0, none⟩) x398000_3.length co52), (.slice (some ⟨go55, 0, none⟩) x398001_3.length co55), (u398002), rS, H', ⟨by have := HK1.out; have := HK2.out; have := HK3.out; omega⟩, ⟨by (try simp only [hl6_2]); (try simp only [hl6_3]); (with_reducible repeat (first | apply Kd.R_alloc | apply Kd.R_drewN | apply Kd.R_drew)); exact Kd.R_mono (Kd.R_far (p := ⟨go55, (x10_3 : Int).toNat, none⟩) (Kd.R_mono HO_6.out (fun k_ hk => (⟨hk, fun e_ => hk.2.2.1 (by rw [e_]; rfl)⟩ : _ ∧ k_ ≠ go55))) (fun _ hk => hk.2) (.int .i64 t402)) (fun _ hk => ⟨hk.1.1, ⟨hk.1.2.1, ⟨hk.1.2.2.1, hk.1.2.2.2⟩⟩⟩)⟩, ⟨by (try simp only [hl6_2]); (try simp only [hl6_3]); (with_reducible repeat (first | apply Kd.N_alloc | apply Kd.N_drewN | apply Kd.N_drew)); exact Kd.N_mono (Kd.N_far (p := ⟨go55, (x10_3 : Int).toNat, none⟩) (Kd.N_mono HO_385002.out (fun k_ hk => (⟨hk, fun e_ => hk.2.2.2.1 (by rw [e_]; rfl)⟩ : _ ∧ k_ ≠ go55))) (fun _ hk => hk.2) (.int .i64 t402)) (fun _ hk => ⟨hk.1.1, ⟨hk.1.2.1, ⟨hk.1.2.2.1, ⟨hk.1.2.2.2.1, ⟨hk.1.2.2.2.2.1, ⟨hk.1.2.2.2.2.2.1, ⟨hk.1.2.2.2.2.2.2.1, ⟨hk.1.2.2.2.2.2.2.2.1, hk.1.2.2.2.2.2.2.2.2⟩⟩⟩⟩⟩⟩⟩⟩)⟩, ⟨by (try simp only [hl6_2]); (try simp only [hl6_3]); (with_reducible repeat (first | apply Kd.R_alloc | apply Kd.R_drewN | apply Kd.R_drew)); exact Kd.R_mono (Kd.R_far (p := ⟨go55, (x10_3 : Int).toNat, none⟩) (Kd.R_mono HO_398000.out (fun k_ hk => (⟨hk, fun e_ => hk.2.2.1 (by rw [e_]; rfl)⟩ : _ ∧ k_ ≠ go55))) (fun _ hk => hk.2) (.int .i64 t402)) (fun _ hk => ⟨hk.1.1, ⟨hk.1.2.1, ⟨hk.1.2.2.1, hk.1.2.2.2⟩⟩⟩)⟩, ⟨by (try simp only [hl6_2]); (try simp only [hl6_3]); (with_reducible repeat (first | apply Kd.R_alloc | apply Kd.R_drewN | apply Kd.R_drew)); exact HQ62.out⟩, ⟨by (try simp only [hl6_2]); (try simp only [hl6_3]); (with_reducible repeat (first | apply Kd.R_alloc | apply Kd.R_drewN | apply Kd.R_drew)); exact Kd.R_mono (Kd.R_far (p := ⟨go55, (x10_3 : Int).toNat, none⟩) (Kd.R_mono HO_398002.out (fun k_ hk => (⟨hk, fun e_ => hk.2.2.2 (by rw [e_]; rfl)⟩ : _ ∧ k_ ≠ go55))) (fun _ hk => hk.2) (.int .i64 t402)) (fun _ hk => ⟨hk.1.1, ⟨hk.1.2.1, ⟨hk.1.2.2.1, hk.1.2.2.2⟩⟩⟩)⟩, ⟨by (try simp only [hl6_2]); (try simp only [hl6_3]); (with_reducible repeat (first | refine blk_drewN ?_ _ | refine blk_drew ?_ | refine blk_alloc ?_ _)); refine blk_far ?_ (by have h_ := Kd.R_ne HO_398001.out BK353.out (by decide); intro e_; exact h_ (by rw [e_]; rfl)) _; (with_reducible repeat (first | refine blk_drewN ?_ _ | refine blk_drew ?_ | refine blk_alloc ?_ _)); exact BK353.out⟩, ⟨by (try simp only [hl6_2]); (try simp only [hl6_3]); (with_reducible repeat (first | refine blk_drewN ?_ _ | refine blk_drew ?_ | refine blk_alloc ?_ _)); refine blk_far ?_ (by have h_ := Kd.R_ne HO_398001.out BK384.out (by decide); intro e_; exact h_ (by rw [e_]; rfl)) _; (with_reducible repeat (first | refine blk_drewN ?_ _ | refine blk_drew ?_ | refine blk_alloc ?_ _)); exact BK384.out⟩, ⟨by (try simp only [hl6_2]); (try simp only [hl6_3]); (with_reducible repeat (first | refine blk_drewN ?_ _ | refine blk_drew ?_ | refine blk_alloc ?_ _)); refine blk_far ?_ (by have h_ := Kd.R_ne HO_398001.out BK397.out (by decide); intro e_; exact h_ (by rw [e_]; rfl)) _; (with_reducible repeat (first | refine blk_drewN ?_ _ | refine blk_drew ?_ | refine blk_alloc ?_ _)); exact BK397.out⟩, ⟨by repeat (first | (with_reducible first | exact HI0.out | apply IsS103.alloc | apply IsS103.drewN | apply IsS103.drew | apply IsS103.set_1 | apply IsS103.set_2 | refine IsS103.far ?_ HN0_go55.out _ | refine IsS103.far ?_ NB0_353.out _ | refine IsS103.far ?_ NB0_384.out _ | refine IsS103.far ?_ NB0_397.out _) | exact HI0.out)⟩, ⟨by repeat (first | (with_reducible first | exact HK.out | apply KeepBut.set_ | apply keep_drewN | apply keep_drew | apply keep_alloc | refine keep_far ?_ GB55.out _ | refine keep_far ?_ GW353.out _ | refine keep_far ?_ GW384.out _ | refine keep_far ?_ GW397.out _) | exact HK.out)⟩, ⟨by repeat (first | (with_reducible first | exact HB.out | apply below_alloc | apply pw_below_drewN | apply below_drew1 | refine below_set ?_ (Nat.le_trans HL.out GB55.out) | refine below_set ?_ (IsS103.ge HI0.out) | refine below_set ?_ GE353.out | refine below_set ?_ GE384.out | refine below_set ?_ GE397.out) | exact HB.out)⟩⟩
             ·rw [if_neg c54] at H
              exact absurd H (by simp)
            ·rw [if_neg c51] at H
             exact absurd H (by simp)
           ·rw [if_neg c50] at H
            exact absurd H (by simp)
          ·rw [if_neg c48] at H
           have c48b0 := decide_eq_false c48
           clear c48
           replace H := Option.bind_eq_some_iff.mp H
           obtain ⟨t406, A630, H⟩ := H
           have A63 := Aside0.mk A630
           clear A630
           replace H := Option.bind_eq_some_iff.mp H
           obtain ⟨t407, A640, H⟩ := H
           have A64 := Aside0.mk A640
           clear A640
           replace H := Option.bind_eq_some_iff.mp H
           obtain ⟨t408, A650, H⟩ := H
           have A65 := Aside0.mk A650
           clear A650
           by_cases c66 : 0 < (x398002_3.length : Int)
           ·rw [if_pos c66] at H
            have c66b0 := decide_eq_true c66
            have c66b1 : decide (0 < x398002_3.length) = true := decide_eq_true (by omega)
            clear c66
            obtain ⟨y409, hy409⟩ : ∃ y_ : List Int, y_ = (x398002_3.set (0 : Int).toNat t408) := ⟨_, rfl⟩
            replace H : (if x385002_2.length < 1954687338268 then (spec_l13System.l1 k3 (wrap64 (2 + t368)) x6_3 (wrap64 (x8_2 + 1)) s0_0 x1001_3 x1002_3 (wrap64 (2 + t368)) t381 (x385002_2 ++ [(⟨x398000_3, x398001_3, y409⟩ : S75)])) else (none)) = some (r1, r2, r3, r4, r5, r6) := by first | (rw [hy409]; with_reducible exact H) | (have H2_ := (Option.bind_some _ _).symm.trans H; rw [hy409]; with_reducible exact H2_) | (have H2_ := (Option.bind_some _ _).symm.trans H; with_reducible exact H2_) | with_reducible exact H | (rw [hy409]; exact H) | exact H
            have Ny409 := Aside0.mk hy409
            clear hy409
            by_cases c68 : x385002_2.length < 1954687338268
            ·rw [if_pos c68] at H
             have LMc68 := Aside0.mk c68
             clear c68
             obtain ⟨y410, hy410⟩ : ∃ y_ : List (S75), y_ = (x385002_2 ++ [(⟨x398000_3, x398001_3, y409⟩ : S75)]) := ⟨_, rfl⟩
             replace H : (spec_l13System.l1 k3 (wrap64 (2 + t368)) x6_3 (wrap64 (x8_2 + 1)) s0_0 x1001_3 x1002_3 (wrap64 (2 + t368)) t381 y410) = some (r1, r2, r3, r4, r5, r6) := by first | (rw [hy410]; with_reducible exact H) | (have H2_ := (Option.bind_some _ _).symm.trans H; rw [hy410]; with_reducible exact H2_) | (have H2_ := (Option.bind_some _ _).symm.trans H; with_reducible exact H2_) | with_reducible exact H | (rw [hy410]; exact H) | exact H
             have Ny410 := Aside0.mk hy410
             clear hy410
             have H' := Aside0.mk H
             clear H
             try go_wp2
             replace HO_6 := Aside0.mk (Kd.R_drew HO_6.out)
             replace HO_385002 := Aside0.mk (Kd.N_drew HO_385002.out)
             replace HO_398000 := Aside0.mk (Kd.R_drew HO_398000.out)
             replace HO_398001 := Aside0.mk (Kd.R_drew HO_398001.out)
             replace HO_398002 := Aside0.mk (Kd.R_drew HO_398002.out)
             replace BK353 := Aside0.mk (blk_drew BK353.out)
             replace BK384 := Aside0.mk (blk_drew BK384.out)
             replace BK397 := Aside0.mk (blk_drew BK397.out)
             replace HI0 := Aside0.mk (IsS103.drew HI0.out)
             replace HK := Aside0.mk (keep_drew HK.out)
             replace HB := Aside0.mk (below_drew1 HB.out)
             obtain ⟨Ao70, co70, eo70⟩ := Kd.R_slice HO_398000.out
             (first | subst eo70 | (injection eo70 with f1_ f2_ f3_; have f4_ := f1_.symm; have f5_ := f3_.symm; clear f1_ f2_ f3_; subst f4_; subst f5_))
             refine start_ (n := 13) (S := fun w' => SQ3 w' gb397 (.slice Ao70 x398000_3.length co70) (u398001) (u398002)) (ds := [12]) #[false, false, false, false, false, false, false, false, false, false, false, false, false] (by kernel_rfl) rfl rfl (bT3 BK397) (fun hHeld => ?_); refine with_tabW spec_l13System.tab18 spec_l13System.bits18 (fun HT_ HW_ => ?_)
             generalize wr.drew = w69 at HO_6 HO_385002 HO_398000 HO_398001 HO_398002 BK353 BK384 BK397 HI0 HK HB hHeld ⊢
             refine pI 0 (some 63) HT_.out ?_
             refine pI 2 (some 65) HT_.out ?_
             refine pI 4 (some 67) HT_.out ?_
             refine pI 6 (some 69) HT_.out ?_
             refine pI 8 (some 71) HT_.out ?_
             refine tI3 1 (some 64) HT_.out HW_.out hHeld ?_
             refine tI3 3 (some 66) HT_.out HW_.out hHeld ?_
             refine tI3 7 (some 70) HT_.out HW_.out hHeld ?_
             refine oI 5 (some 68) HT_.out (fun K hK => ?_)
             refine gO Try.func76 #[.slice Ao70 x398000_3.length co70, .slice Ao29 x6_3.length co29] ?_
             with_reducible refine (spec_ScDot.calls k3 _ _ x398000_3 _ _ x6_3 t406 _ ?side1 ?side2 ?side3 ?side4 A63.out).mono ?_
             (case side1 => exact cP ((Kd.R_reads' HO_398000.out).2.2))
             (case side2 => exact (Kd.R_reads' HO_398000.out).2.1)
             (case side3 => exact cP ((Kd.R_reads' HO_6.out).2.2))
             (case side4 => exact (Kd.R_reads' HO_6.out).2.1)
             rintro e w' ⟨rfl, ⟨nd, rfl⟩⟩
             refine ⟨_, rfl, ?_⟩
             obtain ⟨Ao71, co71, eo71⟩ := Kd.R_slice HO_398001.out
             (first | subst eo71 | (injection eo71 with f1_ f2_ f3_; have f4_ := f1_.symm; have f5_ := f3_.symm; clear f1_ f2_ f3_; subst f4_; subst f5_))
             refine hK.out _ _ (bT3 BK397) (fun hHeld => ?_)
             clear hK K
             refine nO (some 68) ?_
             refine oI 9 (some 72) HT_.out (fun K hK => ?_)
             refine gO Try.func76 #[.slice Ao71 x398001_3.length co71, .slice Ao29 x6_3.length co29] ?_
             with_reducible refine (spec_ScDot.calls k3 _ _ x398001_3 _ _ x6_3 t407 _ ?side1 ?side2 ?side3 ?side4 A64.out).mono ?_
             (case side1 => exact cP ((Kd.R_reads' HO_398001.out).2.2))
             (case side2 => exact (Kd.R_reads' HO_398001.out).2.1)
             (case side3 => exact cP ((Kd.R_reads' HO_6.out).2.2))
             (case side4 => exact (Kd.R_reads' HO_6.out).2.1)
             rintro e w' ⟨rfl, ⟨nd, rfl⟩⟩
             refine ⟨_, rfl, ?_⟩
             refine hK.out _ _ (bT3 BK397) (fun hHeld => ?_)
             clear hK K
             refine nO (some 72) ?_
             refine oI 10 (some 73) HT_.out (fun K hK => ?_)
             refine gO Try.func75 #[.int .i64 t406, .int .i64 t407] ?_
             with_reducible refine (spec_ScMul.calls t406 t407 t408 _ A65.out).mono ?_
             rintro e w' ⟨rfl, ⟨nd, rfl⟩⟩
             refine ⟨_, rfl, ?_⟩
             have p67 : 0 ≤ (0 : Int) := (by omega)
             have q67 : (0 : Int) < ((x398002_3.length : Int) : Int) := of_decide_eq_true (by first | (with_reducible assumption) | assumption)
             have qi67 : (0 < x398002_3.length) = True := eq_true (by omega)
             obtain ⟨go67, co67, eo67, gb67, gl67, cl67, HG67⟩ := Kd.R_form HO_398002.out (by omega)
             (first | cases eo67 | (injection eo67 with ea_ en_ ec_; (first | subst ea_ | (injection ea_ with ea_; subst ea_)); subst ec_; clear en_))
             have GB67 := Aside0.mk gb67
             have GG67 := Aside0.mk HG67
             clear gb67 gl67 HG67
             obtain ⟨hx67_0, hf67_0⟩ := Kd.R_celln 0 HO_398002.out (0 : Int) p67 q67
             (try rw [show ((0 : Int)).toNat = 0 from rfl] at hx67_0)
             (try simp only [Nat.reduceMul, Nat.zero_mul, Nat.zero_add, Nat.reduceAdd] at hx67_0)
             (try rw [show ((0 : Int)).toNat = 0 from rfl] at hf67_0)
             (try simp only [Nat.reduceMul, Nat.zero_mul, Nat.zero_add, Nat.reduceAdd] at hf67_0)
             replace p67 := eq_true p67
             replace q67 := eq_true q67
             have HN0_go67 := Aside0.mk (show g ≠ go67 from by have h_ := IsS103.own_ne HI0.out HO_398002.out (by decide); intro e_; exact h_ (by rw [e_]; rfl))
             have HP72 := Kd.R_putn HO_398002.out (0 : Int) t408
             rw [← Ny409.out] at HP72
             have HQ72 := Aside0.mk HP72
             clear HP72
             refine hK.out _ _ (bT3 BK397) (fun hHeld => ?_)
             clear hK K
             refine nO (some 73) ?_
             refine pI 11 (some 74) HT_.out ?_
             refine last_ (i := 12) (N := none) #[true, true, true, true, true, true, true, true, true, true, true, true, true] rfl rfl (one_of HT_.out (by kernel_rfl)) (by decide) (fun K hK => ?_)
             refine skip_ (w1 := ?_) (by rfl) rfl ?_ ?_
             rotate_left
             ·go_simp
              rfl
             refine hK.out _ _ ?_
             clear hK K
             refine done_ (done_of HT_.out (by kernel_rfl)) ?_
             obtain ⟨w73, hW_⟩ : ∃ W_ : World, W_ = (w69.setCell ⟨go67, 0, none⟩ (.int .i64 t408)) := ⟨_, rfl⟩
             have n0_ : Aside0 (Kd.R (Kd.int .i64) 3 (w69.setCell ⟨go67, 0, none⟩ (.int .i64 t408)) w.heap.size (fun k_ => (w.heap.size ≤ k_) ∧ some k_ ≠ (.slice Ao70 x398000_3.length co70 : Value).ownBlock ∧ some k_ ≠ (.slice Ao71 x398001_3.length co71 : Value).ownBlock ∧ some k_ ≠ (.slice (some ⟨go67, 0, none⟩) x398002_3.length co67 : Value).ownBlock) (.slice Ao29 x6_3.length co29) x6_3) := ⟨by (with_reducible repeat (first | apply Kd.R_alloc | apply Kd.R_drewN | apply Kd.R_drew)); exact Kd.R_mono (Kd.R_far (p := ⟨go67, 0, none⟩) (Kd.R_mono HO_6.out (fun k_ hk => (⟨hk, fun e_ => hk.2.2.2 (by rw [e_]; rfl)⟩ : _ ∧ k_ ≠ go67))) (fun _ hk => hk.2) (.int .i64 t408)) (fun _ hk => ⟨hk.1.1, ⟨hk.1.2.1, ⟨hk.1.2.2.1, hk.1.2.2.2⟩⟩⟩)⟩
             rw [← hW_] at n0_
             have n1_ : Aside0 (Kd.N k75 75 (w69.setCell ⟨go67, 0, none⟩ (.int .i64 t408)) w.heap.size (fun k_ => (w.heap.size ≤ k_) ∧ some k_ ≠ (.slice Ao29 x6_3.length co29 : Value).ownBlock ∧ some k_ ≠ (.slice Ao70 x398000_3.length co70 : Value).ownBlock ∧ some k_ ≠ (.slice Ao71 x398001_3.length co71 : Value).ownBlock ∧ some k_ ≠ (.slice (some ⟨go67, 0, none⟩) x398002_3.length co67 : Value).ownBlock ∧ k_ ≠ gb353 ∧ k_ ≠ gb384 ∧ k_ ≠ gb397 ∧ k_ ≠ g) u385002 x385002_2) := ⟨by (with_reducible repeat (first | apply Kd.N_alloc | apply Kd.N_drewN | apply Kd.N_drew)); exact Kd.N_mono (Kd.N_far (p := ⟨go67, 0, none⟩) (Kd.N_mono HO_385002.out (fun k_ hk => (⟨hk, fun e_ => hk.2.2.2.2.1 (by rw [e_]; rfl)⟩ : _ ∧ k_ ≠ go67))) (fun _ hk => hk.2) (.int .i64 t408)) (fun _ hk => ⟨hk.1.1, ⟨hk.1.2.1, ⟨hk.1.2.2.1, ⟨hk.1.2.2.2.1, ⟨hk.1.2.2.2.2.1, ⟨hk.1.2.2.2.2.2.1, ⟨hk.1.2.2.2.2.2.2.1, ⟨hk.1.2.2.2.2.2.2.2.1, hk.1.2.2.2.2.2.2.2.2⟩⟩⟩⟩⟩⟩⟩⟩)⟩
             rw [← hW_] at n1_
             have n2_ : Aside0 (Kd.R (Kd.int .i64) 3 (w69.setCell ⟨go67, 0, none⟩ (.int .i64 t408)) w.heap.size (fun k_ => (w.heap.size ≤ k_) ∧ some k_ ≠ (.slice Ao29 x6_3.length co29 : Value).ownBlock ∧ some k_ ≠ (.slice Ao71 x398001_3.length co71 : Value).ownBlock ∧ some k_ ≠ (.slice (some ⟨go67, 0, none⟩) x398002_3.length co67 : Value).ownBlock) (.slice Ao70 x398000_3.length co70) x398000_3) := ⟨by (with_reducible repeat (first | apply Kd.R_alloc | apply Kd.R_drewN | apply Kd.R_drew)); exact Kd.R_mono (Kd.R_far (p := ⟨go67, 0, none⟩) (Kd.R_mono HO_398000.out (fun k_ hk => (⟨hk, fun e_ => hk.2.2.2 (by rw [e_]; rfl)⟩ : _ ∧ k_ ≠ go67))) (fun _ hk => hk.2) (.int .i64 t408)) (fun _ hk => ⟨hk.1.1, ⟨hk.1.2.1, ⟨hk.1.2.2.1, hk.1.2.2.2⟩⟩⟩)⟩
             rw [← hW_] at n2_
             have n3_ : Aside0 (Kd.R (Kd.int .i64) 3 (w69.setCell ⟨go67, 0, none⟩ (.int .i64 t408)) w.heap.size (fun k_ => (w.heap.size ≤ k_) ∧ some k_ ≠ (.slice Ao29 x6_3.length co29 : Value).ownBlock ∧ some k_ ≠ (.slice Ao70 x398000_3.length co70 : Value).ownBlock ∧ some k_ ≠ (.slice (some ⟨go67, 0, none⟩) x398002_3.length co67 : Value).ownBlock) (.slice Ao71 x398001_3.length co71) x398001_3) := ⟨by (with_reducible repeat (first | apply Kd.R_alloc | apply Kd.R_drewN | apply Kd.R_drew)); exact Kd.R_mono (Kd.R_far (p := ⟨go67, 0, none⟩) (Kd.R_mono HO_398001.out (fun k_ hk => (⟨hk, fun e_ => hk.2.2.2 (by rw [e_]; rfl)⟩ : _ ∧ k_ ≠ go67))) (fun _ hk => hk.2) (.int .i64 t408)) (fun _ hk => ⟨hk.1.1, ⟨hk.1.2.1, ⟨hk.1.2.2.1, hk.1.2.2.2⟩⟩⟩)⟩
             rw [← hW_] at n3_
             have n4_ : Aside0 (Kd.R (Kd.int .i64) 3 (w69.setCell ⟨go67, 0, none⟩ (.int .i64 t408)) w.heap.size (fun k_ => (w.heap.size ≤ k_) ∧ some k_ ≠ (.slice Ao29 x6_3.length co29 : Value).ownBlock ∧ some k_ ≠ (.slice Ao70 x398000_3.length co70 : Value).ownBlock ∧ some k_ ≠ (.slice Ao71 x398001_3.length co71 : Value).ownBlock) (.slice (some ⟨go67, 0, none⟩) x398002_3.length co67) y409) := ⟨rP HQ72⟩
             rw [← hW_] at n4_
             have n5_ : Aside0 ((w69.setCell ⟨go67, 0, none⟩ (.int .i64 t408)).heap[gb353]? = some (.cells #[.int .i64 0, .int .i64 0, .slice none 0 0] 43 (0, 0))) := ⟨by (with_reducible repeat (first | refine blk_drewN ?_ _ | refine blk_drew ?_ | refine blk_alloc ?_ _)); refine blk_far ?_ (by have h_ := Kd.R_ne HO_398002.out BK353.out (by decide); intro e_; exact h_ (by rw [e_]; rfl)) _; (with_reducible repeat (first | refine blk_drewN ?_ _ | refine blk_drew ?_ | refine blk_alloc ?_ _)); exact BK353.out⟩
             rw [← hW_] at n5_
             have n6_ : Aside0 ((w69.setCell ⟨go67, 0, none⟩ (.int .i64 t408)).heap[gb384]? = some (.cells #[.int .i64 (wrap64 (2 + t368)), .int .i64 t381, u385002] 43 (0, 0))) := ⟨by (with_reducible repeat (first | refine blk_drewN ?_ _ | refine blk_drew ?_ | refine blk_alloc ?_ _)); refine blk_far ?_ (by have h_ := Kd.R_ne HO_398002.out BK384.out (by decide); intro e_; exact h_ (by rw [e_]; rfl)) _; (with_reducible repeat (first | refine blk_drewN ?_ _ | refine blk_drew ?_ | refine blk_alloc ?_ _)); exact BK384.out⟩
             rw [← hW_] at n6_
             have n7_ : Aside0 ((w69.setCell ⟨go67, 0, none⟩ (.int .i64 t408)).heap[gb397]? = some (.cells #[.slice Ao70 x398000_3.length co70, .slice Ao71 x398001_3.length co71, .slice (some ⟨go67, 0, none⟩) x398002_3.length co67] 75 (0, 0))) := ⟨by (with_reducible repeat (first | refine blk_drewN ?_ _ | refine blk_drew ?_ | refine blk_alloc ?_ _)); refine blk_far ?_ (by have h_ := Kd.R_ne HO_398002.out BK397.out (by decide); intro e_; exact h_ (by rw [e_]; rfl)) _; (with_reducible repeat (first | refine blk_drewN ?_ _ | refine blk_drew ?_ | refine blk_alloc ?_ _)); exact BK397.out⟩
             rw [← hW_] at n7_
             have n8_ : Aside0 (IsS103 w0 (w69.setCell ⟨go67, 0, none⟩ (.int .i64 t408)) g s0_0 x1001_3 x1002_3) := ⟨by repeat (first | (with_reducible first | exact HI0.out | apply IsS103.alloc | apply IsS103.drewN | apply IsS103.drew | apply IsS103.set_1 | apply IsS103.set_2 | refine IsS103.far ?_ HN0_go67.out _ | refine IsS103.far ?_ NB0_353.out _ | refine IsS103.far ?_ NB0_384.out _ | refine IsS103.far ?_ NB0_397.out _) | exact HI0.out)⟩
             rw [← hW_] at n8_
             have n9_ : Aside0 (KeepBut w (w69.setCell ⟨go67, 0, none⟩ (.int .i64 t408)) g none) := ⟨by repeat (first | (with_reducible first | exact HK.out | apply KeepBut.set_ | apply keep_drewN | apply keep_drew | apply keep_alloc | refine keep_far ?_ GB67.out _ | refine keep_far ?_ GW353.out _ | refine keep_far ?_ GW384.out _ | refine keep_far ?_ GW397.out _) | exact HK.out)⟩
             rw [← hW_] at n9_
             have n10_ : Aside0 (Below w0.heap.size w0 (w69.setCell ⟨go67, 0, none⟩ (.int .i64 t408))) := ⟨by repeat (first | (with_reducible first | exact HB.out | apply below_alloc | apply pw_below_drewN | apply below_drew1 | refine below_set ?_ (Nat.le_trans HL.out GB67.out) | refine below_set ?_ (IsS103.ge HI0.out) | refine below_set ?_ GE353.out | refine below_set ?_ GE384.out | refine below_set ?_ GE397.out) | exact HB.out)⟩
             rw [← hW_] at n10_
             (try clear HO_6)
             (try clear HO_385002)
             (try clear HO_398000)
             (try clear HO_398001)
             (try clear HO_398002)
             (try clear BK353)
             (try clear BK384)
             (try clear BK397)
             (try clear HI0)
             (try clear HK)
             (try clear HB)
             have HO_6 := n0_
             clear n0_
             have HO_385002 := n1_
             clear n1_
             have HO_398000 := n2_
             clear n2_
             have HO_398001 := n3_
             clear n3_
             have HO_398002 := n4_
             clear n4_
             have BK353 := n5_
             clear n5_
             have BK384 := n6_
             clear n6_
             have BK397 := n7_
             clear n7_
             have HI0 := n8_
             clear n8_
             have HK := n9_
             clear n9_
             have HB := n10_
             clear n10_
             first | rw [← hW_] | rw [show ∀ (w_ : World) (n_ : Nat) (p_ : Addr) (v_ : Value), (w_.drewN n_).setCell p_ v_ = (w_.setCell p_ v_).drewN n_ from fun _ _ _ _ => rfl, ← hW_]
             clear hW_
             obtain ⟨hnb74, hnc74⟩ := nB NB384_353
             obtain ⟨hnb75, hnc75⟩ := nB NB384_397
             obtain ⟨hnb76, hnc76⟩ := nB NB384_0
             obtain ⟨hcz77_0, hcz77_1, hcz77_2, hfz77_0, hfz77_1, hfz77_2⟩ := bK3 (w := w73) BK384
             obtain ⟨hnb78, hnc78⟩ := nB NB397_353
             obtain ⟨hnb79, hnc79⟩ := nB NB397_0
             obtain ⟨hcz80_0, hcz80_1, hcz80_2, hfz80_0, hfz80_1, hfz80_2⟩ := bK3 (w := w73) BK397
             try go_wp2_with (first | ((with_reducible refine gate_builtin (b := .append) (xs := #[.tmp 76, .tmp 78]) rfl ?_); at_builtin; refine Kd.N_append k75 w.heap.size rfl (.tmp 76) (.tmp 78) 41 75 (.agg #[(.slice none 0 0), (.slice none 0 0), (.slice none 0 0)]) 72 rfl Try.underlying41 info75 rfl (by decide) (by omega) u385002 x385002_2 (⟨x398000_3, x398001_3, y409⟩ : S75) [.slice Ao70 x398000_3.length co70, .slice Ao71 x398001_3.length co71, .slice (some ⟨go67, 0, none⟩) x398002_3.length co67] (fun k_ => (w.heap.size ≤ k_) ∧ some k_ ≠ (.slice Ao29 x6_3.length co29 : Value).ownBlock ∧ k_ ≠ gb353 ∧ k_ ≠ gb384 ∧ k_ ≠ gb397 ∧ k_ ≠ g) (fun k_ => ((fun k_ => (w.heap.size ≤ k_) ∧ some k_ ≠ (.slice Ao29 x6_3.length co29 : Value).ownBlock ∧ k_ ≠ gb353 ∧ k_ ≠ gb384 ∧ k_ ≠ gb397 ∧ k_ ≠ g)) k_ ∧ some k_ ≠ (u385002 : Value).ownBlock) rfl rfl ?aP (fun _ hk => hk) ?aF ?aO (Below.refl _ _) ?aS ?aL ?_; (case aP => exact (k75_mkFV _ _ _ (⟨x398000_3, x398001_3, y409⟩ : S75) (Kd.R_mono (ok' := (fun k_ => ((fun k_ => (w.heap.size ≤ k_) ∧ some k_ ≠ (.slice Ao29 x6_3.length co29 : Value).ownBlock ∧ k_ ≠ gb353 ∧ k_ ≠ gb384 ∧ k_ ≠ gb397 ∧ k_ ≠ g)) k_ ∧ some k_ ≠ (u385002 : Value).ownBlock)) (IsS103.apart HI0.out (Kd.R_types (Kd.R_types (Kd.R_types (Kd.R_apart' (HO_398000.out) (Kd.N_typed HO_385002.out) (by decide)) BK353.out (by decide)) BK384.out (by decide)) BK397.out (by decide)) (by decide)) (fun k_ hk => ⟨⟨hk.1.1.1.1.1.1, ⟨hk.1.1.1.1.1.2.1, ⟨hk.1.1.1.2, ⟨hk.1.1.2, ⟨hk.1.2, hk.2⟩⟩⟩⟩⟩, hk.1.1.1.1.2⟩)) (Kd.R_mono (ok' := (fun k_ => ((fun k_ => (w.heap.size ≤ k_) ∧ some k_ ≠ (.slice Ao29 x6_3.length co29 : Value).ownBlock ∧ k_ ≠ gb353 ∧ k_ ≠ gb384 ∧ k_ ≠ gb397 ∧ k_ ≠ g)) k_ ∧ some k_ ≠ (u385002 : Value).ownBlock)) (IsS103.apart HI0.out (Kd.R_types (Kd.R_types (Kd.R_types (Kd.R_apart' (HO_398001.out) (Kd.N_typed HO_385002.out) (by decide)) BK353.out (by decide)) BK384.out (by decide)) BK397.out (by decide)) (by decide)) (fun k_ hk => ⟨⟨hk.1.1.1.1.1.1, ⟨hk.1.1.1.1.1.2.1, ⟨hk.1.1.1.2, ⟨hk.1.1.2, ⟨hk.1.2, hk.2⟩⟩⟩⟩⟩, hk.1.1.1.1.2⟩)) (Kd.R_mono (ok' := (fun k_ => ((fun k_ => (w.heap.size ≤ k_) ∧ some k_ ≠ (.slice Ao29 x6_3.length co29 : Value).ownBlock ∧ k_ ≠ gb353 ∧ k_ ≠ gb384 ∧ k_ ≠ gb397 ∧ k_ ≠ g)) k_ ∧ some k_ ≠ (u385002 : Value).ownBlock)) (IsS103.apart HI0.out (Kd.R_types (Kd.R_types (Kd.R_types (Kd.R_apart' (HO_398002.out) (Kd.N_typed HO_385002.out) (by decide)) BK353.out (by decide)) BK384.out (by decide)) BK397.out (by decide)) (by decide)) (fun k_ hk => ⟨⟨hk.1.1.1.1.1.1, ⟨hk.1.1.1.1.1.2.1, ⟨hk.1.1.1.2, ⟨hk.1.1.2, ⟨hk.1.2, hk.2⟩⟩⟩⟩⟩, hk.1.1.1.1.2⟩)))); (case aF => exact (fun k_ hk => ⟨(Nat.le_trans (keep_size (w := w) (g := g) (row := none) (kZ HK)) hk), Kd.fresh' (Kd.R_lt (rP HO_6)) k_ hk, Kd.freshB (bP BK353) k_ hk, Kd.freshB (bP BK384) k_ hk, Kd.freshB (bP BK397) k_ hk, IsS103.fresh (iZ103 HI0) k_ hk⟩)); (case aO => exact (by (with_reducible repeat (first | apply Kd.N_alloc | apply Kd.N_drewN | apply Kd.N_drew)); exact Kd.N_mono HO_385002.out (fun _ hk => ⟨hk.1, ⟨hk.2.1, ⟨hk.2.2.2.2.2.1, ⟨hk.2.2.2.2.2.2.1, ⟨hk.2.2.2.2.2.2.2.1, hk.2.2.2.2.2.2.2.2⟩⟩⟩⟩⟩))); (case aS => exact (keep_size (w := w) (g := g) (row := none) (kZ HK))); (case aL => have := LMc68.out; omega); intro v411 w81 ho hb hg hat; rw [← Ny410.out] at ho; replace HO_6 := Aside0.mk (Kd.R_over' (rP HO_6) (Kd.N_typed (by (with_reducible repeat (first | apply Kd.N_alloc | apply Kd.N_drewN | apply Kd.N_drew)); exact HO_385002.out)) (by decide) hg); replace BK353 := Aside0.mk (blk_grown (bP BK353) hg (Kd.N_ne HO_385002.out BK353.out (by decide))); replace BK384 := Aside0.mk (blk_grown (bP BK384) hg (Kd.N_ne HO_385002.out BK384.out (by decide))); replace BK397 := Aside0.mk (blk_grown (bP BK397) hg (Kd.N_away HO_385002.out (fun _ hk => hk.2.2.2.2.2.2.2.1))); replace HB := Aside0.mk (below_weaken (jZ103 HB HI0) HL.out hb); replace HI0 := Aside0.mk (IsS103.grown (iZ103 HI0) hg (IsS103.own_neN HI0.out HO_385002.out (by decide))); replace HK := Aside0.mk (KeepBut.trans (kZ HK) (KeepBut.of_grown hg g) (Kd.N_base2 HO_385002.out)); have HO412 := Aside0.mk (ho); clear HO_385002 HO_398000 HO_398001 HO_398002; clear ho hb hg hat; obtain ⟨Ao82, co82, eo82⟩ := Kd.N_slice HO412.out; subst eo82; obtain ⟨hcz83_0, hcz83_1, hcz83_2, hfz83_0, hfz83_1, hfz83_2⟩ := bK3 (w := w81) BK384))
             (try simp only [← hl6_2, ← hl6_3])
             go_roundg k3
             case measure => have := HK1.out; have := HK2.out; have := HK3.out; omega
             case rel => exact ⟨(x6_3), (wrap64 (x8_2 + 1)), (x1001_3), (x1002_3), (y410), (.slice Ao82 y410.length co82), rS, H', ⟨by have := HK1.out; have := HK2.out; have := HK3.out; omega⟩, ⟨by (try simp only [hl6_2]); (try simp only [hl6_3]); (with_reducible repeat (first | apply Kd.R_alloc | apply Kd.R_drewN | apply Kd.R_drew)); exact Kd.R_mono (Kd.R_far (p := ⟨gb384, 2, none⟩) (Kd.R_types HO_6.out BK384.out (by decide)) (fun _ hk => hk.2) (.slice Ao82 y410.length co82)) (fun _ hk => hk.1.1)⟩, ⟨by (try simp only [hl6_2]); (try simp only [hl6_3]); (with_reducible repeat (first | apply Kd.N_alloc | apply Kd.N_drewN | apply Kd.N_drew)); exact Kd.N_mono (Kd.N_far (p := ⟨gb384, 2, none⟩) (Kd.N_mono HO412.out (fun k_ hk => (⟨hk, hk.2.2.2.1⟩ : _ ∧ k_ ≠ gb384))) (fun _ hk => hk.2) (.slice Ao82 y410.length co82)) (fun _ hk => ⟨hk.1.1, ⟨hk.1.2.1, ⟨hk.1.2.2.1, ⟨hk.1.2.2.2.1, hk.1.2.2.2.2.2⟩⟩⟩⟩)⟩, ⟨by (try simp only [hl6_2]); (try simp only [hl6_3]); (with_reducible repeat (first | refine blk_drewN ?_ _ | refine blk_drew ?_ | refine blk_alloc ?_ _)); refine blk_far ?_ NB353_384.out _; (with_reducible repeat (first | refine blk_drewN ?_ _ | refine blk_drew ?_ | refine blk_alloc ?_ _)); exact BK353.out⟩, ⟨by (try simp only [hl6_2]); (try simp only [hl6_3]); (with_reducible repeat (first | refine blk_drewN ?_ _ | refine blk_drew ?_ | refine blk_alloc ?_ _)); refine blk_put (cs := #[.int .i64 (wrap64 (2 + t368)), .int .i64 t381, u385002]) ?_ 2 _ rfl; (with_reducible repeat (first | refine blk_drewN ?_ _ | refine blk_drew ?_ | refine blk_alloc ?_ _)); exact BK384.out⟩, ⟨iZ103 HI0⟩, ⟨kZ HK⟩, ⟨jZ103 HB HI0⟩⟩
            ·rw [if_neg c68] at H
             exact absurd H (by simp)
           ·rw [if_neg c66] at H
            exact absurd H (by simp)
       ·rw [if_neg c36] at H
        have c36b0 := decide_eq_false c36
        clear c36
        simp only [Option.some.injEq, Prod.mk.injEq] at H
        obtain ⟨rfl, rfl, rfl, rfl, rfl, rfl⟩ := H
        go_wp2_with (first | (refine gC (some 39) Try.func82 #[.pointer (some ⟨g, 0, none⟩), .int .i64 4] ?_; (with_reducible refine (spec_l01Below.calls g s0_0 x1001_2 x1002_2 4 t385 t386 t387 w0 _ ?side1 ?side2 A35.out).mono ?_); (case side1 => exact iZ103 HI0); (case side2 => exact jZ103 HB HI0); rintro e w84 ⟨rfl, hi, hb, hk⟩; refine ⟨_, rfl, ?_⟩; replace HO_6 := Aside0.mk (Kd.R_mono (Kd.R_keep (IsS103.apart (show IsS103 w0 _ g s0_0 x1001_2 x1002_2 from iZ103 HI0) (rP HO_6) (by decide)) hk (fun _ h => h.2)) (fun _ h => h.1)); replace HO_385002 := Aside0.mk (Kd.N_mono (Kd.N_keep (Kd.N_mono (ok := fun k_ => (((w.heap.size ≤ k_)) ∧ (some k_ ≠ (.slice Ao29 x6_2.length co29 : Value).ownBlock ∧ (k_ ≠ gb353 ∧ (k_ ≠ gb384 ∧ k_ ≠ g))))) (by (with_reducible repeat (first | apply Kd.N_alloc | apply Kd.N_drewN | apply Kd.N_drew)); exact HO_385002.out) (fun k_ hk_ => (⟨hk_, hk_.2.2.2.2⟩ : _ ∧ k_ ≠ g))) hk (fun _ h => h.2)) (fun _ h => h.1)); replace BK353 := Aside0.mk (KeepBut.blk hk (g' := gb353) (o := .cells #[.int .i64 0, .int .i64 0, .slice none 0 0] 43 (0, 0)) (bP BK353) NB353_0.out (by simp)); replace BK384 := Aside0.mk (KeepBut.blk hk (g' := gb384) (o := .cells #[.int .i64 (wrap64 (2 + t368)), .int .i64 t381, u385002] 43 (0, 0)) (bP BK384) NB384_0.out (by simp)); replace HK := Aside0.mk (KeepBut.trans (kZ HK) hk (.inl rfl)); replace HB := Aside0.mk (hb); replace HI0 := Aside0.mk (hi); (try clear hb); obtain ⟨hnb85, hnc85⟩ := nB NB384_353; obtain ⟨hnb86, hnc86⟩ := nB NB384_0; obtain ⟨hcz87_0, hcz87_1, hcz87_2, hfz87_0, hfz87_1, hfz87_2⟩ := bK3 (w := w84) BK384; obtain ⟨hnb88, hnc88⟩ := nB NB353_0; obtain ⟨hcz89_0, hcz89_1, hcz89_2, hfz89_0, hfz89_1, hfz89_2⟩ := bK3 (w := w84) BK353; obtain ⟨Ao90, co90, eo90⟩ := Kd.N_slice HO_385002.out; subst eo90))
        refine bodyPost_ret (results_ct rfl _ _ gb353 43 #[.int .i64 (wrap64 (2 + t368)), .int .i64 t381, .slice Ao90 x385002_2.length co90] (0, 0) _ rfl (bU BK353) Try.underlying43 rfl (by kernel_rfl)) rfl ?_
        exact ⟨_, _, by first | rfl | (simp [errW_none, errW_some] <;> rfl) | (simp [*, errW_none, errW_some] <;> rfl), by (with_reducible repeat (first | apply Kd.N_alloc | apply Kd.N_drewN | apply Kd.N_drew)); exact Kd.N_mono (Kd.N_far (p := ⟨gb353, 2, none⟩) (Kd.N_far (p := ⟨gb353, 1, none⟩) (Kd.N_far (p := ⟨gb353, 0, none⟩) (Kd.N_mono HO_385002.out (fun k_ hk => (⟨hk, hk.2.2.1⟩ : _ ∧ k_ ≠ gb353))) (fun _ hk => hk.2) (.int .i64 (wrap64 (2 + t368)))) (fun _ hk => hk.2) (.int .i64 t381)) (fun _ hk => hk.2) (.slice Ao90 x385002_2.length co90)) (fun _ hk => ⟨hk.1.1, hk.1.2.1⟩), by (with_reducible repeat (first | apply Kd.R_alloc | apply Kd.R_drewN | apply Kd.R_drew)); exact Kd.R_mono (Kd.R_far (p := ⟨gb353, 2, none⟩) (Kd.R_far (p := ⟨gb353, 1, none⟩) (Kd.R_far (p := ⟨gb353, 0, none⟩) (Kd.R_types HO_6.out BK353.out (by decide)) (fun _ hk => hk.2) (.int .i64 (wrap64 (2 + t368)))) (fun _ hk => hk.2) (.int .i64 t381)) (fun _ hk => hk.2) (.slice Ao90 x385002_2.length co90)) (fun _ hk => hk.1), iZ103 HI0, jZ103 HB HI0, kZ HK⟩
end Go.Proofs.Ythdpfjkdpeamnaa.Pf
end
