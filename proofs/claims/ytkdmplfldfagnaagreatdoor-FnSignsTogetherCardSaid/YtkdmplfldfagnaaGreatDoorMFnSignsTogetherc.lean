/- What is proved here: part 3 of 5 of the proof of the given statement FnSignsTogether: the contracts of the Go functions that it reaches, the plain facts on lists and numbers, and (in the last part) the statement itself. No conditions beyond the given ones. -/
import Derived.Test.YtkdmplfldfagnaaGreatDoorMFnSignsTogetherwSlim
import Derived.Test.YtkdmplfldfagnaaGreatDoorMFnSignsTogethera
import Derived.Test.YtkdmplfldfagnaaGreatDoorMFnSignsTogetherb

section
namespace Go.Proofs.YtkdmplfldfagnaaGreatDoor.Pf
open Go.RowKit Go.Proofs.YtkdmplfldfagnaaGreatDoorW.PrintWords Go.Proofs.YtkdmplfldfagnaaGreatDoorW.PrintLast Go.Proofs.YtkdmplfldfagnaaGreatDoorW.PrintMore
attribute [local go_sem] max2_int min2_int max_two min_two max_three min_three max_four min_four   -- for this text's walks alone
set_option linter.unusedVariables false
set_option linter.unusedSimpArgs false
def spec_PointNeg.f (a0_0 : Int) (a0_1 : Int) (a0_2 : Bool) : Option (Int × Int × Bool) := if a0_2 = true then ((spec_l07Zero.f).bind fun bt276 => (some (bt276.1, bt276.2.1, bt276.2.2))) else ((spec_FpSub.f 0 a0_1).bind fun t279 => (some (a0_0, t279, false)))
set_option maxHeartbeats 8000000 in
set_option maxRecDepth 100000 in
theorem spec_PointNeg.calls (a0_0 : Int) (a0_1 : Int) (a0_2 : Bool) (r1 : Int) (r2 : Int) (r3 : Bool) (w : World) (h : spec_PointNeg.f a0_0 a0_1 a0_2 = some (r1, r2, r3)) :
  Calls Tryz.prog 116 #[.agg #[.int .i64 a0_0, .int .i64 a0_1, .bool a0_2]] w fun e w' => e = .returned (.agg #[.int .i64 r1, .int .i64 r2, .bool r3]) ∧ Below w.heap.size w w' := by
 have hu28 := Tryz.underlying28
 have HB := Aside0.mk (Below.refl w.heap.size w)
 have H : (if a0_2 = true then ((spec_l07Zero.f).bind fun bt276 => (some (bt276.1, bt276.2.1, bt276.2.2))) else ((spec_FpSub.f 0 a0_1).bind fun t279 => (some (a0_0, t279, false)))) = some (r1, r2, r3) := h
 clear h
 by_cases c2 : a0_2 = true
 ·subst c2
  rw [if_pos rfl] at H
  replace H := Option.bind_eq_some_iff.mp H
  obtain ⟨⟨t276, t277, t278⟩, A30, H⟩ := H
  have A3 := Aside0.mk A30
  clear A30
  simp only [Option.some.injEq, Prod.mk.injEq] at H
  obtain ⟨rfl, rfl, rfl⟩ := H
  go_enter Tryz.func116, Tryz.ntmps116
  go_wp2_with (first | (refine gB 1 #[.int .i64 a0_0, .int .i64 a0_1, .bool true] 28 ?_; intro gb274 hg w4 BK274 hb; have GW274 := bG HB hg; replace HB := bS HB hb; clear hb hg) | (refine gB 2 #[.int .i64 0, .int .i64 0, .bool false] 28 ?_; intro gb275 hg w5 BK275 hb; have GW275 := bG HB hg; replace HB := bS HB hb; obtain ⟨NB274_275, NB275_274⟩ := bN BK274 hg; replace BK274 := bB BK274 hb; clear hb hg; obtain ⟨hnb6, hnc6⟩ := nB NB274_275; obtain ⟨hcz7_0, hcz7_1, hcz7_2, hfz7_0, hfz7_1, hfz7_2⟩ := bK3 (w := w5) BK274) | (refine gC (some 5) Tryz.func81 #[] ?_; (with_reducible refine (spec_l07Zero.calls  t276 t277 t278 _ A3.out).mono ?_); rintro e w8 ⟨rfl, hb⟩; refine ⟨_, rfl, ?_⟩; replace BK274 := bB BK274 hb; replace BK275 := bB BK275 hb; replace HB := bS HB hb; (try clear hb); obtain ⟨hcz9_0, hcz9_1, hcz9_2, hfz9_0, hfz9_1, hfz9_2⟩ := bK3 (w := w8) BK275))
  refine rC gb275 28 #[.int .i64 t276, .int .i64 t277, .bool t278] (bU BK275) Tryz.underlying28 ?_
  exact ⟨rR, bZ HB⟩
 ·replace c2 := Bool.eq_false_iff.mpr c2
  subst c2
  rw [if_neg (show ¬ (false = true) by decide)] at H
  replace H := Option.bind_eq_some_iff.mp H
  obtain ⟨t279, A100, H⟩ := H
  have A10 := Aside0.mk A100
  clear A100
  simp only [Option.some.injEq, Prod.mk.injEq] at H
  obtain ⟨rfl, rfl, rfl⟩ := H
  go_enter Tryz.func116, Tryz.ntmps116
  try go_wp2_with (first | (refine gB 1 #[.int .i64 a0_0, .int .i64 a0_1, .bool false] 28 ?_; intro gb274 hg w11 BK274 hb; have GW274 := bG HB hg; replace HB := bS HB hb; clear hb hg) | (refine gB 2 #[.int .i64 0, .int .i64 0, .bool false] 28 ?_; intro gb275 hg w12 BK275 hb; have GW275 := bG HB hg; replace HB := bS HB hb; obtain ⟨NB274_275, NB275_274⟩ := bN BK274 hg; replace BK274 := bB BK274 hb; clear hb hg; obtain ⟨hnb13, hnc13⟩ := nB NB274_275; obtain ⟨hcz14_0, hcz14_1, hcz14_2, hfz14_0, hfz14_1, hfz14_2⟩ := bK3 (w := w12) BK274))
  replace BK274 := Aside0.mk (blk_drew BK274.out)
  replace BK275 := Aside0.mk (blk_drew BK275.out)
  replace HB := Aside0.mk (below_drew1 HB.out)
  refine start_ (n := 7) (S := fun w' => SQ3 w' gb274 (.int .i64 a0_0) (.int .i64 a0_1) (.bool false)) (ds := []) #[false, false, false, false, false, false, false] (by kernel_rfl) rfl rfl (bT3 BK274) (fun hHeld => ?_)
  generalize w12.drew = w15 at BK274 BK275 HB hHeld ⊢
  refine pJ 0 (some 6) ?_
  refine pJ 2 (some 8) ?_
  refine tJ 1 (some 7) hHeld ?_
  refine tJ 3 (some 9) hHeld ?_
  refine one_ (i := 4) (N := some 10) #[true, true, true, true, true, false, false] rfl rfl (by kernel_rfl) (by decide) (fun K hK => ?_)
  refine gO Tryz.func113 #[.int .i64 0, .int .i64 a0_1] ?_
  with_reducible refine (spec_FpSub.calls 0 a0_1 t279 _ A10.out).mono ?_
  rintro e w' ⟨rfl, ⟨nd, rfl⟩⟩
  refine ⟨_, rfl, ?_⟩
  refine hK.out _ _ (bT3 BK274) (fun hHeld => ?_)
  clear hK K
  refine nO (some 10) ?_
  refine pJ 5 (some 11) ?_
  refine one_ (i := 6) (N := none) #[true, true, true, true, true, true, true] rfl rfl (by kernel_rfl) (by decide) (fun K hK => ?_)
  have hs16 : w15.cell? ⟨gb275, 0, none⟩ = some (.int .i64 0) := bc BK275 0
  have hfs16 := blk_frozen BK275.out 0
  obtain ⟨hns16_0, hms16_0⟩ := nB NB274_275
  have hs17 : w15.cell? ⟨gb275, 1, none⟩ = some (.int .i64 0) := bc BK275 1
  have hfs17 := blk_frozen BK275.out 1
  obtain ⟨hns17_0, hms17_0⟩ := nB NB274_275
  have hs18 : w15.cell? ⟨gb275, 2, none⟩ = some (.bool false) := bc BK275 2
  have hfs18 := blk_frozen BK275.out 2
  obtain ⟨hns18_0, hms18_0⟩ := nB NB274_275
  refine skip_ (w1 := ?_) (by rfl) rfl ?_ ?_
  rotate_left
  ·go_simp
   rfl
  refine hK.out _ _ ⟨((cell_far (p := ⟨gb275, _, none⟩) NB274_275.out _).trans (((cell_far (p := ⟨gb275, _, none⟩) NB274_275.out _).trans (((cell_far (p := ⟨gb275, _, none⟩) NB274_275.out _).trans (hHeld.1)))))), ((cell_far (p := ⟨gb275, _, none⟩) NB274_275.out _).trans (((cell_far (p := ⟨gb275, _, none⟩) NB274_275.out _).trans (((cell_far (p := ⟨gb275, _, none⟩) NB274_275.out _).trans (hHeld.2.1)))))), ((cell_far (p := ⟨gb275, _, none⟩) NB274_275.out _).trans (((cell_far (p := ⟨gb275, _, none⟩) NB274_275.out _).trans (((cell_far (p := ⟨gb275, _, none⟩) NB274_275.out _).trans (hHeld.2.2))))))⟩ (fun hHeld => ?_)
  clear hK K
  refine done_ (by kernel_rfl) ?_
  try go_wp2
  refine rC gb275 28 #[.int .i64 a0_0, .int .i64 t279, .bool false] (bU BK275) Tryz.underlying28 ?_
  exact ⟨rR, bZ HB⟩
def spec_FpPow.l0 : Nat → Int → Int → Int → Option (Int)
 | 0, _, _, _ => none
 | k + 1, x1, x5, x6 => if x1 > 0 then (if (Int.tmod x1 2) = 1 then ((spec_FpMul.f x5 x6).bind fun t281 => ((spec_FpMul.f x6 x6).bind fun t282 => (spec_FpPow.l0 k (wrap64 (Int.tdiv x1 2)) t281 t282))) else ((spec_FpMul.f x6 x6).bind fun t283 => (spec_FpPow.l0 k (wrap64 (Int.tdiv x1 2)) x5 t283))) else (some x5)
def spec_FpPow.f (k : Nat) (a0 : Int) (a1 : Int) : Option (Int) := if a1 < 0 then (some 0) else ((spec_FpOf.f a0).bind fun t280 => (spec_FpPow.l0 k a1 1 t280))
set_option maxHeartbeats 8000000 in
set_option maxRecDepth 100000 in
theorem spec_FpPow.calls (k : Nat) (a0 : Int) (a1 : Int) (r : Int) (w : World) (h : spec_FpPow.f k a0 a1 = some r) :
  Calls Tryz.prog 111 #[.int .i64 a0, .int .i64 a1] w fun e w' => e = .returned (.int .i64 r) ∧ Drawn0 w w' := by
 have H : (if a1 < 0 then (some 0) else ((spec_FpOf.f a0).bind fun t280 => (spec_FpPow.l0 k a1 1 t280))) = some r := h
 clear h
 by_cases c3 : a1 < 0
 ·rw [if_pos c3] at H
  have c3b0 := decide_eq_true c3
  clear c3
  obtain rfl := Option.some.inj H
  go_enter Tryz.func111, Tryz.ntmps111
  go_wp2
  go_ret
  exact ⟨rS, rD⟩
 ·rw [if_neg c3] at H
  have c3b0 := decide_eq_false c3
  clear c3
  replace H := Option.bind_eq_some_iff.mp H
  obtain ⟨t280, A40, H⟩ := H
  have A4 := Aside0.mk A40
  clear A40
  have H' := Aside0.mk H
  clear H
  go_enter Tryz.func111, Tryz.ntmps111
  go_wp2_with (first | (refine gC (some 10) Tryz.func62 #[.int .i64 a0] ?_; (with_reducible refine (spec_FpOf.calls a0 t280 _ A4.out).mono ?_); rintro e w' ⟨rfl, ⟨nd, rfl⟩⟩; refine ⟨_, rfl, ?_⟩))
  go_loopg [1, 5, 6] k (fun kq v1 v5 v6 w' => ∃ (x1_1 : Int) (x5_1 : Int) (x6_1 : Int), v1 = .int .i64 x1_1 ∧ v5 = .int .i64 x5_1 ∧ v6 = .int .i64 x6_1 ∧ Aside0 (spec_FpPow.l0 kq x1_1 x5_1 x6_1 = some r) ∧ Aside0 (kq ≤ k) ∧ Drawn0 w w')
  case atStart => exact ⟨(a1), (1), (t280), rS, rS, rS, H', ⟨Nat.le_refl _⟩, by repeat (first | exact Drawn0.refl _ | apply Drawn0.step)⟩
  case round =>
   clear H'
   try clear c1
   try clear p2
   try clear c3
   try clear c3b0
   obtain ⟨x1_1, x5_1, x6_1, rfl, rfl, rfl, HA, HK1, ⟨m1, rfl⟩⟩ := hrel
   cases gk with
   | zero => exact absurd HA.out (by simp [spec_FpPow.l0])
   | succ k1 =>
    have H := HA.out
    clear HA
    simp only [spec_FpPow.l0] at H
    by_cases c5 : x1_1 > 0
    ·rw [if_pos c5] at H
     have c5b0 := decide_eq_true c5
     clear c5
     by_cases c6 : (Int.tmod x1_1 2) = 1
     ·rw [if_pos c6] at H
      have c6b0 : ((Int.tmod x1_1 2) == 1) = true := beq_iff_eq.mpr c6
      have c6b1 : ((Int.tmod x1_1 2) != 1) = false := bne_eq_false_iff_eq.mpr c6
      clear c6
      replace H := Option.bind_eq_some_iff.mp H
      obtain ⟨t281, A70, H⟩ := H
      have A7 := Aside0.mk A70
      clear A70
      replace H := Option.bind_eq_some_iff.mp H
      obtain ⟨t282, A80, H⟩ := H
      have A8 := Aside0.mk A80
      clear A80
      have H' := Aside0.mk H
      clear H
      go_wp2_with (first | (refine gC (some 18) Tryz.func112 #[.int .i64 x5_1, .int .i64 x6_1] ?_; (with_reducible refine (spec_FpMul.calls x5_1 x6_1 t281 _ A7.out).mono ?_); rintro e w' ⟨rfl, ⟨nd, rfl⟩⟩; refine ⟨_, rfl, ?_⟩) | (refine gC (some 21) Tryz.func112 #[.int .i64 x6_1, .int .i64 x6_1] ?_; (with_reducible refine (spec_FpMul.calls x6_1 x6_1 t282 _ A8.out).mono ?_); rintro e w' ⟨rfl, ⟨nd, rfl⟩⟩; refine ⟨_, rfl, ?_⟩))
      go_roundg k1
      case measure => have := HK1.out; omega
      case rel => exact ⟨(wrap64 (Int.tdiv x1_1 2)), (t281), (t282), rS, rS, rS, H', ⟨by have := HK1.out; omega⟩, by repeat (first | exact Drawn0.refl _ | apply Drawn0.step)⟩
     ·rw [if_neg c6] at H
      have c6b0 : ((Int.tmod x1_1 2) == 1) = false := beq_eq_false_iff_ne.mpr c6
      have c6b1 : ((Int.tmod x1_1 2) != 1) = true := bne_iff_ne.mpr c6
      replace H := Option.bind_eq_some_iff.mp H
      obtain ⟨t283, A90, H⟩ := H
      have A9 := Aside0.mk A90
      clear A90
      have H' := Aside0.mk H
      clear H
      go_wp2_with (first | (refine gC (some 21) Tryz.func112 #[.int .i64 x6_1, .int .i64 x6_1] ?_; (with_reducible refine (spec_FpMul.calls x6_1 x6_1 t283 _ A9.out).mono ?_); rintro e w' ⟨rfl, ⟨nd, rfl⟩⟩; refine ⟨_, rfl, ?_⟩))
      go_roundg k1
      case measure => have := HK1.out; omega
      case rel => exact ⟨(wrap64 (Int.tdiv x1_1 2)), (x5_1), (t283), rS, rS, rS, H', ⟨by have := HK1.out; omega⟩, by repeat (first | exact Drawn0.refl _ | apply Drawn0.step)⟩
    ·rw [if_neg c5] at H
     have c5b0 := decide_eq_false c5
     clear c5
     obtain rfl := Option.some.inj H
     go_wp2
     go_ret
     exact ⟨rS, rD⟩
def spec_FpInv.f (k : Nat) (a0 : Int) : Option (Int) := (spec_FpPow.f k a0 12105).bind fun t284 => (some t284)
set_option maxHeartbeats 8000000 in
set_option maxRecDepth 100000 in
theorem spec_FpInv.calls (k : Nat) (a0 : Int) (r : Int) (w : World) (h : spec_FpInv.f k a0 = some r) :
  Calls Tryz.prog 142 #[.int .i64 a0] w fun e w' => e = .returned (.int .i64 r) ∧ Drawn0 w w' := by
 have H : ((spec_FpPow.f k a0 12105).bind fun t284 => (some t284)) = some r := h
 clear h
 replace H := Option.bind_eq_some_iff.mp H
 obtain ⟨t284, A20, H⟩ := H
 have A2 := Aside0.mk A20
 clear A20
 obtain rfl := Option.some.inj H
 go_enter Tryz.func142, Tryz.ntmps142
 go_wp2_with (first | (refine gC (some 4) Tryz.func111 #[.int .i64 a0, .int .i64 12105] ?_; (with_reducible refine (spec_FpPow.calls k a0 12105 t284 _ A2.out).mono ?_); rintro e w' ⟨rfl, ⟨nd, rfl⟩⟩; refine ⟨_, rfl, ?_⟩))
 go_ret
 exact ⟨rS, rD⟩
def spec_l07Slope.f (k : Nat) (a0_0 : Int) (a0_1 : Int) (a0_2 : Bool) (a1_0 : Int) (a1_1 : Int) (a1_2 : Bool) : Option (Int × Bool) := if a0_0 = a1_0 then ((spec_FpAdd.f a0_1 a1_1).bind fun t291 => (if t291 = 0 then (some (0, false)) else ((spec_FpMul.f a0_0 a0_0).bind fun t292 => ((spec_FpMul.f 3 t292).bind fun t293 => ((spec_FpAdd.f t293 1).bind fun t294 => ((spec_FpMul.f 2 a0_1).bind fun t295 => ((spec_FpInv.f k t295).bind fun t296 => ((spec_FpMul.f t294 t296).bind fun t297 => (some (t297, true)))))))))) else ((spec_FpSub.f a1_1 a0_1).bind fun t287 => ((spec_FpSub.f a1_0 a0_0).bind fun t288 => ((spec_FpInv.f k t288).bind fun t289 => ((spec_FpMul.f t287 t289).bind fun t290 => (some (t290, true))))))
set_option maxHeartbeats 8000000 in
set_option maxRecDepth 100000 in
theorem spec_l07Slope.calls (k : Nat) (a0_0 : Int) (a0_1 : Int) (a0_2 : Bool) (a1_0 : Int) (a1_1 : Int) (a1_2 : Bool) (r1 : Int) (r2 : Bool) (w : World) (h : spec_l07Slope.f k a0_0 a0_1 a0_2 a1_0 a1_1 a1_2 = some (r1, r2)) :
  Calls Tryz.prog 140 #[.agg #[.int .i64 a0_0, .int .i64 a0_1, .bool a0_2], .agg #[.int .i64 a1_0, .int .i64 a1_1, .bool a1_2]] w fun e w' => e = .returned (.tuple #[.int .i64 r1, .bool r2]) ∧ Below w.heap.size w w' := by
 have hu28 := Tryz.underlying28
 have HB := Aside0.mk (Below.refl w.heap.size w)
 have H : (if a0_0 = a1_0 then ((spec_FpAdd.f a0_1 a1_1).bind fun t291 => (if t291 = 0 then (some (0, false)) else ((spec_FpMul.f a0_0 a0_0).bind fun t292 => ((spec_FpMul.f 3 t292).bind fun t293 => ((spec_FpAdd.f t293 1).bind fun t294 => ((spec_FpMul.f 2 a0_1).bind fun t295 => ((spec_FpInv.f k t295).bind fun t296 => ((spec_FpMul.f t294 t296).bind fun t297 => (some (t297, true)))))))))) else ((spec_FpSub.f a1_1 a0_1).bind fun t287 => ((spec_FpSub.f a1_0 a0_0).bind fun t288 => ((spec_FpInv.f k t288).bind fun t289 => ((spec_FpMul.f t287 t289).bind fun t290 => (some (t290, true))))))) = some (r1, r2) := h
 clear h
 by_cases c3 : a0_0 = a1_0
 ·rw [if_pos c3] at H
  have c3b0 : (a0_0 == a1_0) = true := beq_iff_eq.mpr c3
  have c3b1 : (a0_0 != a1_0) = false := bne_eq_false_iff_eq.mpr c3
  clear c3
  replace H := Option.bind_eq_some_iff.mp H
  obtain ⟨t291, A40, H⟩ := H
  have A4 := Aside0.mk A40
  clear A40
  by_cases c5 : t291 = 0
  ·rw [if_pos c5] at H
   have c5b0 : (t291 == 0) = true := beq_iff_eq.mpr c5
   have c5b1 : (t291 != 0) = false := bne_eq_false_iff_eq.mpr c5
   clear c5
   simp only [Option.some.injEq, Prod.mk.injEq] at H
   obtain ⟨rfl, rfl⟩ := H
   go_enter Tryz.func140, Tryz.ntmps140
   go_wp2_with (first | (refine gB 2 #[.int .i64 a0_0, .int .i64 a0_1, .bool a0_2] 28 ?_; intro gb285 hg w6 BK285 hb; have GW285 := bG HB hg; replace HB := bS HB hb; clear hb hg) | (refine gB 3 #[.int .i64 a1_0, .int .i64 a1_1, .bool a1_2] 28 ?_; intro gb286 hg w7 BK286 hb; have GW286 := bG HB hg; replace HB := bS HB hb; obtain ⟨NB285_286, NB286_285⟩ := bN BK285 hg; replace BK285 := bB BK285 hb; clear hb hg; obtain ⟨hnb8, hnc8⟩ := nB NB285_286; obtain ⟨hcz9_0, hcz9_1, hcz9_2, hfz9_0, hfz9_1, hfz9_2⟩ := bK3 (w := w7) BK285; obtain ⟨hcz10_0, hcz10_1, hcz10_2, hfz10_0, hfz10_1, hfz10_2⟩ := bK3 (w := w7) BK286) | (go_at_call 114; (with_reducible refine (spec_FpAdd.calls a0_1 a1_1 t291 _ A4.out).mono ?_); rintro e w' ⟨rfl, ⟨nd, rfl⟩⟩; (try exact tD)))
   repeat (go_quiet (first | (refine gB 2 #[.int .i64 a0_0, .int .i64 a0_1, .bool a0_2] 28 ?_; intro gb285 hg w6 BK285 hb; have GW285 := bG HB hg; replace HB := bS HB hb; clear hb hg) | (refine gB 3 #[.int .i64 a1_0, .int .i64 a1_1, .bool a1_2] 28 ?_; intro gb286 hg w7 BK286 hb; have GW286 := bG HB hg; replace HB := bS HB hb; obtain ⟨NB285_286, NB286_285⟩ := bN BK285 hg; replace BK285 := bB BK285 hb; clear hb hg; obtain ⟨hnb8, hnc8⟩ := nB NB285_286; obtain ⟨hcz9_0, hcz9_1, hcz9_2, hfz9_0, hfz9_1, hfz9_2⟩ := bK3 (w := w7) BK285; obtain ⟨hcz10_0, hcz10_1, hcz10_2, hfz10_0, hfz10_1, hfz10_2⟩ := bK3 (w := w7) BK286) | (go_at_call 114; (with_reducible refine (spec_FpAdd.calls a0_1 a1_1 t291 _ A4.out).mono ?_); rintro e w' ⟨rfl, ⟨nd, rfl⟩⟩; (try exact tD))); try go_wp2_with (first | (refine gB 2 #[.int .i64 a0_0, .int .i64 a0_1, .bool a0_2] 28 ?_; intro gb285 hg w6 BK285 hb; have GW285 := bG HB hg; replace HB := bS HB hb; clear hb hg) | (refine gB 3 #[.int .i64 a1_0, .int .i64 a1_1, .bool a1_2] 28 ?_; intro gb286 hg w7 BK286 hb; have GW286 := bG HB hg; replace HB := bS HB hb; obtain ⟨NB285_286, NB286_285⟩ := bN BK285 hg; replace BK285 := bB BK285 hb; clear hb hg; obtain ⟨hnb8, hnc8⟩ := nB NB285_286; obtain ⟨hcz9_0, hcz9_1, hcz9_2, hfz9_0, hfz9_1, hfz9_2⟩ := bK3 (w := w7) BK285; obtain ⟨hcz10_0, hcz10_1, hcz10_2, hfz10_0, hfz10_1, hfz10_2⟩ := bK3 (w := w7) BK286) | (go_at_call 114; (with_reducible refine (spec_FpAdd.calls a0_1 a1_1 t291 _ A4.out).mono ?_); rintro e w' ⟨rfl, ⟨nd, rfl⟩⟩; (try exact tD))))
   go_ret2
   exact ⟨rR, bZ HB⟩
  ·rw [if_neg c5] at H
   have c5b0 : (t291 == 0) = false := beq_eq_false_iff_ne.mpr c5
   have c5b1 : (t291 != 0) = true := bne_iff_ne.mpr c5
   replace H := Option.bind_eq_some_iff.mp H
   obtain ⟨t292, A110, H⟩ := H
   have A11 := Aside0.mk A110
   clear A110
   replace H := Option.bind_eq_some_iff.mp H
   obtain ⟨t293, A120, H⟩ := H
   have A12 := Aside0.mk A120
   clear A120
   replace H := Option.bind_eq_some_iff.mp H
   obtain ⟨t294, A130, H⟩ := H
   have A13 := Aside0.mk A130
   clear A130
   replace H := Option.bind_eq_some_iff.mp H
   obtain ⟨t295, A140, H⟩ := H
   have A14 := Aside0.mk A140
   clear A140
   replace H := Option.bind_eq_some_iff.mp H
   obtain ⟨t296, A150, H⟩ := H
   have A15 := Aside0.mk A150
   clear A150
   replace H := Option.bind_eq_some_iff.mp H
   obtain ⟨t297, A160, H⟩ := H
   have A16 := Aside0.mk A160
   clear A160
   simp only [Option.some.injEq, Prod.mk.injEq] at H
   obtain ⟨rfl, rfl⟩ := H
   go_enter Tryz.func140, Tryz.ntmps140
   go_wp2_with (first | (refine gB 2 #[.int .i64 a0_0, .int .i64 a0_1, .bool a0_2] 28 ?_; intro gb285 hg w17 BK285 hb; have GW285 := bG HB hg; replace HB := bS HB hb; clear hb hg) | (refine gB 3 #[.int .i64 a1_0, .int .i64 a1_1, .bool a1_2] 28 ?_; intro gb286 hg w18 BK286 hb; have GW286 := bG HB hg; replace HB := bS HB hb; obtain ⟨NB285_286, NB286_285⟩ := bN BK285 hg; replace BK285 := bB BK285 hb; clear hb hg; obtain ⟨hnb19, hnc19⟩ := nB NB285_286; obtain ⟨hcz20_0, hcz20_1, hcz20_2, hfz20_0, hfz20_1, hfz20_2⟩ := bK3 (w := w18) BK285; obtain ⟨hcz21_0, hcz21_1, hcz21_2, hfz21_0, hfz21_1, hfz21_2⟩ := bK3 (w := w18) BK286) | (go_at_call 114; (with_reducible refine (spec_FpAdd.calls a0_1 a1_1 t291 _ A4.out).mono ?_); rintro e w' ⟨rfl, ⟨nd, rfl⟩⟩; (try exact tD)) | (go_at_call 112; (with_reducible refine (spec_FpMul.calls a0_0 a0_0 t292 _ A11.out).mono ?_); rintro e w' ⟨rfl, ⟨nd, rfl⟩⟩; (try exact tD)) | (go_at_call 112; (with_reducible refine (spec_FpMul.calls 3 t292 t293 _ A12.out).mono ?_); rintro e w' ⟨rfl, ⟨nd, rfl⟩⟩; (try exact tD)) | (go_at_call 114; (with_reducible refine (spec_FpAdd.calls t293 1 t294 _ A13.out).mono ?_); rintro e w' ⟨rfl, ⟨nd, rfl⟩⟩; (try exact tD)) | (go_at_call 112; (with_reducible refine (spec_FpMul.calls 2 a0_1 t295 _ A14.out).mono ?_); rintro e w' ⟨rfl, ⟨nd, rfl⟩⟩; (try exact tD)) | (go_at_call 142; (with_reducible refine (spec_FpInv.calls k t295 t296 _ A15.out).mono ?_); rintro e w' ⟨rfl, ⟨nd, rfl⟩⟩; (try exact tD)) | (go_at_call 112; (with_reducible refine (spec_FpMul.calls t294 t296 t297 _ A16.out).mono ?_); rintro e w' ⟨rfl, ⟨nd, rfl⟩⟩; (try exact tD)))
   repeat (go_quiet (first | (refine gB 2 #[.int .i64 a0_0, .int .i64 a0_1, .bool a0_2] 28 ?_; intro gb285 hg w17 BK285 hb; have GW285 := bG HB hg; replace HB := bS HB hb; clear hb hg) | (refine gB 3 #[.int .i64 a1_0, .int .i64 a1_1, .bool a1_2] 28 ?_; intro gb286 hg w18 BK286 hb; have GW286 := bG HB hg; replace HB := bS HB hb; obtain ⟨NB285_286, NB286_285⟩ := bN BK285 hg; replace BK285 := bB BK285 hb; clear hb hg; obtain ⟨hnb19, hnc19⟩ := nB NB285_286; obtain ⟨hcz20_0, hcz20_1, hcz20_2, hfz20_0, hfz20_1, hfz20_2⟩ := bK3 (w := w18) BK285; obtain ⟨hcz21_0, hcz21_1, hcz21_2, hfz21_0, hfz21_1, hfz21_2⟩ := bK3 (w := w18) BK286) | (go_at_call 114; (with_reducible refine (spec_FpAdd.calls a0_1 a1_1 t291 _ A4.out).mono ?_); rintro e w' ⟨rfl, ⟨nd, rfl⟩⟩; (try exact tD)) | (go_at_call 112; (with_reducible refine (spec_FpMul.calls a0_0 a0_0 t292 _ A11.out).mono ?_); rintro e w' ⟨rfl, ⟨nd, rfl⟩⟩; (try exact tD)) | (go_at_call 112; (with_reducible refine (spec_FpMul.calls 3 t292 t293 _ A12.out).mono ?_); rintro e w' ⟨rfl, ⟨nd, rfl⟩⟩; (try exact tD)) | (go_at_call 114; (with_reducible refine (spec_FpAdd.calls t293 1 t294 _ A13.out).mono ?_); rintro e w' ⟨rfl, ⟨nd, rfl⟩⟩; (try exact tD)) | (go_at_call 112; (with_reducible refine (spec_FpMul.calls 2 a0_1 t295 _ A14.out).mono ?_); rintro e w' ⟨rfl, ⟨nd, rfl⟩⟩; (try exact tD)) | (go_at_call 142; (with_reducible refine (spec_FpInv.calls k t295 t296 _ A15.out).mono ?_); rintro e w' ⟨rfl, ⟨nd, rfl⟩⟩; (try exact tD)) | (go_at_call 112; (with_reducible refine (spec_FpMul.calls t294 t296 t297 _ A16.out).mono ?_); rintro e w' ⟨rfl, ⟨nd, rfl⟩⟩; (try exact tD))); try go_wp2_with (first | (refine gB 2 #[.int .i64 a0_0, .int .i64 a0_1, .bool a0_2] 28 ?_; intro gb285 hg w17 BK285 hb; have GW285 := bG HB hg; replace HB := bS HB hb; clear hb hg) | (refine gB 3 #[.int .i64 a1_0, .int .i64 a1_1, .bool a1_2] 28 ?_; intro gb286 hg w18 BK286 hb; have GW286 := bG HB hg; replace HB := bS HB hb; obtain ⟨NB285_286, NB286_285⟩ := bN BK285 hg; replace BK285 := bB BK285 hb; clear hb hg; obtain ⟨hnb19, hnc19⟩ := nB NB285_286; obtain ⟨hcz20_0, hcz20_1, hcz20_2, hfz20_0, hfz20_1, hfz20_2⟩ := bK3 (w := w18) BK285; obtain ⟨hcz21_0, hcz21_1, hcz21_2, hfz21_0, hfz21_1, hfz21_2⟩ := bK3 (w := w18) BK286) | (go_at_call 114; (with_reducible refine (spec_FpAdd.calls a0_1 a1_1 t291 _ A4.out).mono ?_); rintro e w' ⟨rfl, ⟨nd, rfl⟩⟩; (try exact tD)) | (go_at_call 112; (with_reducible refine (spec_FpMul.calls a0_0 a0_0 t292 _ A11.out).mono ?_); rintro e w' ⟨rfl, ⟨nd, rfl⟩⟩; (try exact tD)) | (go_at_call 112; (with_reducible refine (spec_FpMul.calls 3 t292 t293 _ A12.out).mono ?_); rintro e w' ⟨rfl, ⟨nd, rfl⟩⟩; (try exact tD)) | (go_at_call 114; (with_reducible refine (spec_FpAdd.calls t293 1 t294 _ A13.out).mono ?_); rintro e w' ⟨rfl, ⟨nd, rfl⟩⟩; (try exact tD)) | (go_at_call 112; (with_reducible refine (spec_FpMul.calls 2 a0_1 t295 _ A14.out).mono ?_); rintro e w' ⟨rfl, ⟨nd, rfl⟩⟩; (try exact tD)) | (go_at_call 142; (with_reducible refine (spec_FpInv.calls k t295 t296 _ A15.out).mono ?_); rintro e w' ⟨rfl, ⟨nd, rfl⟩⟩; (try exact tD)) | (go_at_call 112; (with_reducible refine (spec_FpMul.calls t294 t296 t297 _ A16.out).mono ?_); rintro e w' ⟨rfl, ⟨nd, rfl⟩⟩; (try exact tD))))
   go_ret2
   exact ⟨rR, bZ HB⟩
 ·rw [if_neg c3] at H
  have c3b0 : (a0_0 == a1_0) = false := beq_eq_false_iff_ne.mpr c3
  have c3b1 : (a0_0 != a1_0) = true := bne_iff_ne.mpr c3
  replace H := Option.bind_eq_some_iff.mp H
  obtain ⟨t287, A220, H⟩ := H
  have A22 := Aside0.mk A220
  clear A220
  replace H := Option.bind_eq_some_iff.mp H
  obtain ⟨t288, A230, H⟩ := H
  have A23 := Aside0.mk A230
  clear A230
  replace H := Option.bind_eq_some_iff.mp H
  obtain ⟨t289, A240, H⟩ := H
  have A24 := Aside0.mk A240
  clear A240
  replace H := Option.bind_eq_some_iff.mp H
  obtain ⟨t290, A250, H⟩ := H
  have A25 := Aside0.mk A250
  clear A250
  simp only [Option.some.injEq, Prod.mk.injEq] at H
  obtain ⟨rfl, rfl⟩ := H
  go_enter Tryz.func140, Tryz.ntmps140
  go_wp2_with (first | (refine gB 2 #[.int .i64 a0_0, .int .i64 a0_1, .bool a0_2] 28 ?_; intro gb285 hg w26 BK285 hb; have GW285 := bG HB hg; replace HB := bS HB hb; clear hb hg) | (refine gB 3 #[.int .i64 a1_0, .int .i64 a1_1, .bool a1_2] 28 ?_; intro gb286 hg w27 BK286 hb; have GW286 := bG HB hg; replace HB := bS HB hb; obtain ⟨NB285_286, NB286_285⟩ := bN BK285 hg; replace BK285 := bB BK285 hb; clear hb hg; obtain ⟨hnb28, hnc28⟩ := nB NB285_286; obtain ⟨hcz29_0, hcz29_1, hcz29_2, hfz29_0, hfz29_1, hfz29_2⟩ := bK3 (w := w27) BK285; obtain ⟨hcz30_0, hcz30_1, hcz30_2, hfz30_0, hfz30_1, hfz30_2⟩ := bK3 (w := w27) BK286) | (go_at_call 113; (with_reducible refine (spec_FpSub.calls a1_1 a0_1 t287 _ A22.out).mono ?_); rintro e w' ⟨rfl, ⟨nd, rfl⟩⟩; (try exact tD)) | (go_at_call 113; (with_reducible refine (spec_FpSub.calls a1_0 a0_0 t288 _ A23.out).mono ?_); rintro e w' ⟨rfl, ⟨nd, rfl⟩⟩; (try exact tD)) | (go_at_call 142; (with_reducible refine (spec_FpInv.calls k t288 t289 _ A24.out).mono ?_); rintro e w' ⟨rfl, ⟨nd, rfl⟩⟩; (try exact tD)) | (go_at_call 112; (with_reducible refine (spec_FpMul.calls t287 t289 t290 _ A25.out).mono ?_); rintro e w' ⟨rfl, ⟨nd, rfl⟩⟩; (try exact tD)))
  repeat (go_quiet (first | (refine gB 2 #[.int .i64 a0_0, .int .i64 a0_1, .bool a0_2] 28 ?_; intro gb285 hg w26 BK285 hb; have GW285 := bG HB hg; replace HB := bS HB hb; clear hb hg) | (refine gB 3 #[.int .i64 a1_0, .int .i64 a1_1, .bool a1_2] 28 ?_; intro gb286 hg w27 BK286 hb; have GW286 := bG HB hg; replace HB := bS HB hb; obtain ⟨NB285_286, NB286_285⟩ := bN BK285 hg; replace BK285 := bB BK285 hb; clear hb hg; obtain ⟨hnb28, hnc28⟩ := nB NB285_286; obtain ⟨hcz29_0, hcz29_1, hcz29_2, hfz29_0, hfz29_1, hfz29_2⟩ := bK3 (w := w27) BK285; obtain ⟨hcz30_0, hcz30_1, hcz30_2, hfz30_0, hfz30_1, hfz30_2⟩ := bK3 (w := w27) BK286) | (go_at_call 113; (with_reducible refine (spec_FpSub.calls a1_1 a0_1 t287 _ A22.out).mono ?_); rintro e w' ⟨rfl, ⟨nd, rfl⟩⟩; (try exact tD)) | (go_at_call 113; (with_reducible refine (spec_FpSub.calls a1_0 a0_0 t288 _ A23.out).mono ?_); rintro e w' ⟨rfl, ⟨nd, rfl⟩⟩; (try exact tD)) | (go_at_call 142; (with_reducible refine (spec_FpInv.calls k t288 t289 _ A24.out).mono ?_); rintro e w' ⟨rfl, ⟨nd, rfl⟩⟩; (try exact tD)) | (go_at_call 112; (with_reducible refine (spec_FpMul.calls t287 t289 t290 _ A25.out).mono ?_); rintro e w' ⟨rfl, ⟨nd, rfl⟩⟩; (try exact tD))); try go_wp2_with (first | (refine gB 2 #[.int .i64 a0_0, .int .i64 a0_1, .bool a0_2] 28 ?_; intro gb285 hg w26 BK285 hb; have GW285 := bG HB hg; replace HB := bS HB hb; clear hb hg) | (refine gB 3 #[.int .i64 a1_0, .int .i64 a1_1, .bool a1_2] 28 ?_; intro gb286 hg w27 BK286 hb; have GW286 := bG HB hg; replace HB := bS HB hb; obtain ⟨NB285_286, NB286_285⟩ := bN BK285 hg; replace BK285 := bB BK285 hb; clear hb hg; obtain ⟨hnb28, hnc28⟩ := nB NB285_286; obtain ⟨hcz29_0, hcz29_1, hcz29_2, hfz29_0, hfz29_1, hfz29_2⟩ := bK3 (w := w27) BK285; obtain ⟨hcz30_0, hcz30_1, hcz30_2, hfz30_0, hfz30_1, hfz30_2⟩ := bK3 (w := w27) BK286) | (go_at_call 113; (with_reducible refine (spec_FpSub.calls a1_1 a0_1 t287 _ A22.out).mono ?_); rintro e w' ⟨rfl, ⟨nd, rfl⟩⟩; (try exact tD)) | (go_at_call 113; (with_reducible refine (spec_FpSub.calls a1_0 a0_0 t288 _ A23.out).mono ?_); rintro e w' ⟨rfl, ⟨nd, rfl⟩⟩; (try exact tD)) | (go_at_call 142; (with_reducible refine (spec_FpInv.calls k t288 t289 _ A24.out).mono ?_); rintro e w' ⟨rfl, ⟨nd, rfl⟩⟩; (try exact tD)) | (go_at_call 112; (with_reducible refine (spec_FpMul.calls t287 t289 t290 _ A25.out).mono ?_); rintro e w' ⟨rfl, ⟨nd, rfl⟩⟩; (try exact tD))))
  go_ret2
  exact ⟨rR, bZ HB⟩
def spec_l07Add.f (k : Nat) (a0_0 : Int) (a0_1 : Int) (a0_2 : Bool) (a1_0 : Int) (a1_1 : Int) (a1_2 : Bool) : Option (Int × Int × Bool) := if a0_2 = true then (some (a1_0, a1_1, a1_2)) else (if a1_2 = true then (some (a0_0, a0_1, a0_2)) else ((spec_l07Slope.f k a0_0 a0_1 a0_2 a1_0 a1_1 a1_2).bind fun bt301 => (if bt301.2 = true then ((spec_FpMul.f bt301.1 bt301.1).bind fun t306 => ((spec_FpSub.f t306 a0_0).bind fun t307 => ((spec_FpSub.f t307 a1_0).bind fun t308 => ((spec_FpSub.f a0_0 t308).bind fun t309 => ((spec_FpMul.f bt301.1 t309).bind fun t310 => ((spec_FpSub.f t310 a0_1).bind fun t311 => (some (t308, t311, false)))))))) else ((spec_l07Zero.f).bind fun bt303 => (some (bt303.1, bt303.2.1, bt303.2.2))))))
def spec_l07Add.T8 : Bool × List (List Nat × List Nat) := (true, [([], []), ([], []), ([0, 1], [0, 1]), ([], []), ([3], [3]), ([2, 4, 2], [2, 4]), ([], []), ([6], [6]), ([5, 7, 5], [5, 7]), ([8, 8, 0, 1, 2, 3, 4, 5, 6, 7, 8], [8])])
def spec_l07Add.B8 : List Nat := [0, 0, 3, 0, 8, 31, 0, 64, 255, 511]
theorem spec_l07Add.tab8 : rtab .any (opsOf Tryz.f117 8) = spec_l07Add.T8 := by kernel_rfl
theorem spec_l07Add.bits8 : waitsOk spec_l07Add.T8.2 spec_l07Add.B8 = true := by kernel_rfl
def spec_l07Add.T9 : Bool × List (List Nat × List Nat) := (true, [([], []), ([], []), ([], []), ([2], [2]), ([], []), ([3, 4], [3, 4]), ([1, 5, 5], [1, 5]), ([], []), ([7], [7]), ([6, 8, 6], [6, 8]), ([0, 9], [0, 9]), ([10, 9, 0, 1, 2, 3, 4, 5, 6, 7, 8, 9, 10], [10])])
def spec_l07Add.B9 : List Nat := [0, 0, 0, 4, 0, 28, 62, 0, 128, 510, 1023, 2047]
theorem spec_l07Add.tab9 : rtab .any (opsOf Tryz.f117 9) = spec_l07Add.T9 := by kernel_rfl
theorem spec_l07Add.bits9 : waitsOk spec_l07Add.T9.2 spec_l07Add.B9 = true := by kernel_rfl
set_option maxHeartbeats 8000000 in
set_option maxRecDepth 100000 in
theorem spec_l07Add.calls (k : Nat) (a0_0 : Int) (a0_1 : Int) (a0_2 : Bool) (a1_0 : Int) (a1_1 : Int) (a1_2 : Bool) (r1 : Int) (r2 : Int) (r3 : Bool) (w : World) (h : spec_l07Add.f k a0_0 a0_1 a0_2 a1_0 a1_1 a1_2 = some (r1, r2, r3)) :
  Calls Tryz.prog 117 #[.agg #[.int .i64 a0_0, .int .i64 a0_1, .bool a0_2], .agg #[.int .i64 a1_0, .int .i64 a1_1, .bool a1_2]] w fun e w' => e = .returned (.agg #[.int .i64 r1, .int .i64 r2, .bool r3]) ∧ Below w.heap.size w w' := by
 have hu28 := Tryz.underlying28
 have HB := Aside0.mk (Below.refl w.heap.size w)
 have H : (if a0_2 = true then (some (a1_0, a1_1, a1_2)) else (if a1_2 = true then (some (a0_0, a0_1, a0_2)) else ((spec_l07Slope.f k a0_0 a0_1 a0_2 a1_0 a1_1 a1_2).bind fun bt301 => (if bt301.2 = true then ((spec_FpMul.f bt301.1 bt301.1).bind fun t306 => ((spec_FpSub.f t306 a0_0).bind fun t307 => ((spec_FpSub.f t307 a1_0).bind fun t308 => ((spec_FpSub.f a0_0 t308).bind fun t309 => ((spec_FpMul.f bt301.1 t309).bind fun t310 => ((spec_FpSub.f t310 a0_1).bind fun t311 => (some (t308, t311, false)))))))) else ((spec_l07Zero.f).bind fun bt303 => (some (bt303.1, bt303.2.1, bt303.2.2))))))) = some (r1, r2, r3) := h
 clear h
 by_cases c3 : a0_2 = true
 ·subst c3
  rw [if_pos rfl] at H
  simp only [Option.some.injEq, Prod.mk.injEq] at H
  obtain ⟨rfl, rfl, rfl⟩ := H
  go_enter Tryz.func117, Tryz.ntmps117
  go_wp2_with (first | (refine gB 2 #[.int .i64 a0_0, .int .i64 a0_1, .bool true] 28 ?_; intro gb298 hg w4 BK298 hb; have GW298 := bG HB hg; replace HB := bS HB hb; clear hb hg) | (refine gB 3 #[.int .i64 a1_0, .int .i64 a1_1, .bool a1_2] 28 ?_; intro gb299 hg w5 BK299 hb; have GW299 := bG HB hg; replace HB := bS HB hb; obtain ⟨NB298_299, NB299_298⟩ := bN BK298 hg; replace BK298 := bB BK298 hb; clear hb hg) | (refine gB 4 #[.int .i64 0, .int .i64 0, .bool false] 28 ?_; intro gb300 hg w6 BK300 hb; have GW300 := bG HB hg; replace HB := bS HB hb; obtain ⟨NB298_300, NB300_298⟩ := bN BK298 hg; replace BK298 := bB BK298 hb; obtain ⟨NB299_300, NB300_299⟩ := bN BK299 hg; replace BK299 := bB BK299 hb; clear hb hg; obtain ⟨hnb7, hnc7⟩ := nB NB298_299; obtain ⟨hnb8, hnc8⟩ := nB NB298_300; obtain ⟨hcz9_0, hcz9_1, hcz9_2, hfz9_0, hfz9_1, hfz9_2⟩ := bK3 (w := w6) BK298; obtain ⟨hnb10, hnc10⟩ := nB NB299_300; obtain ⟨hcz11_0, hcz11_1, hcz11_2, hfz11_0, hfz11_1, hfz11_2⟩ := bK3 (w := w6) BK299; obtain ⟨hcz12_0, hcz12_1, hcz12_2, hfz12_0, hfz12_1, hfz12_2⟩ := bK3 (w := w6) BK300))
  refine rC gb300 28 #[.int .i64 a1_0, .int .i64 a1_1, .bool a1_2] (bU BK300) Tryz.underlying28 ?_
  exact ⟨rR, bZ HB⟩
 ·replace c3 := Bool.eq_false_iff.mpr c3
  subst c3
  rw [if_neg (show ¬ (false = true) by decide)] at H
  by_cases c13 : a1_2 = true
  ·subst c13
   rw [if_pos rfl] at H
   simp only [Option.some.injEq, Prod.mk.injEq] at H
   obtain ⟨rfl, rfl, rfl⟩ := H
   go_enter Tryz.func117, Tryz.ntmps117
   go_wp2_with (first | (refine gB 2 #[.int .i64 a0_0, .int .i64 a0_1, .bool false] 28 ?_; intro gb298 hg w14 BK298 hb; have GW298 := bG HB hg; replace HB := bS HB hb; clear hb hg) | (refine gB 3 #[.int .i64 a1_0, .int .i64 a1_1, .bool true] 28 ?_; intro gb299 hg w15 BK299 hb; have GW299 := bG HB hg; replace HB := bS HB hb; obtain ⟨NB298_299, NB299_298⟩ := bN BK298 hg; replace BK298 := bB BK298 hb; clear hb hg) | (refine gB 4 #[.int .i64 0, .int .i64 0, .bool false] 28 ?_; intro gb300 hg w16 BK300 hb; have GW300 := bG HB hg; replace HB := bS HB hb; obtain ⟨NB298_300, NB300_298⟩ := bN BK298 hg; replace BK298 := bB BK298 hb; obtain ⟨NB299_300, NB300_299⟩ := bN BK299 hg; replace BK299 := bB BK299 hb; clear hb hg; obtain ⟨hnb17, hnc17⟩ := nB NB298_299; obtain ⟨hnb18, hnc18⟩ := nB NB298_300; obtain ⟨hcz19_0, hcz19_1, hcz19_2, hfz19_0, hfz19_1, hfz19_2⟩ := bK3 (w := w16) BK298; obtain ⟨hnb20, hnc20⟩ := nB NB299_300; obtain ⟨hcz21_0, hcz21_1, hcz21_2, hfz21_0, hfz21_1, hfz21_2⟩ := bK3 (w := w16) BK299; obtain ⟨hcz22_0, hcz22_1, hcz22_2, hfz22_0, hfz22_1, hfz22_2⟩ := bK3 (w := w16) BK300))
   refine rC gb300 28 #[.int .i64 a0_0, .int .i64 a0_1, .bool false] (bU BK300) Tryz.underlying28 ?_
   exact ⟨rR, bZ HB⟩
  ·replace c13 := Bool.eq_false_iff.mpr c13
   subst c13
   rw [if_neg (show ¬ (false = true) by decide)] at H
   replace H := Option.bind_eq_some_iff.mp H
   obtain ⟨⟨t301, t302⟩, A230, H⟩ := H
   have A23 := Aside0.mk A230
   clear A230
   by_cases c24 : t302 = true
   ·subst c24
    rw [if_pos rfl] at H
    replace H := Option.bind_eq_some_iff.mp H
    obtain ⟨t306, A250, H⟩ := H
    have A25 := Aside0.mk A250
    clear A250
    replace H := Option.bind_eq_some_iff.mp H
    obtain ⟨t307, A260, H⟩ := H
    have A26 := Aside0.mk A260
    clear A260
    replace H := Option.bind_eq_some_iff.mp H
    obtain ⟨t308, A270, H⟩ := H
    have A27 := Aside0.mk A270
    clear A270
    replace H := Option.bind_eq_some_iff.mp H
    obtain ⟨t309, A280, H⟩ := H
    have A28 := Aside0.mk A280
    clear A280
    replace H := Option.bind_eq_some_iff.mp H
    obtain ⟨t310, A290, H⟩ := H
    have A29 := Aside0.mk A290
    clear A290
    replace H := Option.bind_eq_some_iff.mp H
    obtain ⟨t311, A300, H⟩ := H
    have A30 := Aside0.mk A300
    clear A300
    simp only [Option.some.injEq, Prod.mk.injEq] at H
    obtain ⟨rfl, rfl, rfl⟩ := H
    go_enter Tryz.func117, Tryz.ntmps117
    try go_wp2_with (first | (refine gB 2 #[.int .i64 a0_0, .int .i64 a0_1, .bool false] 28 ?_; intro gb298 hg w31 BK298 hb; have GW298 := bG HB hg; replace HB := bS HB hb; clear hb hg) | (refine gB 3 #[.int .i64 a1_0, .int .i64 a1_1, .bool false] 28 ?_; intro gb299 hg w32 BK299 hb; have GW299 := bG HB hg; replace HB := bS HB hb; obtain ⟨NB298_299, NB299_298⟩ := bN BK298 hg; replace BK298 := bB BK298 hb; clear hb hg) | (refine gB 4 #[.int .i64 0, .int .i64 0, .bool false] 28 ?_; intro gb300 hg w33 BK300 hb; have GW300 := bG HB hg; replace HB := bS HB hb; obtain ⟨NB298_300, NB300_298⟩ := bN BK298 hg; replace BK298 := bB BK298 hb; obtain ⟨NB299_300, NB300_299⟩ := bN BK299 hg; replace BK299 := bB BK299 hb; clear hb hg; obtain ⟨hnb34, hnc34⟩ := nB NB298_299; obtain ⟨hnb35, hnc35⟩ := nB NB298_300; obtain ⟨hcz36_0, hcz36_1, hcz36_2, hfz36_0, hfz36_1, hfz36_2⟩ := bK3 (w := w33) BK298; obtain ⟨hnb37, hnc37⟩ := nB NB299_300; obtain ⟨hcz38_0, hcz38_1, hcz38_2, hfz38_0, hfz38_1, hfz38_2⟩ := bK3 (w := w33) BK299) | (refine gC (some 17) Tryz.func140 #[.agg #[.int .i64 a0_0, .int .i64 a0_1, .bool false], .agg #[.int .i64 a1_0, .int .i64 a1_1, .bool false]] ?_; (with_reducible refine (spec_l07Slope.calls k a0_0 a0_1 false a1_0 a1_1 false t301 true _ A23.out).mono ?_); rintro e w39 ⟨rfl, hb⟩; refine ⟨_, rfl, ?_⟩; replace BK298 := bB BK298 hb; replace BK299 := bB BK299 hb; replace BK300 := bB BK300 hb; replace HB := bS HB hb; (try clear hb)))
    replace BK298 := Aside0.mk (blk_drew BK298.out)
    replace BK299 := Aside0.mk (blk_drew BK299.out)
    replace BK300 := Aside0.mk (blk_drew BK300.out)
    replace HB := Aside0.mk (below_drew1 HB.out)
    refine start_ (n := 10) (S := fun w' => SP3 w' gb298 (.int .i64 a0_0) (.int .i64 a0_1) (.bool false) (SQ3 w' gb299 (.int .i64 a1_0) (.int .i64 a1_1) (.bool false))) (ds := []) #[false, false, false, false, false, false, false, false, false, false] (by kernel_rfl) rfl rfl (bS3 BK298 (bT3 BK299)) (fun hHeld => ?_); refine with_tabW spec_l07Add.tab8 spec_l07Add.bits8 (fun HT_ HW_ => ?_)
    generalize w39.drew = w40 at BK298 BK299 BK300 HB hHeld ⊢
    refine pI 0 (some 23) HT_.out ?_
    refine pI 1 (some 24) HT_.out ?_
    refine pI 3 (some 26) HT_.out ?_
    refine pI 6 (some 29) HT_.out ?_
    refine tI6 4 (some 27) HT_.out HW_.out hHeld ?_
    refine tI6 7 (some 30) HT_.out HW_.out hHeld ?_
    refine oI 2 (some 25) HT_.out (fun K hK => ?_)
    refine gO Tryz.func112 #[.int .i64 t301, .int .i64 t301] ?_
    with_reducible refine (spec_FpMul.calls t301 t301 t306 _ A25.out).mono ?_
    rintro e w' ⟨rfl, ⟨nd, rfl⟩⟩
    refine ⟨_, rfl, ?_⟩
    refine hK.out _ _ (bS3 BK298 (bT3 BK299)) (fun hHeld => ?_)
    clear hK K
    refine nO (some 25) ?_
    refine oI 5 (some 28) HT_.out (fun K hK => ?_)
    refine gO Tryz.func113 #[.int .i64 t306, .int .i64 a0_0] ?_
    with_reducible refine (spec_FpSub.calls t306 a0_0 t307 _ A26.out).mono ?_
    rintro e w' ⟨rfl, ⟨nd, rfl⟩⟩
    refine ⟨_, rfl, ?_⟩
    refine hK.out _ _ (bS3 BK298 (bT3 BK299)) (fun hHeld => ?_)
    clear hK K
    refine nO (some 28) ?_
    refine oI 8 (some 31) HT_.out (fun K hK => ?_)
    refine gO Tryz.func113 #[.int .i64 t307, .int .i64 a1_0] ?_
    with_reducible refine (spec_FpSub.calls t307 a1_0 t308 _ A27.out).mono ?_
    rintro e w' ⟨rfl, ⟨nd, rfl⟩⟩
    refine ⟨_, rfl, ?_⟩
    refine hK.out _ _ (bS3 BK298 (bT3 BK299)) (fun hHeld => ?_)
    clear hK K
    refine nO (some 31) ?_
    refine pI 9 (some 7) HT_.out ?_
    refine done_ (done_of HT_.out (by kernel_rfl)) ?_
    try go_wp2
    (try simp only [World.drewN_drewN]); (try (rw [drewN_self w40]; generalize hq_ : World.drewN w40 _ = w40; replace BK298 : Aside0 (w40.heap[gb298]? = some (.cells #[.int .i64 a0_0, .int .i64 a0_1, .bool false] 28 (0, 0))) := ⟨by rw [← hq_]; exact (bP BK298)⟩; replace BK299 : Aside0 (w40.heap[gb299]? = some (.cells #[.int .i64 a1_0, .int .i64 a1_1, .bool false] 28 (0, 0))) := ⟨by rw [← hq_]; exact (bP BK299)⟩; replace BK300 : Aside0 (w40.heap[gb300]? = some (.cells #[.int .i64 0, .int .i64 0, .bool false] 28 (0, 0))) := ⟨by rw [← hq_]; exact (bP BK300)⟩; replace HB : Aside0 (Below w.heap.size w w40) := ⟨by rw [← hq_]; exact (bZ HB)⟩; clear hq_))
    replace BK298 := Aside0.mk (blk_drew BK298.out)
    replace BK299 := Aside0.mk (blk_drew BK299.out)
    replace BK300 := Aside0.mk (blk_drew BK300.out)
    replace HB := Aside0.mk (below_drew1 HB.out)
    refine start_ (n := 12) (S := fun w' => SQ3 w' gb298 (.int .i64 a0_0) (.int .i64 a0_1) (.bool false)) (ds := []) #[false, false, false, false, false, false, false, false, false, false, false, false] (by kernel_rfl) rfl rfl (bT3 BK298) (fun hHeld => ?_); refine with_tabW spec_l07Add.tab9 spec_l07Add.bits9 (fun HT_ HW_ => ?_)
    generalize w40.drew = w41 at BK298 BK299 BK300 HB hHeld ⊢
    refine pI 0 (some 32) HT_.out ?_
    refine pI 1 (some 33) HT_.out ?_
    refine pI 2 (some 34) HT_.out ?_
    refine pI 4 (some 36) HT_.out ?_
    refine pI 7 (some 39) HT_.out ?_
    refine tI3 3 (some 35) HT_.out HW_.out hHeld ?_
    refine tI3 8 (some 40) HT_.out HW_.out hHeld ?_
    refine oI 5 (some 37) HT_.out (fun K hK => ?_)
    refine gO Tryz.func113 #[.int .i64 a0_0, .int .i64 t308] ?_
    with_reducible refine (spec_FpSub.calls a0_0 t308 t309 _ A28.out).mono ?_
    rintro e w' ⟨rfl, ⟨nd, rfl⟩⟩
    refine ⟨_, rfl, ?_⟩
    refine hK.out _ _ (bT3 BK298) (fun hHeld => ?_)
    clear hK K
    refine nO (some 37) ?_
    refine oI 6 (some 38) HT_.out (fun K hK => ?_)
    refine gO Tryz.func112 #[.int .i64 t301, .int .i64 t309] ?_
    with_reducible refine (spec_FpMul.calls t301 t309 t310 _ A29.out).mono ?_
    rintro e w' ⟨rfl, ⟨nd, rfl⟩⟩
    refine ⟨_, rfl, ?_⟩
    refine hK.out _ _ (bT3 BK298) (fun hHeld => ?_)
    clear hK K
    refine nO (some 38) ?_
    refine oI 9 (some 41) HT_.out (fun K hK => ?_)
    refine gO Tryz.func113 #[.int .i64 t310, .int .i64 a0_1] ?_
    with_reducible refine (spec_FpSub.calls t310 a0_1 t311 _ A30.out).mono ?_
    rintro e w' ⟨rfl, ⟨nd, rfl⟩⟩
    refine ⟨_, rfl, ?_⟩
    refine hK.out _ _ (bT3 BK298) (fun hHeld => ?_)
    clear hK K
    refine nO (some 41) ?_
    refine pI 10 (some 42) HT_.out ?_
    refine oI 11 (none) HT_.out (fun K hK => ?_)
    have hs42 : w41.cell? ⟨gb300, 0, none⟩ = some (.int .i64 0) := bc BK300 0
    have hfs42 := blk_frozen BK300.out 0
    have hns42_0 := NB298_300.out
    have hns42_1 := NB299_300.out
    have hms42_0 := NB300_298.out
    have hms42_1 := NB300_299.out
    have hs43 : w41.cell? ⟨gb300, 1, none⟩ = some (.int .i64 0) := bc BK300 1
    have hfs43 := blk_frozen BK300.out 1
    have hns43_0 := NB298_300.out
    have hns43_1 := NB299_300.out
    have hms43_0 := NB300_298.out
    have hms43_1 := NB300_299.out
    have hs44 : w41.cell? ⟨gb300, 2, none⟩ = some (.bool false) := bc BK300 2
    have hfs44 := blk_frozen BK300.out 2
    have hns44_0 := NB298_300.out
    have hns44_1 := NB299_300.out
    have hms44_0 := NB300_298.out
    have hms44_1 := NB300_299.out
    refine skip_ (w1 := ?_) (by rfl) rfl ?_ ?_
    rotate_left
    ·go_simp
     rfl
    refine hK.out _ _ ⟨((cell_far (p := ⟨gb300, _, none⟩) NB298_300.out _).trans (((cell_far (p := ⟨gb300, _, none⟩) NB298_300.out _).trans (((cell_far (p := ⟨gb300, _, none⟩) NB298_300.out _).trans (hHeld.1)))))), ((cell_far (p := ⟨gb300, _, none⟩) NB298_300.out _).trans (((cell_far (p := ⟨gb300, _, none⟩) NB298_300.out _).trans (((cell_far (p := ⟨gb300, _, none⟩) NB298_300.out _).trans (hHeld.2.1)))))), ((cell_far (p := ⟨gb300, _, none⟩) NB298_300.out _).trans (((cell_far (p := ⟨gb300, _, none⟩) NB298_300.out _).trans (((cell_far (p := ⟨gb300, _, none⟩) NB298_300.out _).trans (hHeld.2.2))))))⟩ (fun hHeld => ?_)
    clear hK K
    refine done_ (done_of HT_.out (by kernel_rfl)) ?_
    try go_wp2
    refine rC gb300 28 #[.int .i64 t308, .int .i64 t311, .bool false] (bU BK300) Tryz.underlying28 ?_
    exact ⟨rR, bZ HB⟩
   ·replace c24 := Bool.eq_false_iff.mpr c24
    subst c24
    rw [if_neg (show ¬ (false = true) by decide)] at H
    replace H := Option.bind_eq_some_iff.mp H
    obtain ⟨⟨t303, t304, t305⟩, A450, H⟩ := H
    have A45 := Aside0.mk A450
    clear A450
    simp only [Option.some.injEq, Prod.mk.injEq] at H
    obtain ⟨rfl, rfl, rfl⟩ := H
    go_enter Tryz.func117, Tryz.ntmps117
    go_wp2_with (first | (refine gB 2 #[.int .i64 a0_0, .int .i64 a0_1, .bool false] 28 ?_; intro gb298 hg w46 BK298 hb; have GW298 := bG HB hg; replace HB := bS HB hb; clear hb hg) | (refine gB 3 #[.int .i64 a1_0, .int .i64 a1_1, .bool false] 28 ?_; intro gb299 hg w47 BK299 hb; have GW299 := bG HB hg; replace HB := bS HB hb; obtain ⟨NB298_299, NB299_298⟩ := bN BK298 hg; replace BK298 := bB BK298 hb; clear hb hg) | (refine gB 4 #[.int .i64 0, .int .i64 0, .bool false] 28 ?_; intro gb300 hg w48 BK300 hb; have GW300 := bG HB hg; replace HB := bS HB hb; obtain ⟨NB298_300, NB300_298⟩ := bN BK298 hg; replace BK298 := bB BK298 hb; obtain ⟨NB299_300, NB300_299⟩ := bN BK299 hg; replace BK299 := bB BK299 hb; clear hb hg; obtain ⟨hnb49, hnc49⟩ := nB NB298_299; obtain ⟨hnb50, hnc50⟩ := nB NB298_300; obtain ⟨hcz51_0, hcz51_1, hcz51_2, hfz51_0, hfz51_1, hfz51_2⟩ := bK3 (w := w48) BK298; obtain ⟨hnb52, hnc52⟩ := nB NB299_300; obtain ⟨hcz53_0, hcz53_1, hcz53_2, hfz53_0, hfz53_1, hfz53_2⟩ := bK3 (w := w48) BK299) | (refine gC (some 17) Tryz.func140 #[.agg #[.int .i64 a0_0, .int .i64 a0_1, .bool false], .agg #[.int .i64 a1_0, .int .i64 a1_1, .bool false]] ?_; (with_reducible refine (spec_l07Slope.calls k a0_0 a0_1 false a1_0 a1_1 false t301 false _ A23.out).mono ?_); rintro e w54 ⟨rfl, hb⟩; refine ⟨_, rfl, ?_⟩; replace BK298 := bB BK298 hb; replace BK299 := bB BK299 hb; replace BK300 := bB BK300 hb; replace HB := bS HB hb; (try clear hb)) | (refine gC (some 22) Tryz.func81 #[] ?_; (with_reducible refine (spec_l07Zero.calls  t303 t304 t305 _ A45.out).mono ?_); rintro e w55 ⟨rfl, hb⟩; refine ⟨_, rfl, ?_⟩; replace BK298 := bB BK298 hb; replace BK299 := bB BK299 hb; replace BK300 := bB BK300 hb; replace HB := bS HB hb; (try clear hb); obtain ⟨hcz56_0, hcz56_1, hcz56_2, hfz56_0, hfz56_1, hfz56_2⟩ := bK3 (w := w55) BK300))
    refine rC gb300 28 #[.int .i64 t303, .int .i64 t304, .bool t305] (bU BK300) Tryz.underlying28 ?_
    exact ⟨rR, bZ HB⟩
end Go.Proofs.YtkdmplfldfagnaaGreatDoor.Pf
end
section
namespace Go.Proofs.YtkdmplfldfagnaaGreatDoor.Pf
open Go.RowKit Go.Proofs.YtkdmplfldfagnaaGreatDoorW.PrintWords Go.Proofs.YtkdmplfldfagnaaGreatDoorW.PrintLast Go.Proofs.YtkdmplfldfagnaaGreatDoorW.PrintMore
attribute [local go_sem] max2_int min2_int max_two min_two max_three min_three max_four min_four   -- for this text's walks alone
set_option linter.unusedVariables false
set_option linter.unusedSimpArgs false
mutual
def spec_PointTimes.j0 : Nat → Int → Int → Int → Bool → Option (Int × Int × Bool)
 | 0, _, _, _, _ => none
 | k + 1, x5, x319000, x319001, x319002 => (spec_l07Zero.f).bind fun bt322 => (spec_PointTimes.l0 k x5 x319000 x319001 x319002 bt322.1 bt322.2.1 bt322.2.2)
def spec_PointTimes.l0 : Nat → Int → Int → Int → Bool → Int → Int → Bool → Option (Int × Int × Bool)
 | 0, _, _, _, _, _, _, _ => none
 | k + 1, x5, x319000, x319001, x319002, x326000, x326001, x326002 => if x5 > 0 then (if (Int.tmod x5 2) = 1 then ((spec_l07Add.f k x326000 x326001 x326002 x319000 x319001 x319002).bind fun bt326 => ((spec_l07Add.f k x319000 x319001 x319002 x319000 x319001 x319002).bind fun bt329 => (spec_PointTimes.l0 k (wrap64 (Int.tdiv x5 2)) bt329.1 bt329.2.1 bt329.2.2 bt326.1 bt326.2.1 bt326.2.2))) else ((spec_l07Add.f k x319000 x319001 x319002 x319000 x319001 x319002).bind fun bt332 => (spec_PointTimes.l0 k (wrap64 (Int.tdiv x5 2)) bt332.1 bt332.2.1 bt332.2.2 x326000 x326001 x326002))) else (some (x326000, x326001, x326002))
end
def spec_PointTimes.f (k : Nat) (a0 : Int) (a1_0 : Int) (a1_1 : Int) (a1_2 : Bool) : Option (Int × Int × Bool) := (spec_PointOk.f a1_0 a1_1 a1_2).bind fun t314 => (if t314 = true then (if (Int.tmod a0 12108) < 0 then ((spec_PointNeg.f a1_0 a1_1 a1_2).bind fun bt319 => (spec_PointTimes.j0 k (wrap64 (-(Int.tmod a0 12108))) bt319.1 bt319.2.1 bt319.2.2)) else (spec_PointTimes.j0 k (Int.tmod a0 12108) a1_0 a1_1 a1_2)) else ((spec_l07Zero.f).bind fun bt315 => (some (bt315.1, bt315.2.1, bt315.2.2))))
set_option maxHeartbeats 8000000 in
set_option maxRecDepth 100000 in
theorem spec_PointTimes.calls (k : Nat) (a0 : Int) (a1_0 : Int) (a1_1 : Int) (a1_2 : Bool) (r1 : Int) (r2 : Int) (r3 : Bool) (w : World) (h : spec_PointTimes.f k a0 a1_0 a1_1 a1_2 = some (r1, r2, r3)) :
  Calls Tryz.prog 65 #[.int .i64 a0, .agg #[.int .i64 a1_0, .int .i64 a1_1, .bool a1_2]] w fun e w' => e = .returned (.agg #[.int .i64 r1, .int .i64 r2, .bool r3]) ∧ Below w.heap.size w w' := by
 have hu28 := Tryz.underlying28
 have HB := Aside0.mk (Below.refl w.heap.size w)
 have H : ((spec_PointOk.f a1_0 a1_1 a1_2).bind fun t314 => (if t314 = true then (if (Int.tmod a0 12108) < 0 then ((spec_PointNeg.f a1_0 a1_1 a1_2).bind fun bt319 => (spec_PointTimes.j0 k (wrap64 (-(Int.tmod a0 12108))) bt319.1 bt319.2.1 bt319.2.2)) else (spec_PointTimes.j0 k (Int.tmod a0 12108) a1_0 a1_1 a1_2)) else ((spec_l07Zero.f).bind fun bt315 => (some (bt315.1, bt315.2.1, bt315.2.2))))) = some (r1, r2, r3) := h
 clear h
 replace H := Option.bind_eq_some_iff.mp H
 obtain ⟨t314, A30, H⟩ := H
 have A3 := Aside0.mk A30
 clear A30
 by_cases c4 : t314 = true
 ·subst c4
  rw [if_pos rfl] at H
  have HC5 := Aside0.mk H
  clear H
  go_enter Tryz.func65, Tryz.ntmps65
  go_upto_if 16 with (first | (refine gB 3 #[.int .i64 a1_0, .int .i64 a1_1, .bool a1_2] 28 ?_; intro gb312 hg w6 BK312 hb; have GW312 := bG HB hg; replace HB := bS HB hb; clear hb hg) | (refine gB 4 #[.int .i64 0, .int .i64 0, .bool false] 28 ?_; intro gb313 hg w7 BK313 hb; have GW313 := bG HB hg; replace HB := bS HB hb; obtain ⟨NB312_313, NB313_312⟩ := bN BK312 hg; replace BK312 := bB BK312 hb; clear hb hg; obtain ⟨hnb8, hnc8⟩ := nB NB312_313; obtain ⟨hcz9_0, hcz9_1, hcz9_2, hfz9_0, hfz9_1, hfz9_2⟩ := bK3 (w := w7) BK312) | (refine gC (some 9) Tryz.func115 #[.agg #[.int .i64 a1_0, .int .i64 a1_1, .bool a1_2]] ?_; (with_reducible refine (spec_PointOk.calls a1_0 a1_1 a1_2 true _ A3.out).mono ?_); rintro e w10 ⟨rfl, hb⟩; refine ⟨_, rfl, ?_⟩; replace BK312 := bB BK312 hb; replace BK313 := bB BK313 hb; replace HB := bS HB hb; (try clear hb); obtain ⟨hcz11_0, hcz11_1, hcz11_2, hfz11_0, hfz11_1, hfz11_2⟩ := bK3 (w := w10) BK312) | (refine gB 6 #[.int .i64 0, .int .i64 0, .bool false] 28 ?_; intro gb318 hg w12 BK318 hb; have GW318 := bG HB hg; replace HB := bS HB hb; obtain ⟨NB312_318, NB318_312⟩ := bN BK312 hg; replace BK312 := bB BK312 hb; obtain ⟨NB313_318, NB318_313⟩ := bN BK313 hg; replace BK313 := bB BK313 hb; clear hb hg; obtain ⟨hnb13, hnc13⟩ := nB NB318_312; obtain ⟨hnb14, hnc14⟩ := nB NB318_313; obtain ⟨hcz15_0, hcz15_1, hcz15_2, hfz15_0, hfz15_1, hfz15_2⟩ := bK3 (w := w12) BK318))
  (try simp only [Act.put, List.setIfInBounds_toArray, List.set_cons_zero, List.set_cons_succ])
  go_cut [5] (fun v5 wc => ∃ (kq : Nat) (x5_4 : Int) (x319000_4 : Int) (x319001_4 : Int) (x319002_4 : Bool), v5 = .int .i64 x5_4 ∧ Aside0 (spec_PointTimes.j0 kq x5_4 x319000_4 x319001_4 x319002_4 = some (r1, r2, r3)) ∧ Aside0 (kq ≤ k) ∧ Aside0 (wc.heap[gb312]? = some (.cells #[.int .i64 a1_0, .int .i64 a1_1, .bool a1_2] 28 (0, 0))) ∧ Aside0 (wc.heap[gb313]? = some (.cells #[.int .i64 0, .int .i64 0, .bool false] 28 (0, 0))) ∧ Aside0 (wc.heap[gb318]? = some (.cells #[.int .i64 x319000_4, .int .i64 x319001_4, .bool x319002_4] 28 (0, 0))) ∧ Aside0 (Below w.heap.size w wc))
  case first =>
   have H := HC5.out
   clear HC5
   by_cases c16 : (Int.tmod a0 12108) < 0
   ·rw [if_pos c16] at H
    have c16b0 := decide_eq_true c16
    clear c16
    (first | rw [c16b0] | (simp only [i64_w, i32_w]; rw [c16b0]) | rw [c16b1] | skip)
    replace H := Option.bind_eq_some_iff.mp H
    obtain ⟨⟨t319, t320, t321⟩, A170, H⟩ := H
    have A17 := Aside0.mk A170
    clear A170
    have H' := Aside0.mk H
    clear H
    obtain ⟨hnb18, hnc18⟩ := nB NB312_313
    obtain ⟨hnb19, hnc19⟩ := nB NB312_318
    obtain ⟨hcz20_0, hcz20_1, hcz20_2, hfz20_0, hfz20_1, hfz20_2⟩ := bK3 (w := w12) BK312
    go_wp2_with (first | (refine gC (some 20) Tryz.func116 #[.agg #[.int .i64 a1_0, .int .i64 a1_1, .bool a1_2]] ?_; (with_reducible refine (spec_PointNeg.calls a1_0 a1_1 a1_2 t319 t320 t321 _ A17.out).mono ?_); rintro e w21 ⟨rfl, hb⟩; refine ⟨_, rfl, ?_⟩; replace BK312 := bB BK312 hb; replace BK313 := bB BK313 hb; replace BK318 := bV 28 #[.int .i64 a1_0, .int .i64 a1_1, .bool a1_2] BK318 hb; replace HB := bS HB hb; (try clear hb); obtain ⟨hnb22, hnc22⟩ := nB NB318_313; obtain ⟨hcz23_0, hcz23_1, hcz23_2, hfz23_0, hfz23_1, hfz23_2⟩ := bK3 (w := w21) BK318))
    go_meet
    case rel => exact ⟨_, (wrap64 (-(Int.tmod a0 12108))), (t319), (t320), (t321), rS, H', ⟨by first | omega | exact Nat.le_refl _⟩, ⟨bP BK312⟩, ⟨bP BK313⟩, ⟨bU BK318⟩, ⟨bZ HB⟩⟩
   ·rw [if_neg c16] at H
    have c16b0 := decide_eq_false c16
    clear c16
    (first | rw [c16b0] | (simp only [i64_w, i32_w]; rw [c16b0]) | rw [c16b1] | skip)
    have H' := Aside0.mk H
    clear H
    go_wp2
    go_meet
    case rel => exact ⟨_, (Int.tmod a0 12108), (a1_0), (a1_1), (a1_2), rS, H', ⟨by first | omega | exact Nat.le_refl _⟩, ⟨bP BK312⟩, ⟨bP BK313⟩, ⟨bU BK318⟩, ⟨bZ HB⟩⟩
  case rest =>
   clear HC5
   try clear c1
   try clear c2
   try clear p2
   try clear c4
   try clear c6
   try clear p6
   try clear c8
   try clear c11
   try clear c13
   try clear c14
   try clear c16
   try clear c16b0
   try clear c18
   try clear c19
   try clear c22
   try clear hcz11_0
   try clear hcz11_1
   try clear hcz11_2
   try clear hcz15_0
   try clear hcz15_1
   try clear hcz15_2
   try clear hcz20_0
   try clear hcz20_1
   try clear hcz20_2
   try clear hcz23_0
   try clear hcz23_1
   try clear hcz23_2
   try clear hcz9_0
   try clear hcz9_1
   try clear hcz9_2
   try clear hfz11_0
   try clear hfz11_1
   try clear hfz11_2
   try clear hfz15_0
   try clear hfz15_1
   try clear hfz15_2
   try clear hfz20_0
   try clear hfz20_1
   try clear hfz20_2
   try clear hfz23_0
   try clear hfz23_1
   try clear hfz23_2
   try clear hfz9_0
   try clear hfz9_1
   try clear hfz9_2
   obtain ⟨kq, x5_4, x319000_4, x319001_4, x319002_4, rfl, HA, HJ4, BK312, BK313, BK318, HB⟩ := hcut
   cases kq with
   | zero => exact absurd HA.out (by simp [spec_PointTimes.j0])
   | succ kj4 =>
    have H := HA.out
    clear HA
    simp only [spec_PointTimes.j0] at H
    replace H := Option.bind_eq_some_iff.mp H
    obtain ⟨⟨t322, t323, t324⟩, A240, H⟩ := H
    have A24 := Aside0.mk A240
    clear A240
    have H' := Aside0.mk H
    clear H
    go_wp2_with (first | (refine gC (some 21) Tryz.func81 #[] ?_; (with_reducible refine (spec_l07Zero.calls  t322 t323 t324 _ A24.out).mono ?_); rintro e w25 ⟨rfl, hb⟩; refine ⟨_, rfl, ?_⟩; replace BK312 := bB BK312 hb; replace BK313 := bB BK313 hb; replace BK318 := bB BK318 hb; replace HB := bS HB hb; (try clear hb)) | (refine gB 7 #[.int .i64 0, .int .i64 0, .bool false] 28 ?_; intro gb325 hg w26 BK325 hb; have GW325 := bG HB hg; replace HB := bS HB hb; obtain ⟨NB312_325, NB325_312⟩ := bN BK312 hg; replace BK312 := bB BK312 hb; obtain ⟨NB313_325, NB325_313⟩ := bN BK313 hg; replace BK313 := bB BK313 hb; obtain ⟨NB318_325, NB325_318⟩ := bN BK318 hg; replace BK318 := bB BK318 hb; clear hb hg; obtain ⟨hnb27, hnc27⟩ := nB NB325_312; obtain ⟨hnb28, hnc28⟩ := nB NB325_313; obtain ⟨hnb29, hnc29⟩ := nB NB325_318; obtain ⟨hcz30_0, hcz30_1, hcz30_2, hfz30_0, hfz30_1, hfz30_2⟩ := bK3 (w := w26) BK325))
    go_loopg [5] kj4 (fun kq v5 w' => ∃ (x5_2 : Int) (x319000_2 : Int) (x319001_2 : Int) (x319002_2 : Bool) (x326000_2 : Int) (x326001_2 : Int) (x326002_2 : Bool), v5 = .int .i64 x5_2 ∧ Aside0 (spec_PointTimes.l0 kq x5_2 x319000_2 x319001_2 x319002_2 x326000_2 x326001_2 x326002_2 = some (r1, r2, r3)) ∧ Aside0 (kq ≤ kj4) ∧ Aside0 (w'.heap[gb312]? = some (.cells #[.int .i64 a1_0, .int .i64 a1_1, .bool a1_2] 28 (0, 0))) ∧ Aside0 (w'.heap[gb313]? = some (.cells #[.int .i64 0, .int .i64 0, .bool false] 28 (0, 0))) ∧ Aside0 (w'.heap[gb318]? = some (.cells #[.int .i64 x319000_2, .int .i64 x319001_2, .bool x319002_2] 28 (0, 0))) ∧ Aside0 (w'.heap[gb325]? = some (.cells #[.int .i64 x326000_2, .int .i64 x326001_2, .bool x326002_2] 28 (0, 0))) ∧ Aside0 (Below w.heap.size w w'))
    case atStart => exact ⟨(x5_4), (x319000_4), (x319001_4), (x319002_4), (t322), (t323), (t324), rS, H', ⟨Nat.le_refl _⟩, ⟨bP BK312⟩, ⟨bP BK313⟩, ⟨bP BK318⟩, ⟨bU BK325⟩, ⟨bZ HB⟩⟩
    case round =>
     clear H'
     try clear c1
     try clear c2
     try clear p2
     try clear c4
     try clear c6
     try clear p6
     try clear c8
     try clear c11
     try clear c13
     try clear c14
     try clear c16
     try clear c16b0
     try clear c18
     try clear c19
     try clear c22
     try clear c27
     try clear c28
     try clear c29
     try clear hcz11_0
     try clear hcz11_1
     try clear hcz11_2
     try clear hcz15_0
     try clear hcz15_1
     try clear hcz15_2
     try clear hcz20_0
     try clear hcz20_1
     try clear hcz20_2
     try clear hcz23_0
     try clear hcz23_1
     try clear hcz23_2
     try clear hcz30_0
     try clear hcz30_1
     try clear hcz30_2
     try clear hcz9_0
     try clear hcz9_1
     try clear hcz9_2
     try clear hfz11_0
     try clear hfz11_1
     try clear hfz11_2
     try clear hfz15_0
     try clear hfz15_1
     try clear hfz15_2
     try clear hfz20_0
     try clear hfz20_1
     try clear hfz20_2
     try clear hfz23_0
     try clear hfz23_1
     try clear hfz23_2
     try clear hfz30_0
     try clear hfz30_1
     try clear hfz30_2
     try clear hfz9_0
     try clear hfz9_1
     try clear hfz9_2
     try clear p2
     try clear p6
     obtain ⟨x5_2, x319000_2, x319001_2, x319002_2, x326000_2, x326001_2, x326002_2, rfl, HA, HK2, BK312, BK313, BK318, BK325, HB⟩ := hrel
     cases gk with
     | zero => exact absurd HA.out (by simp [spec_PointTimes.l0])
     | succ k2 =>
      have H := HA.out
      clear HA
      simp only [spec_PointTimes.l0] at H
      by_cases c31 : x5_2 > 0
      ·rw [if_pos c31] at H
       have c31b0 := decide_eq_true c31
       clear c31
       by_cases c32 : (Int.tmod x5_2 2) = 1
       ·rw [if_pos c32] at H
        have c32b0 : ((Int.tmod x5_2 2) == 1) = true := beq_iff_eq.mpr c32
        have c32b1 : ((Int.tmod x5_2 2) != 1) = false := bne_eq_false_iff_eq.mpr c32
        clear c32
        replace H := Option.bind_eq_some_iff.mp H
        obtain ⟨⟨t326, t327, t328⟩, A330, H⟩ := H
        have A33 := Aside0.mk A330
        clear A330
        replace H := Option.bind_eq_some_iff.mp H
        obtain ⟨⟨t329, t330, t331⟩, A340, H⟩ := H
        have A34 := Aside0.mk A340
        clear A340
        have H' := Aside0.mk H
        clear H
        obtain ⟨hnb35, hnc35⟩ := nB NB325_312
        obtain ⟨hnb36, hnc36⟩ := nB NB325_313
        obtain ⟨hnb37, hnc37⟩ := nB NB325_318
        obtain ⟨hcz38_0, hcz38_1, hcz38_2, hfz38_0, hfz38_1, hfz38_2⟩ := bK3 (w := wr) BK325
        obtain ⟨hnb39, hnc39⟩ := nB NB318_312
        obtain ⟨hnb40, hnc40⟩ := nB NB318_313
        obtain ⟨hcz41_0, hcz41_1, hcz41_2, hfz41_0, hfz41_1, hfz41_2⟩ := bK3 (w := wr) BK318
        go_wp2_with (first | (refine gC (some 29) Tryz.func117 #[.agg #[.int .i64 x326000_2, .int .i64 x326001_2, .bool x326002_2], .agg #[.int .i64 x319000_2, .int .i64 x319001_2, .bool x319002_2]] ?_; (with_reducible refine (spec_l07Add.calls k2 x326000_2 x326001_2 x326002_2 x319000_2 x319001_2 x319002_2 t326 t327 t328 _ A33.out).mono ?_); rintro e w42 ⟨rfl, hb⟩; refine ⟨_, rfl, ?_⟩; replace BK312 := bB BK312 hb; replace BK313 := bB BK313 hb; replace BK318 := bB BK318 hb; replace BK325 := bB BK325 hb; replace HB := bS HB hb; (try clear hb); obtain ⟨hcz43_0, hcz43_1, hcz43_2, hfz43_0, hfz43_1, hfz43_2⟩ := bK3 (w := w42) BK325; obtain ⟨hcz44_0, hcz44_1, hcz44_2, hfz44_0, hfz44_1, hfz44_2⟩ := bK3 (w := w42) BK318) | (refine gC (some 32) Tryz.func117 #[.agg #[.int .i64 x319000_2, .int .i64 x319001_2, .bool x319002_2], .agg #[.int .i64 x319000_2, .int .i64 x319001_2, .bool x319002_2]] ?_; (with_reducible refine (spec_l07Add.calls k2 x319000_2 x319001_2 x319002_2 x319000_2 x319001_2 x319002_2 t329 t330 t331 _ A34.out).mono ?_); rintro e w45 ⟨rfl, hb⟩; refine ⟨_, rfl, ?_⟩; replace BK312 := bB BK312 hb; replace BK313 := bB BK313 hb; replace BK318 := bB BK318 hb; replace BK325 := bV 28 #[.int .i64 t326, .int .i64 t327, .bool t328] BK325 hb; replace HB := bS HB hb; (try clear hb); obtain ⟨hcz46_0, hcz46_1, hcz46_2, hfz46_0, hfz46_1, hfz46_2⟩ := bK3 (w := w45) BK318))
        go_roundg k2
        case measure => have := HJ4.out; have := HK2.out; omega
        case rel => exact ⟨(wrap64 (Int.tdiv x5_2 2)), (t329), (t330), (t331), (t326), (t327), (t328), rS, H', ⟨by have := HJ4.out; have := HK2.out; omega⟩, ⟨bP BK312⟩, ⟨bP BK313⟩, ⟨bU BK318⟩, ⟨bP BK325⟩, ⟨bZ HB⟩⟩
       ·rw [if_neg c32] at H
        have c32b0 : ((Int.tmod x5_2 2) == 1) = false := beq_eq_false_iff_ne.mpr c32
        have c32b1 : ((Int.tmod x5_2 2) != 1) = true := bne_iff_ne.mpr c32
        replace H := Option.bind_eq_some_iff.mp H
        obtain ⟨⟨t332, t333, t334⟩, A470, H⟩ := H
        have A47 := Aside0.mk A470
        clear A470
        have H' := Aside0.mk H
        clear H
        obtain ⟨hnb48, hnc48⟩ := nB NB318_312
        obtain ⟨hnb49, hnc49⟩ := nB NB318_313
        obtain ⟨hnb50, hnc50⟩ := nB NB318_325
        obtain ⟨hcz51_0, hcz51_1, hcz51_2, hfz51_0, hfz51_1, hfz51_2⟩ := bK3 (w := wr) BK318
        go_wp2_with (first | (refine gC (some 32) Tryz.func117 #[.agg #[.int .i64 x319000_2, .int .i64 x319001_2, .bool x319002_2], .agg #[.int .i64 x319000_2, .int .i64 x319001_2, .bool x319002_2]] ?_; (with_reducible refine (spec_l07Add.calls k2 x319000_2 x319001_2 x319002_2 x319000_2 x319001_2 x319002_2 t332 t333 t334 _ A47.out).mono ?_); rintro e w52 ⟨rfl, hb⟩; refine ⟨_, rfl, ?_⟩; replace BK312 := bB BK312 hb; replace BK313 := bB BK313 hb; replace BK318 := bB BK318 hb; replace BK325 := bB BK325 hb; replace HB := bS HB hb; (try clear hb); obtain ⟨hcz53_0, hcz53_1, hcz53_2, hfz53_0, hfz53_1, hfz53_2⟩ := bK3 (w := w52) BK318))
        go_roundg k2
        case measure => have := HJ4.out; have := HK2.out; omega
        case rel => exact ⟨(wrap64 (Int.tdiv x5_2 2)), (t332), (t333), (t334), (x326000_2), (x326001_2), (x326002_2), rS, H', ⟨by have := HJ4.out; have := HK2.out; omega⟩, ⟨bP BK312⟩, ⟨bP BK313⟩, ⟨bU BK318⟩, ⟨bP BK325⟩, ⟨bZ HB⟩⟩
      ·rw [if_neg c31] at H
       have c31b0 := decide_eq_false c31
       clear c31
       simp only [Option.some.injEq, Prod.mk.injEq] at H
       obtain ⟨rfl, rfl, rfl⟩ := H
       obtain ⟨hnb54, hnc54⟩ := nB NB325_312
       obtain ⟨hnb55, hnc55⟩ := nB NB325_313
       obtain ⟨hnb56, hnc56⟩ := nB NB325_318
       obtain ⟨hcz57_0, hcz57_1, hcz57_2, hfz57_0, hfz57_1, hfz57_2⟩ := bK3 (w := wr) BK325
       obtain ⟨hnb58, hnc58⟩ := nB NB313_312
       obtain ⟨hnb59, hnc59⟩ := nB NB313_318
       obtain ⟨hcz60_0, hcz60_1, hcz60_2, hfz60_0, hfz60_1, hfz60_2⟩ := bK3 (w := wr) BK313
       go_wp2
       refine rC gb313 28 #[.int .i64 x326000_2, .int .i64 x326001_2, .bool x326002_2] (bU BK313) Tryz.underlying28 ?_
       exact ⟨rR, bZ HB⟩
 ·replace c4 := Bool.eq_false_iff.mpr c4
  subst c4
  rw [if_neg (show ¬ (false = true) by decide)] at H
  replace H := Option.bind_eq_some_iff.mp H
  obtain ⟨⟨t315, t316, t317⟩, A610, H⟩ := H
  have A61 := Aside0.mk A610
  clear A610
  simp only [Option.some.injEq, Prod.mk.injEq] at H
  obtain ⟨rfl, rfl, rfl⟩ := H
  go_enter Tryz.func65, Tryz.ntmps65
  go_wp2_with (first | (refine gB 3 #[.int .i64 a1_0, .int .i64 a1_1, .bool a1_2] 28 ?_; intro gb312 hg w62 BK312 hb; have GW312 := bG HB hg; replace HB := bS HB hb; clear hb hg) | (refine gB 4 #[.int .i64 0, .int .i64 0, .bool false] 28 ?_; intro gb313 hg w63 BK313 hb; have GW313 := bG HB hg; replace HB := bS HB hb; obtain ⟨NB312_313, NB313_312⟩ := bN BK312 hg; replace BK312 := bB BK312 hb; clear hb hg; obtain ⟨hnb64, hnc64⟩ := nB NB312_313; obtain ⟨hcz65_0, hcz65_1, hcz65_2, hfz65_0, hfz65_1, hfz65_2⟩ := bK3 (w := w63) BK312) | (refine gC (some 9) Tryz.func115 #[.agg #[.int .i64 a1_0, .int .i64 a1_1, .bool a1_2]] ?_; (with_reducible refine (spec_PointOk.calls a1_0 a1_1 a1_2 false _ A3.out).mono ?_); rintro e w66 ⟨rfl, hb⟩; refine ⟨_, rfl, ?_⟩; replace BK312 := bB BK312 hb; replace BK313 := bB BK313 hb; replace HB := bS HB hb; (try clear hb)) | (refine gC (some 11) Tryz.func81 #[] ?_; (with_reducible refine (spec_l07Zero.calls  t315 t316 t317 _ A61.out).mono ?_); rintro e w67 ⟨rfl, hb⟩; refine ⟨_, rfl, ?_⟩; replace BK312 := bB BK312 hb; replace BK313 := bB BK313 hb; replace HB := bS HB hb; (try clear hb); obtain ⟨hcz68_0, hcz68_1, hcz68_2, hfz68_0, hfz68_1, hfz68_2⟩ := bK3 (w := w67) BK313))
  refine rC gb313 28 #[.int .i64 t315, .int .i64 t316, .bool t317] (bU BK313) Tryz.underlying28 ?_
  exact ⟨rR, bZ HB⟩
end Go.Proofs.YtkdmplfldfagnaaGreatDoor.Pf
end
section
namespace Go.Proofs.YtkdmplfldfagnaaGreatDoor.Pf
open Go.RowKit Go.Proofs.YtkdmplfldfagnaaGreatDoorW.PrintWords Go.Proofs.YtkdmplfldfagnaaGreatDoorW.PrintLast Go.Proofs.YtkdmplfldfagnaaGreatDoorW.PrintMore
attribute [local go_sem] max2_int min2_int max_two min_two max_three min_three max_four min_four   -- for this text's walks alone
set_option linter.unusedVariables false
set_option linter.unusedSimpArgs false
def spec_Base.f  : Option (Int × Int × Bool) := some (8445, 859, false)
set_option maxHeartbeats 8000000 in
set_option maxRecDepth 100000 in
theorem spec_Base.calls  (r1 : Int) (r2 : Int) (r3 : Bool) (w : World) (h : spec_Base.f  = some (r1, r2, r3)) :
  Calls Tryz.prog 66 #[] w fun e w' => e = .returned (.agg #[.int .i64 r1, .int .i64 r2, .bool r3]) ∧ Below w.heap.size w w' := by
 have hu28 := Tryz.underlying28
 have HB := Aside0.mk (Below.refl w.heap.size w)
 have H : (some (8445, 859, false)) = some (r1, r2, r3) := h
 clear h
 simp only [Option.some.injEq, Prod.mk.injEq] at H
 obtain ⟨rfl, rfl, rfl⟩ := H
 go_enter Tryz.func66, Tryz.ntmps66
 go_wp2_with (first | (refine gB 0 #[.int .i64 0, .int .i64 0, .bool false] 28 ?_; intro gb335 hg w1 BK335 hb; have GW335 := bG HB hg; replace HB := bS HB hb; clear hb hg; obtain ⟨hcz2_0, hcz2_1, hcz2_2, hfz2_0, hfz2_1, hfz2_2⟩ := bK3 (w := w1) BK335))
 refine rC gb335 28 #[.int .i64 8445, .int .i64 859, .bool false] (bU BK335) Tryz.underlying28 ?_
 exact ⟨rR, bZ HB⟩
def spec_KeyOf.f (k : Nat) (a0 : Int) : Option (Int × Int × Bool) := (spec_ScOf.f a0).bind fun t337 => ((spec_Base.f).bind fun bt338 => ((spec_PointTimes.f k t337 bt338.1 bt338.2.1 bt338.2.2).bind fun bt341 => (some (bt341.1, bt341.2.1, bt341.2.2))))
set_option maxHeartbeats 8000000 in
set_option maxRecDepth 100000 in
theorem spec_KeyOf.calls (k : Nat) (a0 : Int) (r1 : Int) (r2 : Int) (r3 : Bool) (w : World) (h : spec_KeyOf.f k a0 = some (r1, r2, r3)) :
  Calls Tryz.prog 51 #[.int .i64 a0] w fun e w' => e = .returned (.agg #[.int .i64 r1, .int .i64 r2, .bool r3]) ∧ Below w.heap.size w w' := by
 have hu28 := Tryz.underlying28
 have HB := Aside0.mk (Below.refl w.heap.size w)
 have H : ((spec_ScOf.f a0).bind fun t337 => ((spec_Base.f).bind fun bt338 => ((spec_PointTimes.f k t337 bt338.1 bt338.2.1 bt338.2.2).bind fun bt341 => (some (bt341.1, bt341.2.1, bt341.2.2))))) = some (r1, r2, r3) := h
 clear h
 replace H := Option.bind_eq_some_iff.mp H
 obtain ⟨t337, A20, H⟩ := H
 have A2 := Aside0.mk A20
 clear A20
 replace H := Option.bind_eq_some_iff.mp H
 obtain ⟨⟨t338, t339, t340⟩, A30, H⟩ := H
 have A3 := Aside0.mk A30
 clear A30
 replace H := Option.bind_eq_some_iff.mp H
 obtain ⟨⟨t341, t342, t343⟩, A40, H⟩ := H
 have A4 := Aside0.mk A40
 clear A40
 simp only [Option.some.injEq, Prod.mk.injEq] at H
 obtain ⟨rfl, rfl, rfl⟩ := H
 go_enter Tryz.func51, Tryz.ntmps51
 go_wp2_with (first | (refine gB 2 #[.int .i64 0, .int .i64 0, .bool false] 28 ?_; intro gb336 hg w5 BK336 hb; have GW336 := bG HB hg; replace HB := bS HB hb; clear hb hg) | (refine gC (some 4) Tryz.func16 #[.int .i64 a0] ?_; (with_reducible refine (spec_ScOf.calls a0 t337 _ A2.out).mono ?_); rintro e w' ⟨rfl, ⟨nd, rfl⟩⟩; refine ⟨_, rfl, ?_⟩; (try simp only [World.drewN_drewN]); (try (rw [drewN_self w5]; generalize hq_ : World.drewN w5 _ = w5; replace BK336 : Aside0 (w5.heap[gb336]? = some (.cells #[.int .i64 0, .int .i64 0, .bool false] 28 (0, 0))) := ⟨by rw [← hq_]; exact (bP BK336)⟩; replace HB : Aside0 (Below w.heap.size w w5) := ⟨by rw [← hq_]; exact (bZ HB)⟩; clear hq_))) | (refine gC (some 5) Tryz.func66 #[] ?_; (with_reducible refine (spec_Base.calls  t338 t339 t340 _ A3.out).mono ?_); rintro e w6 ⟨rfl, hb⟩; refine ⟨_, rfl, ?_⟩; replace BK336 := bB BK336 hb; replace HB := bS HB hb; (try clear hb)) | (refine gC (some 6) Tryz.func65 #[.int .i64 t337, .agg #[.int .i64 t338, .int .i64 t339, .bool t340]] ?_; (with_reducible refine (spec_PointTimes.calls k t337 t338 t339 t340 t341 t342 t343 _ A4.out).mono ?_); rintro e w7 ⟨rfl, hb⟩; refine ⟨_, rfl, ?_⟩; replace BK336 := bB BK336 hb; replace HB := bS HB hb; (try clear hb); obtain ⟨hcz8_0, hcz8_1, hcz8_2, hfz8_0, hfz8_1, hfz8_2⟩ := bK3 (w := w7) BK336))
 refine rC gb336 28 #[.int .i64 t341, .int .i64 t342, .bool t343] (bU BK336) Tryz.underlying28 ?_
 exact ⟨rR, bZ HB⟩
def spec_Digest.f (a0 : ByteArray) : Option ByteArray := Kp.spec_Digest.f a0
theorem spec_Digest.calls (a0 : ByteArray) (r : ByteArray) (w : World) (h : spec_Digest.f a0 = some r) :
  Calls Tryz.prog 61 #[.string a0] w fun e w' => e = .returned (.string r) ∧ Below w.heap.size w w' :=
 Kp.spec_Digest.calls a0 r w h
def spec_FpRoot.f (k : Nat) (a0 : Int) : Option (Int × Bool) := (spec_FpPow.f k a0 3027).bind fun t344 => ((spec_FpMul.f t344 t344).bind fun t345 => ((spec_FpOf.f a0).bind fun t346 => (if t345 = t346 then ((spec_FpSub.f 0 t344).bind fun t347 => (if t347 < t344 then ((spec_FpSub.f 0 t344).bind fun t348 => (some (t348, true))) else (some (t344, true)))) else (some (0, false)))))
set_option maxHeartbeats 8000000 in
set_option maxRecDepth 100000 in
theorem spec_FpRoot.calls (k : Nat) (a0 : Int) (r1 : Int) (r2 : Bool) (w : World) (h : spec_FpRoot.f k a0 = some (r1, r2)) :
  Calls Tryz.prog 63 #[.int .i64 a0] w fun e w' => e = .returned (.tuple #[.int .i64 r1, .bool r2]) ∧ Drawn0 w w' := by
 have H : ((spec_FpPow.f k a0 3027).bind fun t344 => ((spec_FpMul.f t344 t344).bind fun t345 => ((spec_FpOf.f a0).bind fun t346 => (if t345 = t346 then ((spec_FpSub.f 0 t344).bind fun t347 => (if t347 < t344 then ((spec_FpSub.f 0 t344).bind fun t348 => (some (t348, true))) else (some (t344, true)))) else (some (0, false)))))) = some (r1, r2) := h
 clear h
 replace H := Option.bind_eq_some_iff.mp H
 obtain ⟨t344, A20, H⟩ := H
 have A2 := Aside0.mk A20
 clear A20
 replace H := Option.bind_eq_some_iff.mp H
 obtain ⟨t345, A30, H⟩ := H
 have A3 := Aside0.mk A30
 clear A30
 replace H := Option.bind_eq_some_iff.mp H
 obtain ⟨t346, A40, H⟩ := H
 have A4 := Aside0.mk A40
 clear A40
 by_cases c5 : t345 = t346
 ·rw [if_pos c5] at H
  have c5b0 : (t345 == t346) = true := beq_iff_eq.mpr c5
  have c5b1 : (t345 != t346) = false := bne_eq_false_iff_eq.mpr c5
  clear c5
  replace H := Option.bind_eq_some_iff.mp H
  obtain ⟨t347, A60, H⟩ := H
  have A6 := Aside0.mk A60
  clear A60
  by_cases c7 : t347 < t344
  ·rw [if_pos c7] at H
   have c7b0 := decide_eq_true c7
   clear c7
   replace H := Option.bind_eq_some_iff.mp H
   obtain ⟨t348, A80, H⟩ := H
   have A8 := Aside0.mk A80
   clear A80
   have et348_ : t347 = t348 := Option.some.inj (A6.out.symm.trans A8.out)
   subst et348_
   simp only [Option.some.injEq, Prod.mk.injEq] at H
   obtain ⟨rfl, rfl⟩ := H
   go_enter Tryz.func63, Tryz.ntmps63
   go_wp2_with (first | (refine gC (some 6) Tryz.func111 #[.int .i64 a0, .int .i64 3027] ?_; (with_reducible refine (spec_FpPow.calls k a0 3027 t344 _ A2.out).mono ?_); rintro e w' ⟨rfl, ⟨nd, rfl⟩⟩; refine ⟨_, rfl, ?_⟩) | (refine gC (some 9) Tryz.func112 #[.int .i64 t344, .int .i64 t344] ?_; (with_reducible refine (spec_FpMul.calls t344 t344 t345 _ A3.out).mono ?_); rintro e w' ⟨rfl, ⟨nd, rfl⟩⟩; refine ⟨_, rfl, ?_⟩) | (refine gC (some 11) Tryz.func62 #[.int .i64 a0] ?_; (with_reducible refine (spec_FpOf.calls a0 t346 _ A4.out).mono ?_); rintro e w' ⟨rfl, ⟨nd, rfl⟩⟩; refine ⟨_, rfl, ?_⟩) | (refine gC (some 14) Tryz.func113 #[.int .i64 0, .int .i64 t344] ?_; (with_reducible refine (spec_FpSub.calls 0 t344 t347 _ A6.out).mono ?_); rintro e w' ⟨rfl, ⟨nd, rfl⟩⟩; refine ⟨_, rfl, ?_⟩) | (refine gC (some 18) Tryz.func113 #[.int .i64 0, .int .i64 t344] ?_; (with_reducible refine (spec_FpSub.calls 0 t344 t347 _ A8.out).mono ?_); rintro e w' ⟨rfl, ⟨nd, rfl⟩⟩; refine ⟨_, rfl, ?_⟩))
   go_ret2
   exact ⟨rS, rD⟩
  ·rw [if_neg c7] at H
   have c7b0 := decide_eq_false c7
   clear c7
   simp only [Option.some.injEq, Prod.mk.injEq] at H
   obtain ⟨rfl, rfl⟩ := H
   go_enter Tryz.func63, Tryz.ntmps63
   go_wp2_with (first | (refine gC (some 6) Tryz.func111 #[.int .i64 a0, .int .i64 3027] ?_; (with_reducible refine (spec_FpPow.calls k a0 3027 t344 _ A2.out).mono ?_); rintro e w' ⟨rfl, ⟨nd, rfl⟩⟩; refine ⟨_, rfl, ?_⟩) | (refine gC (some 9) Tryz.func112 #[.int .i64 t344, .int .i64 t344] ?_; (with_reducible refine (spec_FpMul.calls t344 t344 t345 _ A3.out).mono ?_); rintro e w' ⟨rfl, ⟨nd, rfl⟩⟩; refine ⟨_, rfl, ?_⟩) | (refine gC (some 11) Tryz.func62 #[.int .i64 a0] ?_; (with_reducible refine (spec_FpOf.calls a0 t346 _ A4.out).mono ?_); rintro e w' ⟨rfl, ⟨nd, rfl⟩⟩; refine ⟨_, rfl, ?_⟩) | (refine gC (some 14) Tryz.func113 #[.int .i64 0, .int .i64 t344] ?_; (with_reducible refine (spec_FpSub.calls 0 t344 t347 _ A6.out).mono ?_); rintro e w' ⟨rfl, ⟨nd, rfl⟩⟩; refine ⟨_, rfl, ?_⟩))
   go_ret2
   exact ⟨rS, rD⟩
 ·rw [if_neg c5] at H
  have c5b0 : (t345 == t346) = false := beq_eq_false_iff_ne.mpr c5
  have c5b1 : (t345 != t346) = true := bne_iff_ne.mpr c5
  simp only [Option.some.injEq, Prod.mk.injEq] at H
  obtain ⟨rfl, rfl⟩ := H
  go_enter Tryz.func63, Tryz.ntmps63
  go_wp2_with (first | (refine gC (some 6) Tryz.func111 #[.int .i64 a0, .int .i64 3027] ?_; (with_reducible refine (spec_FpPow.calls k a0 3027 t344 _ A2.out).mono ?_); rintro e w' ⟨rfl, ⟨nd, rfl⟩⟩; refine ⟨_, rfl, ?_⟩) | (refine gC (some 9) Tryz.func112 #[.int .i64 t344, .int .i64 t344] ?_; (with_reducible refine (spec_FpMul.calls t344 t344 t345 _ A3.out).mono ?_); rintro e w' ⟨rfl, ⟨nd, rfl⟩⟩; refine ⟨_, rfl, ?_⟩) | (refine gC (some 11) Tryz.func62 #[.int .i64 a0] ?_; (with_reducible refine (spec_FpOf.calls a0 t346 _ A4.out).mono ?_); rintro e w' ⟨rfl, ⟨nd, rfl⟩⟩; refine ⟨_, rfl, ?_⟩))
  go_ret2
  exact ⟨rS, rD⟩
def spec_HashPoint.l0 : Nat → ByteArray → Int → Option (Int × Int × Bool)
 | 0, _, _ => none
 | k + 1, x0, x3 => if x3 < 64 then ((some (([(x3) % 256] : List Int) : List Int)).bind fun y353 => (if (strOfNums y353).size + x0.size ≤ 9223372036854775807 then ((spec_Digest.f ((strOfNums y353) ++ x0)).bind fun t356 => (if 0 < (t356.size : Int) then (if 1 < (t356.size : Int) then (if 2 < (t356.size : Int) then (if 3 < (t356.size : Int) then ((spec_FpOf.f (Go.bits .or .i64 (Go.bits .or .i64 (Go.bits .or .i64 (wrap64 ((wrap64 (bt t356 0)) * 16777216)) (wrap64 ((wrap64 (bt t356 1)) * 65536))) (wrap64 ((wrap64 (bt t356 2)) * 256))) (wrap64 (bt t356 3)))).bind fun t357 => ((spec_l07Right.f t357).bind fun t358 => ((spec_FpRoot.f k t358).bind fun bt359 => ((spec_PointTimes.f k 12 t357 bt359.1 false).bind fun bt361 => (if bt359.2 = true then (if bt361.2.2 = true then (spec_HashPoint.l0 k x0 (wrap64 (x3 + 1))) else (some (bt361.1, bt361.2.1, bt361.2.2))) else (spec_HashPoint.l0 k x0 (wrap64 (x3 + 1)))))))) else (none)) else (none)) else (none)) else (none))) else (none))) else ((spec_Base.f).bind fun bt350 => (some (bt350.1, bt350.2.1, bt350.2.2)))
def spec_HashPoint.f (k : Nat) (a0 : ByteArray) : Option (Int × Int × Bool) := spec_HashPoint.l0 k a0 0
set_option maxHeartbeats 8000000 in
set_option maxRecDepth 100000 in
theorem spec_HashPoint.calls (k : Nat) (a0 : ByteArray) (r1 : Int) (r2 : Int) (r3 : Bool) (w : World) (h : spec_HashPoint.f k a0 = some (r1, r2, r3)) :
  Calls Tryz.prog 22 #[.string a0] w fun e w' => e = .returned (.agg #[.int .i64 r1, .int .i64 r2, .bool r3]) ∧ Below w.heap.size w w' := by
 have hu28 := Tryz.underlying28
 have HB := Aside0.mk (Below.refl w.heap.size w)
 have H : (spec_HashPoint.l0 k a0 0) = some (r1, r2, r3) := h
 clear h
 have H' := Aside0.mk H
 clear H
 go_enter Tryz.func22, Tryz.ntmps22
 go_wp2_with (first | (refine gB 2 #[.int .i64 0, .int .i64 0, .bool false] 28 ?_; intro gb349 hg w2 BK349 hb; have GW349 := bG HB hg; replace HB := bS HB hb; clear hb hg))
 repeat (go_quiet (first | (refine gB 2 #[.int .i64 0, .int .i64 0, .bool false] 28 ?_; intro gb349 hg w2 BK349 hb; have GW349 := bG HB hg; replace HB := bS HB hb; clear hb hg)); try go_wp2_with (first | (refine gB 2 #[.int .i64 0, .int .i64 0, .bool false] 28 ?_; intro gb349 hg w2 BK349 hb; have GW349 := bG HB hg; replace HB := bS HB hb; clear hb hg)))
 go_loopg [3] k (fun kq v3 w' => ∃ (x3_1 : Int) (x350000_1 : Int) (x350001_1 : Int) (x350002_1 : Bool), v3 = .int .i64 x3_1 ∧ Aside0 (spec_HashPoint.l0 kq a0 x3_1 = some (r1, r2, r3)) ∧ Aside0 (kq ≤ k) ∧ Aside0 (w'.heap[gb349]? = some (.cells #[.int .i64 x350000_1, .int .i64 x350001_1, .bool x350002_1] 28 (0, 0))) ∧ Aside0 (Below w.heap.size w w'))
 case atStart => exact ⟨(0), (0), (0), (false), rS, H', ⟨Nat.le_refl _⟩, ⟨bP BK349⟩, ⟨bZ HB⟩⟩
 case round =>
  clear H'
  try clear c2
  try clear p2
  obtain ⟨x3_1, x350000_1, x350001_1, x350002_1, rfl, HA, HK1, BK349, HB⟩ := hrel
  cases gk with
  | zero => exact absurd HA.out (by simp [spec_HashPoint.l0])
  | succ k1 =>
   have H := HA.out
   clear HA
   simp only [spec_HashPoint.l0] at H
   by_cases c3 : x3_1 < 64
   ·rw [if_pos c3] at H
    have c3b0 := decide_eq_true c3
    clear c3
    obtain ⟨y353, hy353⟩ : ∃ y_ : List Int, y_ = (([(x3_1) % 256] : List Int)) := ⟨_, rfl⟩
    replace H : (if (strOfNums y353).size + a0.size ≤ 9223372036854775807 then ((spec_Digest.f ((strOfNums y353) ++ a0)).bind fun t356 => (if 0 < (t356.size : Int) then (if 1 < (t356.size : Int) then (if 2 < (t356.size : Int) then (if 3 < (t356.size : Int) then ((spec_FpOf.f (Go.bits .or .i64 (Go.bits .or .i64 (Go.bits .or .i64 (wrap64 ((wrap64 (bt t356 0)) * 16777216)) (wrap64 ((wrap64 (bt t356 1)) * 65536))) (wrap64 ((wrap64 (bt t356 2)) * 256))) (wrap64 (bt t356 3)))).bind fun t357 => ((spec_l07Right.f t357).bind fun t358 => ((spec_FpRoot.f k1 t358).bind fun bt359 => ((spec_PointTimes.f k1 12 t357 bt359.1 false).bind fun bt361 => (if bt359.2 = true then (if bt361.2.2 = true then (spec_HashPoint.l0 k1 a0 (wrap64 (x3_1 + 1))) else (some (bt361.1, bt361.2.1, bt361.2.2))) else (spec_HashPoint.l0 k1 a0 (wrap64 (x3_1 + 1)))))))) else (none)) else (none)) else (none)) else (none))) else (none)) = some (r1, r2, r3) := by first | (rw [hy353]; with_reducible exact H) | (have H2_ := (Option.bind_some _ _).symm.trans H; rw [hy353]; with_reducible exact H2_) | (have H2_ := (Option.bind_some _ _).symm.trans H; with_reducible exact H2_) | with_reducible exact H | (rw [hy353]; exact H) | exact H
    have Ny353 := Aside0.mk hy353
    clear hy353
    by_cases c4 : (strOfNums y353).size + a0.size ≤ 9223372036854775807
    ·rw [if_pos c4] at H
     have c4b0 := eq_true c4
     have c4b1 := decide_eq_true c4
     try have c4b2 : (9223372036854775807 < (strOfNums y353).size + a0.size) = False := eq_false (Nat.not_lt.2 c4)
     try simp only [ByteArray.size_append] at c4b2
     replace H := Option.bind_eq_some_iff.mp H
     obtain ⟨t356, A50, H⟩ := H
     have A5 := Aside0.mk A50
     clear A50
     by_cases c6 : 0 < (t356.size : Int)
     ·rw [if_pos c6] at H
      have c6b0 := decide_eq_true c6
      have c6b1 : decide (0 < t356.size) = true := decide_eq_true (by omega)
      clear c6
      by_cases c8 : 1 < (t356.size : Int)
      ·rw [if_pos c8] at H
       have c8b0 := decide_eq_true c8
       have c8b1 : decide (1 < t356.size) = true := decide_eq_true (by omega)
       clear c8
       by_cases c10 : 2 < (t356.size : Int)
       ·rw [if_pos c10] at H
        have c10b0 := decide_eq_true c10
        have c10b1 : decide (2 < t356.size) = true := decide_eq_true (by omega)
        clear c10
        by_cases c12 : 3 < (t356.size : Int)
        ·rw [if_pos c12] at H
         have c12b0 := decide_eq_true c12
         have c12b1 : decide (3 < t356.size) = true := decide_eq_true (by omega)
         clear c12
         replace H := Option.bind_eq_some_iff.mp H
         obtain ⟨t357, A140, H⟩ := H
         have A14 := Aside0.mk A140
         clear A140
         replace H := Option.bind_eq_some_iff.mp H
         obtain ⟨t358, A150, H⟩ := H
         have A15 := Aside0.mk A150
         clear A150
         replace H := Option.bind_eq_some_iff.mp H
         obtain ⟨⟨t359, t360⟩, A160, H⟩ := H
         have A16 := Aside0.mk A160
         clear A160
         replace H := Option.bind_eq_some_iff.mp H
         obtain ⟨⟨t361, t362, t363⟩, A170, H⟩ := H
         have A17 := Aside0.mk A170
         clear A170
         by_cases c18 : t360 = true
         ·subst c18
          rw [if_pos rfl] at H
          by_cases c19 : t363 = true
          ·subst c19
           rw [if_pos rfl] at H
           have H' := Aside0.mk H
           clear H
           go_wp2_with (first | ((with_reducible refine gate_dst (N := 15) rfl ?_); refine Kd.R_lit (Kd.int .u8) _ 5 ?hg (N := 15) ?hd (xs := ([(x3_1) % 256] : List Int)) (inner := [.int .u8 ((x3_1) % 256)]) (ok := fun _ => True) (okp := fun _ => True) ?hr ?hp (fun _ hk => hk) trivial (Below.refl _ _) (Nat.le_refl _) (by simp) ?_; (case hd => rfl); (case hg => rfl); (case hr => first | (go_simp; done) | (go_simp; rfl)); (case hp => exact (Reps.one (show Kd.M (Kd.int .u8) _ _ _ ((x3_1) % 256) [.int .u8 ((x3_1) % 256)] from rfl) (Reps.none _ _))); intro v354 w20 ho21 hb hg_ hnew_; clear hg_ hnew_; (first | rw [← Ny353.out] at ho21 | (simp only [Int.reduceToNat] at ho21; rw [← Ny353.out] at ho21)); have HO355 := Aside0.mk (Kd.R_lower ho21 (below_size (bZ HB))); replace BK349 := bB BK349 hb; replace HB := bS HB hb; clear hb ho21; have hcv22 := own_string (P := Tryz.prog) Tryz.underlying22 Tryz.underlying5 Tryz.underlying9 (Kd.own_of_R HO355.out)) | (go_at_call 61; (with_reducible refine (spec_Digest.calls ((strOfNums y353) ++ a0) t356 _ A5.out).mono ?_); rintro e w23 ⟨rfl, hb⟩; replace HO355 := Aside0.mk (Kd.R_below (rP HO355) hb); replace BK349 := bB BK349 hb; replace HB := bS HB hb; (try clear hb); obtain ⟨q7, hx7, qi7⟩ := sX t356 0 0; obtain ⟨q9, hx9, qi9⟩ := sX t356 1 1; obtain ⟨q11, hx11, qi11⟩ := sX t356 2 2; obtain ⟨q13, hx13, qi13⟩ := sX t356 3 3) | (go_at_call 62; (with_reducible refine (spec_FpOf.calls (Go.bits .or .i64 (Go.bits .or .i64 (Go.bits .or .i64 (wrap64 ((wrap64 (bt t356 0)) * 16777216)) (wrap64 ((wrap64 (bt t356 1)) * 65536))) (wrap64 ((wrap64 (bt t356 2)) * 256))) (wrap64 (bt t356 3))) t357 _ A14.out).mono ?_); rintro e w' ⟨rfl, ⟨nd, rfl⟩⟩; (try exact tD)) | (go_at_call 64; (with_reducible refine (spec_l07Right.calls t357 t358 _ A15.out).mono ?_); rintro e w' ⟨rfl, ⟨nd, rfl⟩⟩; (try exact tD)) | (go_at_call 63; (with_reducible refine (spec_FpRoot.calls k1 t358 t359 true _ A16.out).mono ?_); rintro e w' ⟨rfl, ⟨nd, rfl⟩⟩; (try exact tD)) | (go_at_call 65; (with_reducible refine (spec_PointTimes.calls k1 12 t357 t359 false t361 t362 true _ A17.out).mono ?_); rintro e w24 ⟨rfl, hb⟩; replace HO355 := Aside0.mk (Kd.R_below (rP HO355) hb); replace BK349 := bB BK349 hb; replace HB := bS HB hb; (try clear hb)) | ((with_reducible refine gate_dst (N := 8) rfl ?_); refine bE 8 #[.int .i64 0, .int .i64 0, .bool false] 28 ?_; intro gb364 hg w25 hbox hb; replace HO355 := Aside0.mk (Kd.R_below (rP HO355) hb); have BK364 := Aside0.mk (hbox); have GW364 := bG HB hg; replace HB := bS HB hb; obtain ⟨NB349_364, NB364_349⟩ := bN BK349 hg; replace BK349 := bB BK349 hb; clear hb hbox hg; obtain ⟨hnb26, hnc26⟩ := nB NB364_349; obtain ⟨hcz27_0, hcz27_1, hcz27_2, hfz27_0, hfz27_1, hfz27_2⟩ := bK3 (w := w25) BK364))
           repeat (go_quiet (first | ((with_reducible refine gate_dst (N := 15) rfl ?_); refine Kd.R_lit (Kd.int .u8) _ 5 ?hg (N := 15) ?hd (xs := ([(x3_1) % 256] : List Int)) (inner := [.int .u8 ((x3_1) % 256)]) (ok := fun _ => True) (okp := fun _ => True) ?hr ?hp (fun _ hk => hk) trivial (Below.refl _ _) (Nat.le_refl _) (by simp) ?_; (case hd => rfl); (case hg => rfl); (case hr => first | (go_simp; done) | (go_simp; rfl)); (case hp => exact (Reps.one (show Kd.M (Kd.int .u8) _ _ _ ((x3_1) % 256) [.int .u8 ((x3_1) % 256)] from rfl) (Reps.none _ _))); intro v354 w20 ho21 hb hg_ hnew_; clear hg_ hnew_; (first | rw [← Ny353.out] at ho21 | (simp only [Int.reduceToNat] at ho21; rw [← Ny353.out] at ho21)); have HO355 := Aside0.mk (Kd.R_lower ho21 (below_size (bZ HB))); replace BK349 := bB BK349 hb; replace HB := bS HB hb; clear hb ho21; have hcv22 := own_string (P := Tryz.prog) Tryz.underlying22 Tryz.underlying5 Tryz.underlying9 (Kd.own_of_R HO355.out)) | (go_at_call 61; (with_reducible refine (spec_Digest.calls ((strOfNums y353) ++ a0) t356 _ A5.out).mono ?_); rintro e w23 ⟨rfl, hb⟩; replace HO355 := Aside0.mk (Kd.R_below (rP HO355) hb); replace BK349 := bB BK349 hb; replace HB := bS HB hb; (try clear hb); obtain ⟨q7, hx7, qi7⟩ := sX t356 0 0; obtain ⟨q9, hx9, qi9⟩ := sX t356 1 1; obtain ⟨q11, hx11, qi11⟩ := sX t356 2 2; obtain ⟨q13, hx13, qi13⟩ := sX t356 3 3) | (go_at_call 62; (with_reducible refine (spec_FpOf.calls (Go.bits .or .i64 (Go.bits .or .i64 (Go.bits .or .i64 (wrap64 ((wrap64 (bt t356 0)) * 16777216)) (wrap64 ((wrap64 (bt t356 1)) * 65536))) (wrap64 ((wrap64 (bt t356 2)) * 256))) (wrap64 (bt t356 3))) t357 _ A14.out).mono ?_); rintro e w' ⟨rfl, ⟨nd, rfl⟩⟩; (try exact tD)) | (go_at_call 64; (with_reducible refine (spec_l07Right.calls t357 t358 _ A15.out).mono ?_); rintro e w' ⟨rfl, ⟨nd, rfl⟩⟩; (try exact tD)) | (go_at_call 63; (with_reducible refine (spec_FpRoot.calls k1 t358 t359 true _ A16.out).mono ?_); rintro e w' ⟨rfl, ⟨nd, rfl⟩⟩; (try exact tD)) | (go_at_call 65; (with_reducible refine (spec_PointTimes.calls k1 12 t357 t359 false t361 t362 true _ A17.out).mono ?_); rintro e w24 ⟨rfl, hb⟩; replace HO355 := Aside0.mk (Kd.R_below (rP HO355) hb); replace BK349 := bB BK349 hb; replace HB := bS HB hb; (try clear hb)) | ((with_reducible refine gate_dst (N := 8) rfl ?_); refine bE 8 #[.int .i64 0, .int .i64 0, .bool false] 28 ?_; intro gb364 hg w25 hbox hb; replace HO355 := Aside0.mk (Kd.R_below (rP HO355) hb); have BK364 := Aside0.mk (hbox); have GW364 := bG HB hg; replace HB := bS HB hb; obtain ⟨NB349_364, NB364_349⟩ := bN BK349 hg; replace BK349 := bB BK349 hb; clear hb hbox hg; obtain ⟨hnb26, hnc26⟩ := nB NB364_349; obtain ⟨hcz27_0, hcz27_1, hcz27_2, hfz27_0, hfz27_1, hfz27_2⟩ := bK3 (w := w25) BK364)); try go_wp2_with (first | ((with_reducible refine gate_dst (N := 15) rfl ?_); refine Kd.R_lit (Kd.int .u8) _ 5 ?hg (N := 15) ?hd (xs := ([(x3_1) % 256] : List Int)) (inner := [.int .u8 ((x3_1) % 256)]) (ok := fun _ => True) (okp := fun _ => True) ?hr ?hp (fun _ hk => hk) trivial (Below.refl _ _) (Nat.le_refl _) (by simp) ?_; (case hd => rfl); (case hg => rfl); (case hr => first | (go_simp; done) | (go_simp; rfl)); (case hp => exact (Reps.one (show Kd.M (Kd.int .u8) _ _ _ ((x3_1) % 256) [.int .u8 ((x3_1) % 256)] from rfl) (Reps.none _ _))); intro v354 w20 ho21 hb hg_ hnew_; clear hg_ hnew_; (first | rw [← Ny353.out] at ho21 | (simp only [Int.reduceToNat] at ho21; rw [← Ny353.out] at ho21)); have HO355 := Aside0.mk (Kd.R_lower ho21 (below_size (bZ HB))); replace BK349 := bB BK349 hb; replace HB := bS HB hb; clear hb ho21; have hcv22 := own_string (P := Tryz.prog) Tryz.underlying22 Tryz.underlying5 Tryz.underlying9 (Kd.own_of_R HO355.out)) | (go_at_call 61; (with_reducible refine (spec_Digest.calls ((strOfNums y353) ++ a0) t356 _ A5.out).mono ?_); rintro e w23 ⟨rfl, hb⟩; replace HO355 := Aside0.mk (Kd.R_below (rP HO355) hb); replace BK349 := bB BK349 hb; replace HB := bS HB hb; (try clear hb); obtain ⟨q7, hx7, qi7⟩ := sX t356 0 0; obtain ⟨q9, hx9, qi9⟩ := sX t356 1 1; obtain ⟨q11, hx11, qi11⟩ := sX t356 2 2; obtain ⟨q13, hx13, qi13⟩ := sX t356 3 3) | (go_at_call 62; (with_reducible refine (spec_FpOf.calls (Go.bits .or .i64 (Go.bits .or .i64 (Go.bits .or .i64 (wrap64 ((wrap64 (bt t356 0)) * 16777216)) (wrap64 ((wrap64 (bt t356 1)) * 65536))) (wrap64 ((wrap64 (bt t356 2)) * 256))) (wrap64 (bt t356 3))) t357 _ A14.out).mono ?_); rintro e w' ⟨rfl, ⟨nd, rfl⟩⟩; (try exact tD)) | (go_at_call 64; (with_reducible refine (spec_l07Right.calls t357 t358 _ A15.out).mono ?_); rintro e w' ⟨rfl, ⟨nd, rfl⟩⟩; (try exact tD)) | (go_at_call 63; (with_reducible refine (spec_FpRoot.calls k1 t358 t359 true _ A16.out).mono ?_); rintro e w' ⟨rfl, ⟨nd, rfl⟩⟩; (try exact tD)) | (go_at_call 65; (with_reducible refine (spec_PointTimes.calls k1 12 t357 t359 false t361 t362 true _ A17.out).mono ?_); rintro e w24 ⟨rfl, hb⟩; replace HO355 := Aside0.mk (Kd.R_below (rP HO355) hb); replace BK349 := bB BK349 hb; replace HB := bS HB hb; (try clear hb)) | ((with_reducible refine gate_dst (N := 8) rfl ?_); refine bE 8 #[.int .i64 0, .int .i64 0, .bool false] 28 ?_; intro gb364 hg w25 hbox hb; replace HO355 := Aside0.mk (Kd.R_below (rP HO355) hb); have BK364 := Aside0.mk (hbox); have GW364 := bG HB hg; replace HB := bS HB hb; obtain ⟨NB349_364, NB364_349⟩ := bN BK349 hg; replace BK349 := bB BK349 hb; clear hb hbox hg; obtain ⟨hnb26, hnc26⟩ := nB NB364_349; obtain ⟨hcz27_0, hcz27_1, hcz27_2, hfz27_0, hfz27_1, hfz27_2⟩ := bK3 (w := w25) BK364)))
           go_roundg k1
           case measure => have := HK1.out; omega
           case rel => exact ⟨(wrap64 (x3_1 + 1)), (x350000_1), (x350001_1), (x350002_1), rS, H', ⟨by have := HK1.out; omega⟩, ⟨bP BK349⟩, ⟨bZ HB⟩⟩
          ·replace c19 := Bool.eq_false_iff.mpr c19
           subst c19
           rw [if_neg (show ¬ (false = true) by decide)] at H
           simp only [Option.some.injEq, Prod.mk.injEq] at H
           obtain ⟨rfl, rfl, rfl⟩ := H
           go_wp2_with (first | ((with_reducible refine gate_dst (N := 15) rfl ?_); refine Kd.R_lit (Kd.int .u8) _ 5 ?hg (N := 15) ?hd (xs := ([(x3_1) % 256] : List Int)) (inner := [.int .u8 ((x3_1) % 256)]) (ok := fun _ => True) (okp := fun _ => True) ?hr ?hp (fun _ hk => hk) trivial (Below.refl _ _) (Nat.le_refl _) (by simp) ?_; (case hd => rfl); (case hg => rfl); (case hr => first | (go_simp; done) | (go_simp; rfl)); (case hp => exact (Reps.one (show Kd.M (Kd.int .u8) _ _ _ ((x3_1) % 256) [.int .u8 ((x3_1) % 256)] from rfl) (Reps.none _ _))); intro v354 w28 ho29 hb hg_ hnew_; clear hg_ hnew_; (first | rw [← Ny353.out] at ho29 | (simp only [Int.reduceToNat] at ho29; rw [← Ny353.out] at ho29)); have HO355 := Aside0.mk (Kd.R_lower ho29 (below_size (bZ HB))); replace BK349 := bB BK349 hb; replace HB := bS HB hb; clear hb ho29; have hcv30 := own_string (P := Tryz.prog) Tryz.underlying22 Tryz.underlying5 Tryz.underlying9 (Kd.own_of_R HO355.out)) | (go_at_call 61; (with_reducible refine (spec_Digest.calls ((strOfNums y353) ++ a0) t356 _ A5.out).mono ?_); rintro e w31 ⟨rfl, hb⟩; replace HO355 := Aside0.mk (Kd.R_below (rP HO355) hb); replace BK349 := bB BK349 hb; replace HB := bS HB hb; (try clear hb); obtain ⟨q7, hx7, qi7⟩ := sX t356 0 0; obtain ⟨q9, hx9, qi9⟩ := sX t356 1 1; obtain ⟨q11, hx11, qi11⟩ := sX t356 2 2; obtain ⟨q13, hx13, qi13⟩ := sX t356 3 3) | (go_at_call 62; (with_reducible refine (spec_FpOf.calls (Go.bits .or .i64 (Go.bits .or .i64 (Go.bits .or .i64 (wrap64 ((wrap64 (bt t356 0)) * 16777216)) (wrap64 ((wrap64 (bt t356 1)) * 65536))) (wrap64 ((wrap64 (bt t356 2)) * 256))) (wrap64 (bt t356 3))) t357 _ A14.out).mono ?_); rintro e w' ⟨rfl, ⟨nd, rfl⟩⟩; (try exact tD)) | (go_at_call 64; (with_reducible refine (spec_l07Right.calls t357 t358 _ A15.out).mono ?_); rintro e w' ⟨rfl, ⟨nd, rfl⟩⟩; (try exact tD)) | (go_at_call 63; (with_reducible refine (spec_FpRoot.calls k1 t358 t359 true _ A16.out).mono ?_); rintro e w' ⟨rfl, ⟨nd, rfl⟩⟩; (try exact tD)) | (go_at_call 65; (with_reducible refine (spec_PointTimes.calls k1 12 t357 t359 false t361 t362 false _ A17.out).mono ?_); rintro e w32 ⟨rfl, hb⟩; replace HO355 := Aside0.mk (Kd.R_below (rP HO355) hb); replace BK349 := bB BK349 hb; replace HB := bS HB hb; (try clear hb)) | ((with_reducible refine gate_dst (N := 8) rfl ?_); refine bE 8 #[.int .i64 0, .int .i64 0, .bool false] 28 ?_; intro gb364 hg w33 hbox hb; replace HO355 := Aside0.mk (Kd.R_below (rP HO355) hb); have BK364 := Aside0.mk (hbox); have GW364 := bG HB hg; replace HB := bS HB hb; obtain ⟨NB349_364, NB364_349⟩ := bN BK349 hg; replace BK349 := bB BK349 hb; clear hb hbox hg; obtain ⟨hnb34, hnc34⟩ := nB NB364_349; obtain ⟨hcz35_0, hcz35_1, hcz35_2, hfz35_0, hfz35_1, hfz35_2⟩ := bK3 (w := w33) BK364; obtain ⟨hcz36_0, hcz36_1, hcz36_2, hfz36_0, hfz36_1, hfz36_2⟩ := bK3 (w := w33) BK349))
           repeat (go_quiet (first | ((with_reducible refine gate_dst (N := 15) rfl ?_); refine Kd.R_lit (Kd.int .u8) _ 5 ?hg (N := 15) ?hd (xs := ([(x3_1) % 256] : List Int)) (inner := [.int .u8 ((x3_1) % 256)]) (ok := fun _ => True) (okp := fun _ => True) ?hr ?hp (fun _ hk => hk) trivial (Below.refl _ _) (Nat.le_refl _) (by simp) ?_; (case hd => rfl); (case hg => rfl); (case hr => first | (go_simp; done) | (go_simp; rfl)); (case hp => exact (Reps.one (show Kd.M (Kd.int .u8) _ _ _ ((x3_1) % 256) [.int .u8 ((x3_1) % 256)] from rfl) (Reps.none _ _))); intro v354 w28 ho29 hb hg_ hnew_; clear hg_ hnew_; (first | rw [← Ny353.out] at ho29 | (simp only [Int.reduceToNat] at ho29; rw [← Ny353.out] at ho29)); have HO355 := Aside0.mk (Kd.R_lower ho29 (below_size (bZ HB))); replace BK349 := bB BK349 hb; replace HB := bS HB hb; clear hb ho29; have hcv30 := own_string (P := Tryz.prog) Tryz.underlying22 Tryz.underlying5 Tryz.underlying9 (Kd.own_of_R HO355.out)) | (go_at_call 61; (with_reducible refine (spec_Digest.calls ((strOfNums y353) ++ a0) t356 _ A5.out).mono ?_); rintro e w31 ⟨rfl, hb⟩; replace HO355 := Aside0.mk (Kd.R_below (rP HO355) hb); replace BK349 := bB BK349 hb; replace HB := bS HB hb; (try clear hb); obtain ⟨q7, hx7, qi7⟩ := sX t356 0 0; obtain ⟨q9, hx9, qi9⟩ := sX t356 1 1; obtain ⟨q11, hx11, qi11⟩ := sX t356 2 2; obtain ⟨q13, hx13, qi13⟩ := sX t356 3 3) | (go_at_call 62; (with_reducible refine (spec_FpOf.calls (Go.bits .or .i64 (Go.bits .or .i64 (Go.bits .or .i64 (wrap64 ((wrap64 (bt t356 0)) * 16777216)) (wrap64 ((wrap64 (bt t356 1)) * 65536))) (wrap64 ((wrap64 (bt t356 2)) * 256))) (wrap64 (bt t356 3))) t357 _ A14.out).mono ?_); rintro e w' ⟨rfl, ⟨nd, rfl⟩⟩; (try exact tD)) | (go_at_call 64; (with_reducible refine (spec_l07Right.calls t357 t358 _ A15.out).mono ?_); rintro e w' ⟨rfl, ⟨nd, rfl⟩⟩; (try exact tD)) | (go_at_call 63; (with_reducible refine (spec_FpRoot.calls k1 t358 t359 true _ A16.out).mono ?_); rintro e w' ⟨rfl, ⟨nd, rfl⟩⟩; (try exact tD)) | (go_at_call 65; (with_reducible refine (spec_PointTimes.calls k1 12 t357 t359 false t361 t362 false _ A17.out).mono ?_); rintro e w32 ⟨rfl, hb⟩; replace HO355 := Aside0.mk (Kd.R_below (rP HO355) hb); replace BK349 := bB BK349 hb; replace HB := bS HB hb; (try clear hb)) | ((with_reducible refine gate_dst (N := 8) rfl ?_); refine bE 8 #[.int .i64 0, .int .i64 0, .bool false] 28 ?_; intro gb364 hg w33 hbox hb; replace HO355 := Aside0.mk (Kd.R_below (rP HO355) hb); have BK364 := Aside0.mk (hbox); have GW364 := bG HB hg; replace HB := bS HB hb; obtain ⟨NB349_364, NB364_349⟩ := bN BK349 hg; replace BK349 := bB BK349 hb; clear hb hbox hg; obtain ⟨hnb34, hnc34⟩ := nB NB364_349; obtain ⟨hcz35_0, hcz35_1, hcz35_2, hfz35_0, hfz35_1, hfz35_2⟩ := bK3 (w := w33) BK364; obtain ⟨hcz36_0, hcz36_1, hcz36_2, hfz36_0, hfz36_1, hfz36_2⟩ := bK3 (w := w33) BK349)); try go_wp2_with (first | ((with_reducible refine gate_dst (N := 15) rfl ?_); refine Kd.R_lit (Kd.int .u8) _ 5 ?hg (N := 15) ?hd (xs := ([(x3_1) % 256] : List Int)) (inner := [.int .u8 ((x3_1) % 256)]) (ok := fun _ => True) (okp := fun _ => True) ?hr ?hp (fun _ hk => hk) trivial (Below.refl _ _) (Nat.le_refl _) (by simp) ?_; (case hd => rfl); (case hg => rfl); (case hr => first | (go_simp; done) | (go_simp; rfl)); (case hp => exact (Reps.one (show Kd.M (Kd.int .u8) _ _ _ ((x3_1) % 256) [.int .u8 ((x3_1) % 256)] from rfl) (Reps.none _ _))); intro v354 w28 ho29 hb hg_ hnew_; clear hg_ hnew_; (first | rw [← Ny353.out] at ho29 | (simp only [Int.reduceToNat] at ho29; rw [← Ny353.out] at ho29)); have HO355 := Aside0.mk (Kd.R_lower ho29 (below_size (bZ HB))); replace BK349 := bB BK349 hb; replace HB := bS HB hb; clear hb ho29; have hcv30 := own_string (P := Tryz.prog) Tryz.underlying22 Tryz.underlying5 Tryz.underlying9 (Kd.own_of_R HO355.out)) | (go_at_call 61; (with_reducible refine (spec_Digest.calls ((strOfNums y353) ++ a0) t356 _ A5.out).mono ?_); rintro e w31 ⟨rfl, hb⟩; replace HO355 := Aside0.mk (Kd.R_below (rP HO355) hb); replace BK349 := bB BK349 hb; replace HB := bS HB hb; (try clear hb); obtain ⟨q7, hx7, qi7⟩ := sX t356 0 0; obtain ⟨q9, hx9, qi9⟩ := sX t356 1 1; obtain ⟨q11, hx11, qi11⟩ := sX t356 2 2; obtain ⟨q13, hx13, qi13⟩ := sX t356 3 3) | (go_at_call 62; (with_reducible refine (spec_FpOf.calls (Go.bits .or .i64 (Go.bits .or .i64 (Go.bits .or .i64 (wrap64 ((wrap64 (bt t356 0)) * 16777216)) (wrap64 ((wrap64 (bt t356 1)) * 65536))) (wrap64 ((wrap64 (bt t356 2)) * 256))) (wrap64 (bt t356 3))) t357 _ A14.out).mono ?_); rintro e w' ⟨rfl, ⟨nd, rfl⟩⟩; (try exact tD)) | (go_at_call 64; (with_reducible refine (spec_l07Right.calls t357 t358 _ A15.out).mono ?_); rintro e w' ⟨rfl, ⟨nd, rfl⟩⟩; (try exact tD)) | (go_at_call 63; (with_reducible refine (spec_FpRoot.calls k1 t358 t359 true _ A16.out).mono ?_); rintro e w' ⟨rfl, ⟨nd, rfl⟩⟩; (try exact tD)) | (go_at_call 65; (with_reducible refine (spec_PointTimes.calls k1 12 t357 t359 false t361 t362 false _ A17.out).mono ?_); rintro e w32 ⟨rfl, hb⟩; replace HO355 := Aside0.mk (Kd.R_below (rP HO355) hb); replace BK349 := bB BK349 hb; replace HB := bS HB hb; (try clear hb)) | ((with_reducible refine gate_dst (N := 8) rfl ?_); refine bE 8 #[.int .i64 0, .int .i64 0, .bool false] 28 ?_; intro gb364 hg w33 hbox hb; replace HO355 := Aside0.mk (Kd.R_below (rP HO355) hb); have BK364 := Aside0.mk (hbox); have GW364 := bG HB hg; replace HB := bS HB hb; obtain ⟨NB349_364, NB364_349⟩ := bN BK349 hg; replace BK349 := bB BK349 hb; clear hb hbox hg; obtain ⟨hnb34, hnc34⟩ := nB NB364_349; obtain ⟨hcz35_0, hcz35_1, hcz35_2, hfz35_0, hfz35_1, hfz35_2⟩ := bK3 (w := w33) BK364; obtain ⟨hcz36_0, hcz36_1, hcz36_2, hfz36_0, hfz36_1, hfz36_2⟩ := bK3 (w := w33) BK349)))
           refine rC gb349 28 #[.int .i64 t361, .int .i64 t362, .bool false] (bU BK349) Tryz.underlying28 ?_
           exact ⟨rR, bZ HB⟩
         ·replace c18 := Bool.eq_false_iff.mpr c18
          subst c18
          rw [if_neg (show ¬ (false = true) by decide)] at H
          have H' := Aside0.mk H
          clear H
          go_wp2_with (first | ((with_reducible refine gate_dst (N := 15) rfl ?_); refine Kd.R_lit (Kd.int .u8) _ 5 ?hg (N := 15) ?hd (xs := ([(x3_1) % 256] : List Int)) (inner := [.int .u8 ((x3_1) % 256)]) (ok := fun _ => True) (okp := fun _ => True) ?hr ?hp (fun _ hk => hk) trivial (Below.refl _ _) (Nat.le_refl _) (by simp) ?_; (case hd => rfl); (case hg => rfl); (case hr => first | (go_simp; done) | (go_simp; rfl)); (case hp => exact (Reps.one (show Kd.M (Kd.int .u8) _ _ _ ((x3_1) % 256) [.int .u8 ((x3_1) % 256)] from rfl) (Reps.none _ _))); intro v354 w37 ho38 hb hg_ hnew_; clear hg_ hnew_; (first | rw [← Ny353.out] at ho38 | (simp only [Int.reduceToNat] at ho38; rw [← Ny353.out] at ho38)); have HO355 := Aside0.mk (Kd.R_lower ho38 (below_size (bZ HB))); replace BK349 := bB BK349 hb; replace HB := bS HB hb; clear hb ho38; have hcv39 := own_string (P := Tryz.prog) Tryz.underlying22 Tryz.underlying5 Tryz.underlying9 (Kd.own_of_R HO355.out)) | (go_at_call 61; (with_reducible refine (spec_Digest.calls ((strOfNums y353) ++ a0) t356 _ A5.out).mono ?_); rintro e w40 ⟨rfl, hb⟩; replace HO355 := Aside0.mk (Kd.R_below (rP HO355) hb); replace BK349 := bB BK349 hb; replace HB := bS HB hb; (try clear hb); obtain ⟨q7, hx7, qi7⟩ := sX t356 0 0; obtain ⟨q9, hx9, qi9⟩ := sX t356 1 1; obtain ⟨q11, hx11, qi11⟩ := sX t356 2 2; obtain ⟨q13, hx13, qi13⟩ := sX t356 3 3) | (go_at_call 62; (with_reducible refine (spec_FpOf.calls (Go.bits .or .i64 (Go.bits .or .i64 (Go.bits .or .i64 (wrap64 ((wrap64 (bt t356 0)) * 16777216)) (wrap64 ((wrap64 (bt t356 1)) * 65536))) (wrap64 ((wrap64 (bt t356 2)) * 256))) (wrap64 (bt t356 3))) t357 _ A14.out).mono ?_); rintro e w' ⟨rfl, ⟨nd, rfl⟩⟩; (try exact tD)) | (go_at_call 64; (with_reducible refine (spec_l07Right.calls t357 t358 _ A15.out).mono ?_); rintro e w' ⟨rfl, ⟨nd, rfl⟩⟩; (try exact tD)) | (go_at_call 63; (with_reducible refine (spec_FpRoot.calls k1 t358 t359 false _ A16.out).mono ?_); rintro e w' ⟨rfl, ⟨nd, rfl⟩⟩; (try exact tD)) | (go_at_call 65; (with_reducible refine (spec_PointTimes.calls k1 12 t357 t359 false t361 t362 t363 _ A17.out).mono ?_); rintro e w41 ⟨rfl, hb⟩; replace HO355 := Aside0.mk (Kd.R_below (rP HO355) hb); replace BK349 := bB BK349 hb; replace HB := bS HB hb; (try clear hb)) | ((with_reducible refine gate_dst (N := 8) rfl ?_); refine bE 8 #[.int .i64 0, .int .i64 0, .bool false] 28 ?_; intro gb364 hg w42 hbox hb; replace HO355 := Aside0.mk (Kd.R_below (rP HO355) hb); have BK364 := Aside0.mk (hbox); have GW364 := bG HB hg; replace HB := bS HB hb; obtain ⟨NB349_364, NB364_349⟩ := bN BK349 hg; replace BK349 := bB BK349 hb; clear hb hbox hg; obtain ⟨hnb43, hnc43⟩ := nB NB364_349; obtain ⟨hcz44_0, hcz44_1, hcz44_2, hfz44_0, hfz44_1, hfz44_2⟩ := bK3 (w := w42) BK364))
          repeat (go_quiet (first | ((with_reducible refine gate_dst (N := 15) rfl ?_); refine Kd.R_lit (Kd.int .u8) _ 5 ?hg (N := 15) ?hd (xs := ([(x3_1) % 256] : List Int)) (inner := [.int .u8 ((x3_1) % 256)]) (ok := fun _ => True) (okp := fun _ => True) ?hr ?hp (fun _ hk => hk) trivial (Below.refl _ _) (Nat.le_refl _) (by simp) ?_; (case hd => rfl); (case hg => rfl); (case hr => first | (go_simp; done) | (go_simp; rfl)); (case hp => exact (Reps.one (show Kd.M (Kd.int .u8) _ _ _ ((x3_1) % 256) [.int .u8 ((x3_1) % 256)] from rfl) (Reps.none _ _))); intro v354 w37 ho38 hb hg_ hnew_; clear hg_ hnew_; (first | rw [← Ny353.out] at ho38 | (simp only [Int.reduceToNat] at ho38; rw [← Ny353.out] at ho38)); have HO355 := Aside0.mk (Kd.R_lower ho38 (below_size (bZ HB))); replace BK349 := bB BK349 hb; replace HB := bS HB hb; clear hb ho38; have hcv39 := own_string (P := Tryz.prog) Tryz.underlying22 Tryz.underlying5 Tryz.underlying9 (Kd.own_of_R HO355.out)) | (go_at_call 61; (with_reducible refine (spec_Digest.calls ((strOfNums y353) ++ a0) t356 _ A5.out).mono ?_); rintro e w40 ⟨rfl, hb⟩; replace HO355 := Aside0.mk (Kd.R_below (rP HO355) hb); replace BK349 := bB BK349 hb; replace HB := bS HB hb; (try clear hb); obtain ⟨q7, hx7, qi7⟩ := sX t356 0 0; obtain ⟨q9, hx9, qi9⟩ := sX t356 1 1; obtain ⟨q11, hx11, qi11⟩ := sX t356 2 2; obtain ⟨q13, hx13, qi13⟩ := sX t356 3 3) | (go_at_call 62; (with_reducible refine (spec_FpOf.calls (Go.bits .or .i64 (Go.bits .or .i64 (Go.bits .or .i64 (wrap64 ((wrap64 (bt t356 0)) * 16777216)) (wrap64 ((wrap64 (bt t356 1)) * 65536))) (wrap64 ((wrap64 (bt t356 2)) * 256))) (wrap64 (bt t356 3))) t357 _ A14.out).mono ?_); rintro e w' ⟨rfl, ⟨nd, rfl⟩⟩; (try exact tD)) | (go_at_call 64; (with_reducible refine (spec_l07Right.calls t357 t358 _ A15.out).mono ?_); rintro e w' ⟨rfl, ⟨nd, rfl⟩⟩; (try exact tD)) | (go_at_call 63; (with_reducible refine (spec_FpRoot.calls k1 t358 t359 false _ A16.out).mono ?_); rintro e w' ⟨rfl, ⟨nd, rfl⟩⟩; (try exact tD)) | (go_at_call 65; (with_reducible refine (spec_PointTimes.calls k1 12 t357 t359 false t361 t362 t363 _ A17.out).mono ?_); rintro e w41 ⟨rfl, hb⟩; replace HO355 := Aside0.mk (Kd.R_below (rP HO355) hb); replace BK349 := bB BK349 hb; replace HB := bS HB hb; (try clear hb)) | ((with_reducible refine gate_dst (N := 8) rfl ?_); refine bE 8 #[.int .i64 0, .int .i64 0, .bool false] 28 ?_; intro gb364 hg w42 hbox hb; replace HO355 := Aside0.mk (Kd.R_below (rP HO355) hb); have BK364 := Aside0.mk (hbox); have GW364 := bG HB hg; replace HB := bS HB hb; obtain ⟨NB349_364, NB364_349⟩ := bN BK349 hg; replace BK349 := bB BK349 hb; clear hb hbox hg; obtain ⟨hnb43, hnc43⟩ := nB NB364_349; obtain ⟨hcz44_0, hcz44_1, hcz44_2, hfz44_0, hfz44_1, hfz44_2⟩ := bK3 (w := w42) BK364)); try go_wp2_with (first | ((with_reducible refine gate_dst (N := 15) rfl ?_); refine Kd.R_lit (Kd.int .u8) _ 5 ?hg (N := 15) ?hd (xs := ([(x3_1) % 256] : List Int)) (inner := [.int .u8 ((x3_1) % 256)]) (ok := fun _ => True) (okp := fun _ => True) ?hr ?hp (fun _ hk => hk) trivial (Below.refl _ _) (Nat.le_refl _) (by simp) ?_; (case hd => rfl); (case hg => rfl); (case hr => first | (go_simp; done) | (go_simp; rfl)); (case hp => exact (Reps.one (show Kd.M (Kd.int .u8) _ _ _ ((x3_1) % 256) [.int .u8 ((x3_1) % 256)] from rfl) (Reps.none _ _))); intro v354 w37 ho38 hb hg_ hnew_; clear hg_ hnew_; (first | rw [← Ny353.out] at ho38 | (simp only [Int.reduceToNat] at ho38; rw [← Ny353.out] at ho38)); have HO355 := Aside0.mk (Kd.R_lower ho38 (below_size (bZ HB))); replace BK349 := bB BK349 hb; replace HB := bS HB hb; clear hb ho38; have hcv39 := own_string (P := Tryz.prog) Tryz.underlying22 Tryz.underlying5 Tryz.underlying9 (Kd.own_of_R HO355.out)) | (go_at_call 61; (with_reducible refine (spec_Digest.calls ((strOfNums y353) ++ a0) t356 _ A5.out).mono ?_); rintro e w40 ⟨rfl, hb⟩; replace HO355 := Aside0.mk (Kd.R_below (rP HO355) hb); replace BK349 := bB BK349 hb; replace HB := bS HB hb; (try clear hb); obtain ⟨q7, hx7, qi7⟩ := sX t356 0 0; obtain ⟨q9, hx9, qi9⟩ := sX t356 1 1; obtain ⟨q11, hx11, qi11⟩ := sX t356 2 2; obtain ⟨q13, hx13, qi13⟩ := sX t356 3 3) | (go_at_call 62; (with_reducible refine (spec_FpOf.calls (Go.bits .or .i64 (Go.bits .or .i64 (Go.bits .or .i64 (wrap64 ((wrap64 (bt t356 0)) * 16777216)) (wrap64 ((wrap64 (bt t356 1)) * 65536))) (wrap64 ((wrap64 (bt t356 2)) * 256))) (wrap64 (bt t356 3))) t357 _ A14.out).mono ?_); rintro e w' ⟨rfl, ⟨nd, rfl⟩⟩; (try exact tD)) | (go_at_call 64; (with_reducible refine (spec_l07Right.calls t357 t358 _ A15.out).mono ?_); rintro e w' ⟨rfl, ⟨nd, rfl⟩⟩; (try exact tD)) | (go_at_call 63; (with_reducible refine (spec_FpRoot.calls k1 t358 t359 false _ A16.out).mono ?_); rintro e w' ⟨rfl, ⟨nd, rfl⟩⟩; (try exact tD)) | (go_at_call 65; (with_reducible refine (spec_PointTimes.calls k1 12 t357 t359 false t361 t362 t363 _ A17.out).mono ?_); rintro e w41 ⟨rfl, hb⟩; replace HO355 := Aside0.mk (Kd.R_below (rP HO355) hb); replace BK349 := bB BK349 hb; replace HB := bS HB hb; (try clear hb)) | ((with_reducible refine gate_dst (N := 8) rfl ?_); refine bE 8 #[.int .i64 0, .int .i64 0, .bool false] 28 ?_; intro gb364 hg w42 hbox hb; replace HO355 := Aside0.mk (Kd.R_below (rP HO355) hb); have BK364 := Aside0.mk (hbox); have GW364 := bG HB hg; replace HB := bS HB hb; obtain ⟨NB349_364, NB364_349⟩ := bN BK349 hg; replace BK349 := bB BK349 hb; clear hb hbox hg; obtain ⟨hnb43, hnc43⟩ := nB NB364_349; obtain ⟨hcz44_0, hcz44_1, hcz44_2, hfz44_0, hfz44_1, hfz44_2⟩ := bK3 (w := w42) BK364)))
          go_roundg k1
          case measure => have := HK1.out; omega
          case rel => exact ⟨(wrap64 (x3_1 + 1)), (x350000_1), (x350001_1), (x350002_1), rS, H', ⟨by have := HK1.out; omega⟩, ⟨bP BK349⟩, ⟨bZ HB⟩⟩
        ·rw [if_neg c12] at H
         exact absurd H (by simp)
       ·rw [if_neg c10] at H
        exact absurd H (by simp)
      ·rw [if_neg c8] at H
       exact absurd H (by simp)
     ·rw [if_neg c6] at H
      exact absurd H (by simp)
    ·rw [if_neg c4] at H
     exact absurd H (by simp)
   ·rw [if_neg c3] at H
    have c3b0 := decide_eq_false c3
    clear c3
    replace H := Option.bind_eq_some_iff.mp H
    obtain ⟨⟨t350, t351, t352⟩, A450, H⟩ := H
    have A45 := Aside0.mk A450
    clear A450
    simp only [Option.some.injEq, Prod.mk.injEq] at H
    obtain ⟨rfl, rfl, rfl⟩ := H
    go_wp2_with (first | (go_at_call 66; (with_reducible refine (spec_Base.calls  t350 t351 t352 _ A45.out).mono ?_); rintro e w46 ⟨rfl, hb⟩; replace BK349 := bB BK349 hb; replace HB := bS HB hb; (try clear hb); obtain ⟨hcz47_0, hcz47_1, hcz47_2, hfz47_0, hfz47_1, hfz47_2⟩ := bK3 (w := w46) BK349))
    repeat (go_quiet (first | (go_at_call 66; (with_reducible refine (spec_Base.calls  t350 t351 t352 _ A45.out).mono ?_); rintro e w46 ⟨rfl, hb⟩; replace BK349 := bB BK349 hb; replace HB := bS HB hb; (try clear hb); obtain ⟨hcz47_0, hcz47_1, hcz47_2, hfz47_0, hfz47_1, hfz47_2⟩ := bK3 (w := w46) BK349)); try go_wp2_with (first | (go_at_call 66; (with_reducible refine (spec_Base.calls  t350 t351 t352 _ A45.out).mono ?_); rintro e w46 ⟨rfl, hb⟩; replace BK349 := bB BK349 hb; replace HB := bS HB hb; (try clear hb); obtain ⟨hcz47_0, hcz47_1, hcz47_2, hfz47_0, hfz47_1, hfz47_2⟩ := bK3 (w := w46) BK349)))
    refine rC gb349 28 #[.int .i64 t350, .int .i64 t351, .bool t352] (bU BK349) Tryz.underlying28 ?_
    exact ⟨rR, bZ HB⟩
def spec_SignWith.f (k : Nat) (a0 : Int) (a1 : ByteArray) : Option (Int × Int × Bool) := (spec_ScOf.f a0).bind fun t366 => ((spec_HashPoint.f k a1).bind fun bt367 => ((spec_PointTimes.f k t366 bt367.1 bt367.2.1 bt367.2.2).bind fun bt370 => (some (bt370.1, bt370.2.1, bt370.2.2))))
set_option maxHeartbeats 8000000 in
set_option maxRecDepth 100000 in
theorem spec_SignWith.calls (k : Nat) (a0 : Int) (a1 : ByteArray) (r1 : Int) (r2 : Int) (r3 : Bool) (w : World) (h : spec_SignWith.f k a0 a1 = some (r1, r2, r3)) :
  Calls Tryz.prog 52 #[.int .i64 a0, .string a1] w fun e w' => e = .returned (.agg #[.int .i64 r1, .int .i64 r2, .bool r3]) ∧ Below w.heap.size w w' := by
 have hu28 := Tryz.underlying28
 have HB := Aside0.mk (Below.refl w.heap.size w)
 have H : ((spec_ScOf.f a0).bind fun t366 => ((spec_HashPoint.f k a1).bind fun bt367 => ((spec_PointTimes.f k t366 bt367.1 bt367.2.1 bt367.2.2).bind fun bt370 => (some (bt370.1, bt370.2.1, bt370.2.2))))) = some (r1, r2, r3) := h
 clear h
 replace H := Option.bind_eq_some_iff.mp H
 obtain ⟨t366, A30, H⟩ := H
 have A3 := Aside0.mk A30
 clear A30
 replace H := Option.bind_eq_some_iff.mp H
 obtain ⟨⟨t367, t368, t369⟩, A40, H⟩ := H
 have A4 := Aside0.mk A40
 clear A40
 replace H := Option.bind_eq_some_iff.mp H
 obtain ⟨⟨t370, t371, t372⟩, A50, H⟩ := H
 have A5 := Aside0.mk A50
 clear A50
 simp only [Option.some.injEq, Prod.mk.injEq] at H
 obtain ⟨rfl, rfl, rfl⟩ := H
 go_enter Tryz.func52, Tryz.ntmps52
 go_wp2_with (first | (refine gB 4 #[.int .i64 0, .int .i64 0, .bool false] 28 ?_; intro gb365 hg w6 BK365 hb; have GW365 := bG HB hg; replace HB := bS HB hb; clear hb hg) | (refine gC (some 6) Tryz.func16 #[.int .i64 a0] ?_; (with_reducible refine (spec_ScOf.calls a0 t366 _ A3.out).mono ?_); rintro e w' ⟨rfl, ⟨nd, rfl⟩⟩; refine ⟨_, rfl, ?_⟩; (try simp only [World.drewN_drewN]); (try (rw [drewN_self w6]; generalize hq_ : World.drewN w6 _ = w6; replace BK365 : Aside0 (w6.heap[gb365]? = some (.cells #[.int .i64 0, .int .i64 0, .bool false] 28 (0, 0))) := ⟨by rw [← hq_]; exact (bP BK365)⟩; replace HB : Aside0 (Below w.heap.size w w6) := ⟨by rw [← hq_]; exact (bZ HB)⟩; clear hq_))) | (refine gC (some 8) Tryz.func22 #[.string a1] ?_; (with_reducible refine (spec_HashPoint.calls k a1 t367 t368 t369 _ A4.out).mono ?_); rintro e w7 ⟨rfl, hb⟩; refine ⟨_, rfl, ?_⟩; replace BK365 := bB BK365 hb; replace HB := bS HB hb; (try clear hb)) | (refine gC (some 9) Tryz.func65 #[.int .i64 t366, .agg #[.int .i64 t367, .int .i64 t368, .bool t369]] ?_; (with_reducible refine (spec_PointTimes.calls k t366 t367 t368 t369 t370 t371 t372 _ A5.out).mono ?_); rintro e w8 ⟨rfl, hb⟩; refine ⟨_, rfl, ?_⟩; replace BK365 := bB BK365 hb; replace HB := bS HB hb; (try clear hb); obtain ⟨hcz9_0, hcz9_1, hcz9_2, hfz9_0, hfz9_1, hfz9_2⟩ := bK3 (w := w8) BK365))
 refine rC gb365 28 #[.int .i64 t370, .int .i64 t371, .bool t372] (bU BK365) Tryz.underlying28 ?_
 exact ⟨rR, bZ HB⟩
end Go.Proofs.YtkdmplfldfagnaaGreatDoor.Pf
end
section
namespace Go.Proofs.YtkdmplfldfagnaaGreatDoor.Pf
open Go.RowKit Go.Proofs.YtkdmplfldfagnaaGreatDoorW.PrintWords Go.Proofs.YtkdmplfldfagnaaGreatDoorW.PrintLast Go.Proofs.YtkdmplfldfagnaaGreatDoorW.PrintMore
attribute [local go_sem] max2_int min2_int max_two min_two max_three min_three max_four min_four   -- for this text's walks alone
set_option linter.unusedVariables false
set_option linter.unusedSimpArgs false
mutual
def spec_DrawAllSigOk.l0 : Nat → Int → ByteArray → List (S28) → Int → Int → List Int → Int → Int → Option ((List (S28)) × ByteArray × Int × Int × Bool)
 | 0, _, _, _, _, _, _, _, _ => none
 | k + 1, x6, x7, x8, x9, x10, x763000, x763001, x763002 => (spec_l01Below.f x763000 x763001 x763002 5).bind fun bt775 => (if x10 < bt775.1 then ((spec_l09Secret.f x763000 bt775.2.1 bt775.2.2).bind fun bt778 => ((spec_KeyOf.f k bt778.1).bind fun bt781 => (if x8.length < 5864062014805 then ((spec_ScAdd.f x9 bt778.1).bind fun t787 => (spec_DrawAllSigOk.l0 k x6 x7 (x8 ++ [(⟨bt781.1, bt781.2.1, bt781.2.2⟩ : S28)]) t787 (wrap64 (x10 + 1)) x763000 bt778.2.1 bt778.2.2)) else (none)))) else ((spec_SignWith.f k x9 x7).bind fun bt788 => (if x6 = 0 then (spec_DrawAllSigOk.j1 k x6 x7 x8 (decide ((x8.length : Int) > 0)) bt788.1 bt788.2.1 bt788.2.2) else (spec_DrawAllSigOk.j1 k x6 x7 x8 false bt788.1 bt788.2.1 bt788.2.2))))
def spec_DrawAllSigOk.j1 : Nat → Int → ByteArray → List (S28) → Bool → Int → Int → Bool → Option ((List (S28)) × ByteArray × Int × Int × Bool)
 | 0, _, _, _, _, _, _, _ => none
 | k + 1, x6, x7, x8, x47, x792000, x792001, x792002 => if x47 = true then (if 1 ≤ (x8.length : Int) then ((some (x8.drop (1 : Int).toNat : List (S28))).bind fun y792 => (if x6 = 1 then (if x7.size + 1 ≤ 9223372036854775807 then (some (y792, x7 ++ (⟨#[120]⟩ : ByteArray), x792000, x792001, x792002)) else (none)) else (some (y792, x7, x792000, x792001, x792002)))) else (none)) else (if x6 = 1 then (if x7.size + 1 ≤ 9223372036854775807 then (some (x8, x7 ++ (⟨#[120]⟩ : ByteArray), x792000, x792001, x792002)) else (none)) else (some (x8, x7, x792000, x792001, x792002)))
end
def spec_DrawAllSigOk.f (k : Nat) (l0 : List Int) : Option ((List (S28)) × ByteArray × Int × Int × Bool) := (spec_l01New.f k l0).bind fun bt759 => ((spec_l01Below.f bt759.1 bt759.2.1 bt759.2.2 6).bind fun bt763 => ((spec_l01Below.f bt759.1 bt763.2.1 bt763.2.2 6).bind fun bt766 => ((spec_l01Text.f k bt759.1 bt766.2.1 bt766.2.2 bt766.1).bind fun bt769 => (spec_DrawAllSigOk.l0 k bt763.1 bt769.1 (([] : List (S28))) 0 0 bt759.1 bt769.2.1 bt769.2.2))))
set_option maxHeartbeats 8000000 in
set_option maxRecDepth 100000 in
theorem spec_DrawAllSigOk.calls (k : Nat) (A0 : Option Addr) (c0 : Nat) (l0 : List Int) (r1 : List (S28)) (r2 : ByteArray) (r3 : Int) (r4 : Int) (r5 : Bool) (w : World) (hr0 : Kd.C (Kd.int .u8) w A0 l0.length l0) (hc0 : l0.length ≤ c0) (h : spec_DrawAllSigOk.f k l0 = some (r1, r2, r3, r4, r5)) :
  Calls Tryz.prog 12 #[.slice A0 l0.length c0] w fun e w' => ∃ v0_ : Value, e = .returned (.tuple #[v0_, .string r2, .agg #[.int .i64 r3, .int .i64 r4, .bool r5]]) ∧ Kd.Q k28 28 w' w.heap.size (fun _ => True) v0_ r1 ∧ Below w.heap.size w w' := by
 have hu28 := Tryz.underlying28
 have HR0 := Aside0.mk hr0
 have HC0 := Aside0.mk hc0
 clear hr0 hc0
 have HB := Aside0.mk (Below.refl w.heap.size w)
 have H : ((spec_l01New.f k l0).bind fun bt759 => ((spec_l01Below.f bt759.1 bt759.2.1 bt759.2.2 6).bind fun bt763 => ((spec_l01Below.f bt759.1 bt763.2.1 bt763.2.2 6).bind fun bt766 => ((spec_l01Text.f k bt759.1 bt766.2.1 bt766.2.2 bt766.1).bind fun bt769 => (spec_DrawAllSigOk.l0 k bt763.1 bt769.1 (([] : List (S28))) 0 0 bt759.1 bt769.2.1 bt769.2.2))))) = some (r1, r2, r3, r4, r5) := h
 clear h
 replace H := Option.bind_eq_some_iff.mp H
 obtain ⟨⟨t759, t760, t761⟩, A20, H⟩ := H
 have A2 := Aside0.mk A20
 clear A20
 replace H := Option.bind_eq_some_iff.mp H
 obtain ⟨⟨t763, t764, t765⟩, A30, H⟩ := H
 have A3 := Aside0.mk A30
 clear A30
 replace H := Option.bind_eq_some_iff.mp H
 obtain ⟨⟨t766, t767, t768⟩, A40, H⟩ := H
 have A4 := Aside0.mk A40
 clear A40
 replace H := Option.bind_eq_some_iff.mp H
 obtain ⟨⟨t769, t770, t771⟩, A50, H⟩ := H
 have A5 := Aside0.mk A50
 clear A50
 obtain ⟨y772, hy772⟩ : ∃ y_ : List (S28), y_ = (([] : List (S28))) := ⟨_, rfl⟩
 replace H : (spec_DrawAllSigOk.l0 k t763 t769 y772 0 0 t759 t770 t771) = some (r1, r2, r3, r4, r5) := by first | (rw [hy772]; with_reducible exact H) | (have H2_ := (Option.bind_some _ _).symm.trans H; rw [hy772]; with_reducible exact H2_) | (have H2_ := (Option.bind_some _ _).symm.trans H; with_reducible exact H2_) | with_reducible exact H | (rw [hy772]; exact H) | exact H
 have Ny772 := Aside0.mk hy772
 clear hy772
 have H' := Aside0.mk H
 clear H
 go_enter Tryz.func12, Tryz.ntmps12
 go_wp2_with (first | ((with_reducible refine gate_dst (N := 4) rfl ?_); (try (refine gate_guard (by rfl) ?_; dsimp only)); refine box_event ?hg (N := 4) ?hd (cs := #[.int .i64 0, .int .i64 0, .bool false]) (t := 28) ?hr ?_; (case hd => rfl); (case hg => rfl); (case hr => first | (go_simp; done) | (go_simp; rfl)); intro gb758 hg w6 hbox hb; have BK758 := Aside0.mk (hbox); have GW758 := bG HB hg; have GE758 := bG HB hg; replace HB := bS HB hb; clear hb hbox hg) | (refine gC (some 14) Tryz.func42 #[.slice A0 l0.length c0] ?_; (with_reducible refine (spec_l01New.calls k _ _ l0 t759 t760 t761 w _ ?side1 ?side2 ?side3 A2.out).mono ?_); (case side1 => repeat (first | (with_reducible first | exact HB.out | apply below_alloc | apply pw_below_drewN | apply below_drew1 | refine below_set ?_ GE758.out) | exact HB.out)); (case side2 => exact HR0.out); (case side3 => exact HC0.out); rintro e w7 ⟨g762, rfl, hi, hb, hb2⟩; refine ⟨_, rfl, ?_⟩; replace HB := Aside0.mk (hb); have HI762 := Aside0.mk (hi); have NB762_758 := Aside0.mk (IsS90.ne_blk hi (blk_below (bP BK758) hb2) (by decide)); have NB758_762 := Aside0.mk (Ne.symm (IsS90.ne_blk hi (blk_below (bP BK758) hb2) (by decide))); replace BK758 := Aside0.mk (blk_below (bP BK758) hb2); (try clear hb)) | (refine gC (some 16) Tryz.func44 #[.pointer (some ⟨g762, 0, none⟩), .int .i64 6] ?_; (with_reducible refine (spec_l01Below.calls g762 t759 t760 t761 6 t763 t764 t765 w _ ?side1 ?side2 A3.out).mono ?_); (case side1 => exact iZ90 HI762); (case side2 => exact jZ90 HB HI762); rintro e w8 ⟨rfl, hi, hb, hk⟩; refine ⟨_, rfl, ?_⟩; replace BK758 := Aside0.mk (KeepBut.blk hk (g' := gb758) (o := .cells #[.int .i64 0, .int .i64 0, .bool false] 28 (0, 0)) (bP BK758) NB758_762.out (by simp)); replace HB := Aside0.mk (hb); replace HI762 := Aside0.mk (hi); (try clear hb)) | (refine gC (some 19) Tryz.func44 #[.pointer (some ⟨g762, 0, none⟩), .int .i64 6] ?_; (with_reducible refine (spec_l01Below.calls g762 t759 t764 t765 6 t766 t767 t768 w _ ?side1 ?side2 A4.out).mono ?_); (case side1 => exact iZ90 HI762); (case side2 => exact jZ90 HB HI762); rintro e w9 ⟨rfl, hi, hb, hk⟩; refine ⟨_, rfl, ?_⟩; replace BK758 := Aside0.mk (KeepBut.blk hk (g' := gb758) (o := .cells #[.int .i64 0, .int .i64 0, .bool false] 28 (0, 0)) (bP BK758) NB758_762.out (by simp)); replace HB := Aside0.mk (hb); replace HI762 := Aside0.mk (hi); (try clear hb)) | (refine gC (some 20) Tryz.func49 #[.pointer (some ⟨g762, 0, none⟩), .int .i64 t766] ?_; (with_reducible refine (spec_l01Text.calls k g762 t759 t767 t768 t766 t769 t770 t771 w _ ?side1 ?side2 A5.out).mono ?_); (case side1 => exact iZ90 HI762); (case side2 => exact jZ90 HB HI762); rintro e w10 ⟨rfl, hi, hb, hk⟩; refine ⟨_, rfl, ?_⟩; replace BK758 := Aside0.mk (KeepBut.blk hk (g' := gb758) (o := .cells #[.int .i64 0, .int .i64 0, .bool false] 28 (0, 0)) (bP BK758) NB758_762.out (by simp)); replace HB := Aside0.mk (hb); replace HI762 := Aside0.mk (hi); (try clear hb)) | ((with_reducible refine gate_dst (N := 21) rfl ?_); (try (refine gate_guard (by rfl) ?_; dsimp only)); refine Kd.R_lit k28 _ 28 ?hg (N := 21) ?hd (xs := ([] : List (S28))) (inner := []) (ok := fun _ => True) (okp := fun _ => True) ?hr ?hp (fun _ hk => hk) trivial (Below.refl _ _) (Nat.le_refl _) (by simp) ?_; (case hd => rfl); (case hg => rfl); (case hr => first | (go_simp; done) | (go_simp; rfl)); (case hp => exact (Reps.none _ _)); intro v773 w11 ho12 hb hg_ hnew_; clear hg_ hnew_; (first | rw [← Ny772.out] at ho12 | (simp only [Int.reduceToNat] at ho12; rw [← Ny772.out] at ho12)); have HO774 := Aside0.mk (Kd.R_lower (Kd.R_newB ho12 (bP BK758)) (below_size (jZ90 HB HI762))); replace BK758 := bB BK758 hb; replace HB := Aside0.mk (below_step (jZ90 HB HI762) hb); replace HI762 := Aside0.mk (IsS90.below (iZ90 HI762) hb); clear hb ho12))
 go_loopg [8, 9, 10] k (fun kq v8 v9 v10 w' => ∃ (x8_1 : List (S28)) (x9_1 : Int) (x10_1 : Int) (x763001_1 : Int) (x763002_1 : Int), v9 = .int .i64 x9_1 ∧ v10 = .int .i64 x10_1 ∧ Aside0 (spec_DrawAllSigOk.l0 kq t763 t769 x8_1 x9_1 x10_1 t759 x763001_1 x763002_1 = some (r1, r2, r3, r4, r5)) ∧ Aside0 (kq ≤ k) ∧ Aside0 (Kd.Q k28 28 w' w.heap.size (fun k_ => k_ ≠ gb758) v8 x8_1) ∧ Aside0 (w'.heap[gb758]? = some (.cells #[.int .i64 0, .int .i64 0, .bool false] 28 (0, 0))) ∧ Aside0 (IsS90 w w' g762 t759 x763001_1 x763002_1) ∧ Aside0 (Below w.heap.size w w'))
 case atStart => exact ⟨(y772), (0), (0), (t770), (t771), rS, rS, H', ⟨Nat.le_refl _⟩, ⟨Kd.Q_of_R (by (with_reducible repeat (first | apply Kd.R_alloc | apply Kd.R_drewN | apply Kd.R_drew)); exact Kd.R_mono HO774.out (fun _ hk => hk.2))⟩, ⟨bP BK758⟩, ⟨iZ90 HI762⟩, ⟨jZ90 HB HI762⟩⟩
 case round =>
  clear H'
  try clear c1
  try clear p2
  try clear c4
  try clear c12
  obtain ⟨x8_1, x9_1, x10_1, x763001_1, x763002_1, rfl, rfl, HA, HK1, HO_8, BK758, HI762, HB⟩ := hrel
  cases gk with
  | zero => exact absurd HA.out (by simp [spec_DrawAllSigOk.l0])
  | succ k1 =>
   have H := HA.out
   clear HA
   simp only [spec_DrawAllSigOk.l0] at H
   replace H := Option.bind_eq_some_iff.mp H
   obtain ⟨⟨t775, t776, t777⟩, A130, H⟩ := H
   have A13 := Aside0.mk A130
   clear A130
   by_cases c14 : x10_1 < t775
   ·rw [if_pos c14] at H
    have c14b0 := decide_eq_true c14
    clear c14
    replace H := Option.bind_eq_some_iff.mp H
    obtain ⟨⟨t778, t779, t780⟩, A150, H⟩ := H
    have A15 := Aside0.mk A150
    clear A150
    replace H := Option.bind_eq_some_iff.mp H
    obtain ⟨⟨t781, t782, t783⟩, A160, H⟩ := H
    have A16 := Aside0.mk A160
    clear A160
    by_cases c17 : x8_1.length < 5864062014805
    ·rw [if_pos c17] at H
     have LMc17 := Aside0.mk c17
     clear c17
     obtain ⟨y784, hy784⟩ : ∃ y_ : List (S28), y_ = (x8_1 ++ [(⟨t781, t782, t783⟩ : S28)]) := ⟨_, rfl⟩
     replace H : ((spec_ScAdd.f x9_1 t778).bind fun t787 => (spec_DrawAllSigOk.l0 k1 t763 t769 y784 t787 (wrap64 (x10_1 + 1)) t759 t779 t780)) = some (r1, r2, r3, r4, r5) := by first | (rw [hy784]; with_reducible exact H) | (have H2_ := (Option.bind_some _ _).symm.trans H; rw [hy784]; with_reducible exact H2_) | (have H2_ := (Option.bind_some _ _).symm.trans H; with_reducible exact H2_) | with_reducible exact H | (rw [hy784]; exact H) | exact H
     have Ny784 := Aside0.mk hy784
     clear hy784
     replace H := Option.bind_eq_some_iff.mp H
     obtain ⟨t787, A180, H⟩ := H
     have A18 := Aside0.mk A180
     clear A180
     have H' := Aside0.mk H
     clear H
     go_wp2_with (first | (refine gC (some 24) Tryz.func44 #[.pointer (some ⟨g762, 0, none⟩), .int .i64 5] ?_; (with_reducible refine (spec_l01Below.calls g762 t759 x763001_1 x763002_1 5 t775 t776 t777 w _ ?side1 ?side2 A13.out).mono ?_); (case side1 => exact iZ90 HI762); (case side2 => exact jZ90 HB HI762); rintro e w19 ⟨rfl, hi, hb, hk⟩; refine ⟨_, rfl, ?_⟩; replace HO_8 := Aside0.mk (Kd.Q_mono (Kd.Q_keep (IsS90.apartQ (show IsS90 w _ g762 t759 x763001_1 x763002_1 from iZ90 HI762) (by (with_reducible repeat (first | apply Kd.Q_alloc | apply Kd.Q_drewN | apply Kd.Q_drew)); exact HO_8.out) (by decide)) hk (fun _ h => h.2)) (fun _ h => h.1)); replace BK758 := Aside0.mk (KeepBut.blk hk (g' := gb758) (o := .cells #[.int .i64 0, .int .i64 0, .bool false] 28 (0, 0)) (bP BK758) NB758_762.out (by simp)); replace HB := Aside0.mk (hb); replace HI762 := Aside0.mk (hi); (try clear hb)) | (refine gC (some 29) Tryz.func50 #[.pointer (some ⟨g762, 0, none⟩)] ?_; (with_reducible refine (spec_l09Secret.calls g762 t759 t776 t777 t778 t779 t780 w _ ?side1 ?side2 A15.out).mono ?_); (case side1 => exact iZ90 HI762); (case side2 => exact jZ90 HB HI762); rintro e w20 ⟨rfl, hi, hb, hk⟩; refine ⟨_, rfl, ?_⟩; replace HO_8 := Aside0.mk (Kd.Q_mono (Kd.Q_keep (IsS90.apartQ (show IsS90 w _ g762 t759 t776 t777 from iZ90 HI762) (by (with_reducible repeat (first | apply Kd.Q_alloc | apply Kd.Q_drewN | apply Kd.Q_drew)); exact HO_8.out) (by decide)) hk (fun _ h => h.2)) (fun _ h => h.1)); replace BK758 := Aside0.mk (KeepBut.blk hk (g' := gb758) (o := .cells #[.int .i64 0, .int .i64 0, .bool false] 28 (0, 0)) (bP BK758) NB758_762.out (by simp)); replace HB := Aside0.mk (hb); replace HI762 := Aside0.mk (hi); (try clear hb)) | (refine gC (some 32) Tryz.func51 #[.int .i64 t778] ?_; (with_reducible refine (spec_KeyOf.calls k1 t778 t781 t782 t783 _ A16.out).mono ?_); rintro e w21 ⟨rfl, hb⟩; refine ⟨_, rfl, ?_⟩; replace HO_8 := Aside0.mk (Kd.Q_below (by (with_reducible repeat (first | apply Kd.Q_alloc | apply Kd.Q_drewN | apply Kd.Q_drew)); exact HO_8.out) hb); replace BK758 := bB BK758 hb; replace HB := Aside0.mk (below_step (jZ90 HB HI762) hb); replace HI762 := Aside0.mk (IsS90.below (iZ90 HI762) hb); (try clear hb)) | ((with_reducible refine gate_builtin (b := .append) (xs := #[.tmp 30, .tmp 33]) rfl ?_); (try (refine gate_guard (by rfl) ?_; dsimp only)); at_builtin; refine Kd.Q_append k28 (w0 := w) w.heap.size rfl (.tmp 30) (.tmp 33) 26 28 (.agg #[(.int .i64 0), (.int .i64 0), (.bool false)]) 24 rfl Tryz.underlying26 info28 rfl (by decide) (by omega) u8 x8_1 (⟨t781, t782, t783⟩ : S28) [.int .i64 t781, .int .i64 t782, .bool t783] (fun k_ => k_ ≠ gb758) (fun _ => False) rfl rfl ?aP (fun _ hk => hk.elim) ?aF ?aO ?aB ?aS ?aL ?_; (case aP => exact k28_mkM _ _ _ (⟨t781, t782, t783⟩ : S28)); (case aB => exact (jZ90 HB HI762)); (case aF => exact (fun k_ hk => Kd.freshB (bP BK758) k_ hk)); (case aO => exact (by (with_reducible repeat (first | apply Kd.Q_alloc | apply Kd.Q_drewN | apply Kd.Q_drew)); exact HO_8.out)); (case aS => exact (below_size (jZ90 HB HI762))); (case aL => have := LMc17.out; omega); intro v785 w22 ho hb hg hat; rw [← Ny784.out] at ho; replace BK758 := Aside0.mk (blk_grown (bP BK758) hg (Kd.Q_away HO_8.out (fun _ hk => hk))); replace HI762 := Aside0.mk (IsS90.grown (iZ90 HI762) hg (IsS90.own_neQ HI762.out HO_8.out (by decide))); replace HB := Aside0.mk (hb); have HO786 := Aside0.mk (ho); clear HO_8; clear ho hb hg hat) | (refine gC (some 37) Tryz.func11 #[.int .i64 x9_1, .int .i64 t778] ?_; (with_reducible refine (spec_ScAdd.calls x9_1 t778 t787 _ A18.out).mono ?_); rintro e w' ⟨rfl, ⟨nd, rfl⟩⟩; refine ⟨_, rfl, ?_⟩))
     go_roundg k1
     case measure => have := HK1.out; omega
     case rel => exact ⟨(y784), (t787), (wrap64 (x10_1 + 1)), (t779), (t780), rS, rS, H', ⟨by have := HK1.out; omega⟩, ⟨by (with_reducible repeat (first | apply Kd.Q_alloc | apply Kd.Q_drewN | apply Kd.Q_drew)); exact HO786.out⟩, ⟨bP BK758⟩, ⟨iZ90 HI762⟩, ⟨jZ90 HB HI762⟩⟩
    ·rw [if_neg c17] at H
     exact absurd H (by simp)
   ·rw [if_neg c14] at H
    have c14b0 := decide_eq_false c14
    clear c14
    replace H := Option.bind_eq_some_iff.mp H
    obtain ⟨⟨t788, t789, t790⟩, A230, H⟩ := H
    have A23 := Aside0.mk A230
    clear A230
    have HC24 := Aside0.mk H
    clear H
    go_upto_region 13 with (first | (refine gC (some 24) Tryz.func44 #[.pointer (some ⟨g762, 0, none⟩), .int .i64 5] ?_; (with_reducible refine (spec_l01Below.calls g762 t759 x763001_1 x763002_1 5 t775 t776 t777 w _ ?side1 ?side2 A13.out).mono ?_); (case side1 => exact iZ90 HI762); (case side2 => exact jZ90 HB HI762); rintro e w25 ⟨rfl, hi, hb, hk⟩; refine ⟨_, rfl, ?_⟩; replace HO_8 := Aside0.mk (Kd.Q_mono (Kd.Q_keep (IsS90.apartQ (show IsS90 w _ g762 t759 x763001_1 x763002_1 from iZ90 HI762) (by (with_reducible repeat (first | apply Kd.Q_alloc | apply Kd.Q_drewN | apply Kd.Q_drew)); exact HO_8.out) (by decide)) hk (fun _ h => h.2)) (fun _ h => h.1)); replace BK758 := Aside0.mk (KeepBut.blk hk (g' := gb758) (o := .cells #[.int .i64 0, .int .i64 0, .bool false] 28 (0, 0)) (bP BK758) NB758_762.out (by simp)); replace HB := Aside0.mk (hb); replace HI762 := Aside0.mk (hi); (try clear hb)) | (refine gC (some 40) Tryz.func52 #[.int .i64 x9_1, .string t769] ?_; (with_reducible refine (spec_SignWith.calls k1 x9_1 t769 t788 t789 t790 _ A23.out).mono ?_); rintro e w26 ⟨rfl, hb⟩; refine ⟨_, rfl, ?_⟩; replace HO_8 := Aside0.mk (Kd.Q_below (by (with_reducible repeat (first | apply Kd.Q_alloc | apply Kd.Q_drewN | apply Kd.Q_drew)); exact HO_8.out) hb); replace BK758 := bB BK758 hb; replace HB := Aside0.mk (below_step (jZ90 HB HI762) hb); replace HI762 := Aside0.mk (IsS90.below (iZ90 HI762) hb); (try clear hb)) | ((with_reducible refine gate_dst (N := 12) rfl ?_); (try (refine gate_guard (by rfl) ?_; dsimp only)); refine box_event ?hg (N := 12) ?hd (cs := #[.int .i64 0, .int .i64 0, .bool false]) (t := 28) ?hr ?_; (case hd => rfl); (case hg => rfl); (case hr => first | (go_simp; done) | (go_simp; rfl)); intro gb791 hg w27 hbox hb; replace HO_8 := Aside0.mk (Kd.Q_below (Kd.Q_elderB (by (with_reducible repeat (first | apply Kd.Q_alloc | apply Kd.Q_drewN | apply Kd.Q_drew)); exact HO_8.out) gb791 (Nat.le_of_eq hg.symm)) hb); have BK791 := Aside0.mk (hbox); have GW791 := Aside0.mk ((by rw [hg]; exact (below_size (jZ90 HB HI762)) : w.heap.size ≤ gb791)); have GE791 := Aside0.mk ((by rw [hg]; exact (below_size (jZ90 HB HI762)) : w.heap.size ≤ gb791)); replace HB := Aside0.mk (below_step (jZ90 HB HI762) hb); obtain ⟨NB758_791, NB791_758⟩ := bN BK758 hg; replace BK758 := bB BK758 hb; have NB762_791 := Aside0.mk ((by rw [hg]; exact Nat.ne_of_lt (IsS90.lt (show IsS90 w _ g762 t759 t776 t777 from iZ90 HI762)) : g762 ≠ gb791)); have NB791_762 := Aside0.mk ((by rw [hg]; exact Nat.ne_of_gt (IsS90.lt (show IsS90 w _ g762 t759 t776 t777 from iZ90 HI762)) : gb791 ≠ g762)); replace HI762 := Aside0.mk (IsS90.below (iZ90 HI762) hb); clear hb hbox hg; obtain ⟨hnb28, hnc28⟩ := nB NB791_758; obtain ⟨hnb29, hnc29⟩ := nB NB791_762; obtain ⟨hcz30_0, hcz30_1, hcz30_2, hfz30_0, hfz30_1, hfz30_2⟩ := bK3 (w := w27) BK791))
    (try simp only [Act.put, List.setIfInBounds_toArray, List.set_cons_zero, List.set_cons_succ])
    go_cut [47] (fun v47 wc => ∃ (kq : Nat) (x47_23 : Bool), v47 = .bool x47_23 ∧ Aside0 (spec_DrawAllSigOk.j1 kq t763 t769 x8_1 x47_23 t788 t789 t790 = some (r1, r2, r3, r4, r5)) ∧ Aside0 (kq ≤ k1) ∧ Aside0 (Kd.Q k28 28 wc w.heap.size (fun k_ => k_ ≠ gb758 ∧ k_ ≠ gb791) u8 x8_1) ∧ Aside0 (wc.heap[gb758]? = some (.cells #[.int .i64 0, .int .i64 0, .bool false] 28 (0, 0))) ∧ Aside0 (wc.heap[gb791]? = some (.cells #[.int .i64 t788, .int .i64 t789, .bool t790] 28 (0, 0))) ∧ Aside0 (Below w.heap.size w wc))
    case first =>
     have H := HC24.out
     clear HC24
     by_cases c31 : t763 = 0
     ·rw [if_pos c31] at H
      have c31b0 : (t763 == 0) = true := beq_iff_eq.mpr c31
      have c31b1 : (t763 != 0) = false := bne_eq_false_iff_eq.mpr c31
      clear c31
      (first | rw [c31b0] | (simp only [i64_w, i32_w]; rw [c31b0]) | rw [c31b1] | skip)
      have H' := Aside0.mk H
      clear H
      obtain ⟨Ao32, co32, eo32, _⟩ := Kd.Q_slice HO_8.out
      subst eo32
      go_wp2
      go_meet
      case rel => exact ⟨_, (decide ((x8_1.length : Int) > 0)), rS, H', ⟨by have := HK1.out; first | omega | exact Nat.le_refl _⟩, ⟨by (with_reducible repeat (first | apply Kd.Q_alloc | apply Kd.Q_drewN | apply Kd.Q_drew)); exact Kd.Q_mono (Kd.Q_far (p := ⟨gb791, 2, none⟩) (Kd.Q_far (p := ⟨gb791, 1, none⟩) (Kd.Q_far (p := ⟨gb791, 0, none⟩) (Kd.Q_mono HO_8.out (fun k_ hk => (⟨hk, hk.2⟩ : _ ∧ k_ ≠ gb791))) (fun _ hk => hk.2) (.int .i64 t788)) (fun _ hk => hk.2) (.int .i64 t789)) (fun _ hk => hk.2) (.bool t790)) (fun _ hk => ⟨hk.1.1, hk.1.2⟩)⟩, ⟨bP BK758⟩, ⟨bU BK791⟩, ⟨jZ90 HB HI762⟩⟩
     ·rw [if_neg c31] at H
      have c31b0 : (t763 == 0) = false := beq_eq_false_iff_ne.mpr c31
      have c31b1 : (t763 != 0) = true := bne_iff_ne.mpr c31
      (first | rw [c31b0] | (simp only [i64_w, i32_w]; rw [c31b0]) | rw [c31b1] | skip)
      have H' := Aside0.mk H
      clear H
      go_wp2
      go_meet
      case rel => exact ⟨_, (false), rS, H', ⟨by have := HK1.out; first | omega | exact Nat.le_refl _⟩, ⟨by (with_reducible repeat (first | apply Kd.Q_alloc | apply Kd.Q_drewN | apply Kd.Q_drew)); exact Kd.Q_mono (Kd.Q_far (p := ⟨gb791, 2, none⟩) (Kd.Q_far (p := ⟨gb791, 1, none⟩) (Kd.Q_far (p := ⟨gb791, 0, none⟩) (Kd.Q_mono HO_8.out (fun k_ hk => (⟨hk, hk.2⟩ : _ ∧ k_ ≠ gb791))) (fun _ hk => hk.2) (.int .i64 t788)) (fun _ hk => hk.2) (.int .i64 t789)) (fun _ hk => hk.2) (.bool t790)) (fun _ hk => ⟨hk.1.1, hk.1.2⟩)⟩, ⟨bP BK758⟩, ⟨bU BK791⟩, ⟨jZ90 HB HI762⟩⟩
    case rest =>
     clear HC24
     try clear c1
     try clear c2
     try clear p2
     try clear c3
     try clear c4
     try clear c5
     try clear p6
     try clear c11
     try clear c12
     try clear c14
     try clear c14b0
     try clear c17
     try clear c28
     try clear c29
     try clear c31
     try clear c31b0
     try clear c31b1
     try clear hcz30_0
     try clear hcz30_1
     try clear hcz30_2
     try clear hfz30_0
     try clear hfz30_1
     try clear hfz30_2
     try clear p2
     obtain ⟨kq, x47_23, rfl, HA, HJ23, HO_8, BK758, BK791, HB⟩ := hcut
     cases kq with
     | zero => exact absurd HA.out (by simp [spec_DrawAllSigOk.j1])
     | succ kj23 =>
      have H := HA.out
      clear HA
      simp only [spec_DrawAllSigOk.j1] at H
      by_cases c33 : x47_23 = true
      ·subst c33
       rw [if_pos rfl] at H
       by_cases c34 : 1 ≤ (x8_1.length : Int)
       ·rw [if_pos c34] at H
        have c34b0 := eq_true c34
        have c34b1 := decide_eq_true c34
        clear c34
        obtain ⟨y792, hy792⟩ : ∃ y_ : List (S28), y_ = (x8_1.drop (1 : Int).toNat) := ⟨_, rfl⟩
        replace H : (if t763 = 1 then (if t769.size + 1 ≤ 9223372036854775807 then (some (y792, t769 ++ (⟨#[120]⟩ : ByteArray), t788, t789, t790)) else (none)) else (some (y792, t769, t788, t789, t790))) = some (r1, r2, r3, r4, r5) := by first | (rw [hy792]; with_reducible exact H) | (have H2_ := (Option.bind_some _ _).symm.trans H; rw [hy792]; with_reducible exact H2_) | (have H2_ := (Option.bind_some _ _).symm.trans H; with_reducible exact H2_) | with_reducible exact H | (rw [hy792]; exact H) | exact H
        have Ny792 := Aside0.mk hy792
        clear hy792
        by_cases c35 : t763 = 1
        ·rw [if_pos c35] at H
         have c35b0 : (t763 == 1) = true := beq_iff_eq.mpr c35
         have c35b1 : (t763 != 1) = false := bne_eq_false_iff_eq.mpr c35
         clear c35
         by_cases c36 : t769.size + 1 ≤ 9223372036854775807
         ·rw [if_pos c36] at H
          have c36b0 := eq_true c36
          have c36b1 := decide_eq_true c36
          try have c36b2 : (9223372036854775807 < t769.size + 1) = False := eq_false (Nat.not_lt.2 c36)
          try simp only [ByteArray.size_append] at c36b2
          simp only [Option.some.injEq, Prod.mk.injEq] at H
          obtain ⟨rfl, rfl, rfl, rfl, rfl⟩ := H
          obtain ⟨Ao37, co37, eo37, _⟩ := Kd.Q_slice HO_8.out
          subst eo37
          have q38 : (1 : Int) ≤ ((x8_1.length : Int) : Int) := of_decide_eq_true (by first | (with_reducible assumption) | assumption)
          obtain ⟨i038, hi038, _, hsz38, _⟩ := info_parts info28
          have hcut38 := cut_from (P := Tryz.prog) 26 28 .i64 Tryz.underlying26 hi038 3 hsz38 Ao37 x8_1.length co37 1 (by omega) q38
          have hr38 := Kd.Q_drop (k := (1 : Int).toNat) HO_8.out (by omega)
          obtain ⟨A38, hA38⟩ : ∃ A1, A1 = (if co37 = (1 : Int).toNat then Ao37 else (Ao37 : Option Addr).map (·.add ((1 : Int).toNat * 3))) := ⟨_, rfl⟩
          obtain ⟨c38, hc38⟩ : ∃ c1, c1 = co37 - (1 : Int).toNat := ⟨_, rfl⟩
          have hy38 : y792.length = x8_1.length - (1 : Int).toNat := (by rw [Ny792.out, List.length_drop])
          rw [← Ny792.out] at hr38
          rw [← hy38, ← hA38, ← hc38] at hcut38
          replace hr38 : Kd.Q k28 28 wc w.heap.size (fun k_ => k_ ≠ gb758 ∧ k_ ≠ gb791) (.slice A38 y792.length c38) y792 := (by rw [hA38, hc38, hy38]; exact hr38)
          have HE38 : Aside0 ((Value.slice A38 y792.length c38).ownBlock = (.slice Ao37 x8_1.length co37 : Value).ownBlock) := ⟨by rw [hA38]; split <;> (cases (Ao37 : Option Addr) <;> rfl)⟩
          clear hy38 hi038 hsz38 HO_8 hA38 hc38
          have HO794 := Aside0.mk hr38
          clear hr38
          replace q38 := eq_true q38
          try go_wp2
          replace HO794 := Aside0.mk (Kd.Q_drew HO794.out)
          replace BK758 := Aside0.mk (blk_drew BK758.out)
          replace BK791 := Aside0.mk (blk_drew BK791.out)
          replace HB := Aside0.mk (below_drew1 HB.out)
          refine start_ (n := 6) (S := fun w' => SQ3 w' gb791 (.int .i64 t788) (.int .i64 t789) (.bool t790)) (ds := []) #[false, false, false, false, false, false] (by kernel_rfl) rfl rfl (bT3 BK791) (fun hHeld => ?_)
          generalize wc.drew = w39 at HO794 BK758 BK791 HB hHeld ⊢
          refine pJ 0 (some 54) ?_
          refine pJ 1 (some 55) ?_
          refine pJ 3 (some 2) ?_
          refine pJ 4 (some 3) ?_
          refine tJ 2 (some 56) hHeld ?_
          refine one_ (i := 5) (N := none) #[true, true, true, true, true, true] rfl rfl (by kernel_rfl) (by decide) (fun K hK => ?_)
          have hs40 : w39.cell? ⟨gb758, 0, none⟩ = some (.int .i64 0) := bc BK758 0
          have hfs40 := blk_frozen BK758.out 0
          obtain ⟨hns40_1, hms40_1⟩ := nB NB791_758
          have hs41 : w39.cell? ⟨gb758, 1, none⟩ = some (.int .i64 0) := bc BK758 1
          have hfs41 := blk_frozen BK758.out 1
          obtain ⟨hns41_1, hms41_1⟩ := nB NB791_758
          have hs42 : w39.cell? ⟨gb758, 2, none⟩ = some (.bool false) := bc BK758 2
          have hfs42 := blk_frozen BK758.out 2
          obtain ⟨hns42_1, hms42_1⟩ := nB NB791_758
          refine skip_ (w1 := ?_) (by rfl) rfl ?_ ?_
          rotate_left
          ·go_simp
           rfl
          refine hK.out _ _ ⟨((cell_far (p := ⟨gb758, _, none⟩) NB791_758.out _).trans (((cell_far (p := ⟨gb758, _, none⟩) NB791_758.out _).trans (((cell_far (p := ⟨gb758, _, none⟩) NB791_758.out _).trans (hHeld.1)))))), ((cell_far (p := ⟨gb758, _, none⟩) NB791_758.out _).trans (((cell_far (p := ⟨gb758, _, none⟩) NB791_758.out _).trans (((cell_far (p := ⟨gb758, _, none⟩) NB791_758.out _).trans (hHeld.2.1)))))), ((cell_far (p := ⟨gb758, _, none⟩) NB791_758.out _).trans (((cell_far (p := ⟨gb758, _, none⟩) NB791_758.out _).trans (((cell_far (p := ⟨gb758, _, none⟩) NB791_758.out _).trans (hHeld.2.2))))))⟩ (fun hHeld => ?_)
          clear hK K
          refine done_ (by kernel_rfl) ?_
          try go_wp2
          refine bodyPost_ret (results_list (rs := [.tmp 2, .tmp 3, .cell 4 28]) rfl (by simp) (.tmp (.tmp (.cell gb758 28 #[.int .i64 t788, .int .i64 t789, .bool t790] (0, 0) _ rfl (bU BK758) Tryz.underlying28 rfl (by kernel_rfl) .nil)))) rfl ?_
          exact ⟨_, by first | rfl | (simp [errW_none, errW_some] <;> rfl) | (simp [*, errW_none, errW_some] <;> rfl), by (with_reducible repeat (first | apply Kd.Q_alloc | apply Kd.Q_drewN | apply Kd.Q_drew)); exact Kd.Q_mono (Kd.Q_far (p := ⟨gb758, 2, none⟩) (Kd.Q_far (p := ⟨gb758, 1, none⟩) (Kd.Q_far (p := ⟨gb758, 0, none⟩) (Kd.Q_mono HO794.out (fun k_ hk => (⟨hk, hk.1⟩ : _ ∧ k_ ≠ gb758))) (fun _ hk => hk.2) (.int .i64 t788)) (fun _ hk => hk.2) (.int .i64 t789)) (fun _ hk => hk.2) (.bool t790)) (fun _ hk => trivial), bZ HB⟩
         ·rw [if_neg c36] at H
          exact absurd H (by simp)
        ·rw [if_neg c35] at H
         have c35b0 : (t763 == 1) = false := beq_eq_false_iff_ne.mpr c35
         have c35b1 : (t763 != 1) = true := bne_iff_ne.mpr c35
         simp only [Option.some.injEq, Prod.mk.injEq] at H
         obtain ⟨rfl, rfl, rfl, rfl, rfl⟩ := H
         obtain ⟨Ao43, co43, eo43, _⟩ := Kd.Q_slice HO_8.out
         subst eo43
         have q44 : (1 : Int) ≤ ((x8_1.length : Int) : Int) := of_decide_eq_true (by first | (with_reducible assumption) | assumption)
         obtain ⟨i044, hi044, _, hsz44, _⟩ := info_parts info28
         have hcut44 := cut_from (P := Tryz.prog) 26 28 .i64 Tryz.underlying26 hi044 3 hsz44 Ao43 x8_1.length co43 1 (by omega) q44
         have hr44 := Kd.Q_drop (k := (1 : Int).toNat) HO_8.out (by omega)
         obtain ⟨A44, hA44⟩ : ∃ A1, A1 = (if co43 = (1 : Int).toNat then Ao43 else (Ao43 : Option Addr).map (·.add ((1 : Int).toNat * 3))) := ⟨_, rfl⟩
         obtain ⟨c44, hc44⟩ : ∃ c1, c1 = co43 - (1 : Int).toNat := ⟨_, rfl⟩
         have hy44 : y792.length = x8_1.length - (1 : Int).toNat := (by rw [Ny792.out, List.length_drop])
         rw [← Ny792.out] at hr44
         rw [← hy44, ← hA44, ← hc44] at hcut44
         replace hr44 : Kd.Q k28 28 wc w.heap.size (fun k_ => k_ ≠ gb758 ∧ k_ ≠ gb791) (.slice A44 y792.length c44) y792 := (by rw [hA44, hc44, hy44]; exact hr44)
         have HE44 : Aside0 ((Value.slice A44 y792.length c44).ownBlock = (.slice Ao43 x8_1.length co43 : Value).ownBlock) := ⟨by rw [hA44]; split <;> (cases (Ao43 : Option Addr) <;> rfl)⟩
         clear hy44 hi044 hsz44 HO_8 hA44 hc44
         have HO794 := Aside0.mk hr44
         clear hr44
         replace q44 := eq_true q44
         try go_wp2
         replace HO794 := Aside0.mk (Kd.Q_drew HO794.out)
         replace BK758 := Aside0.mk (blk_drew BK758.out)
         replace BK791 := Aside0.mk (blk_drew BK791.out)
         replace HB := Aside0.mk (below_drew1 HB.out)
         refine start_ (n := 6) (S := fun w' => SQ3 w' gb791 (.int .i64 t788) (.int .i64 t789) (.bool t790)) (ds := []) #[false, false, false, false, false, false] (by kernel_rfl) rfl rfl (bT3 BK791) (fun hHeld => ?_)
         generalize wc.drew = w45 at HO794 BK758 BK791 HB hHeld ⊢
         refine pJ 0 (some 54) ?_
         refine pJ 1 (some 55) ?_
         refine pJ 3 (some 2) ?_
         refine pJ 4 (some 3) ?_
         refine tJ 2 (some 56) hHeld ?_
         refine one_ (i := 5) (N := none) #[true, true, true, true, true, true] rfl rfl (by kernel_rfl) (by decide) (fun K hK => ?_)
         have hs46 : w45.cell? ⟨gb758, 0, none⟩ = some (.int .i64 0) := bc BK758 0
         have hfs46 := blk_frozen BK758.out 0
         obtain ⟨hns46_1, hms46_1⟩ := nB NB791_758
         have hs47 : w45.cell? ⟨gb758, 1, none⟩ = some (.int .i64 0) := bc BK758 1
         have hfs47 := blk_frozen BK758.out 1
         obtain ⟨hns47_1, hms47_1⟩ := nB NB791_758
         have hs48 : w45.cell? ⟨gb758, 2, none⟩ = some (.bool false) := bc BK758 2
         have hfs48 := blk_frozen BK758.out 2
         obtain ⟨hns48_1, hms48_1⟩ := nB NB791_758
         refine skip_ (w1 := ?_) (by rfl) rfl ?_ ?_
         rotate_left
         ·go_simp
          rfl
         refine hK.out _ _ ⟨((cell_far (p := ⟨gb758, _, none⟩) NB791_758.out _).trans (((cell_far (p := ⟨gb758, _, none⟩) NB791_758.out _).trans (((cell_far (p := ⟨gb758, _, none⟩) NB791_758.out _).trans (hHeld.1)))))), ((cell_far (p := ⟨gb758, _, none⟩) NB791_758.out _).trans (((cell_far (p := ⟨gb758, _, none⟩) NB791_758.out _).trans (((cell_far (p := ⟨gb758, _, none⟩) NB791_758.out _).trans (hHeld.2.1)))))), ((cell_far (p := ⟨gb758, _, none⟩) NB791_758.out _).trans (((cell_far (p := ⟨gb758, _, none⟩) NB791_758.out _).trans (((cell_far (p := ⟨gb758, _, none⟩) NB791_758.out _).trans (hHeld.2.2))))))⟩ (fun hHeld => ?_)
         clear hK K
         refine done_ (by kernel_rfl) ?_
         try go_wp2
         refine bodyPost_ret (results_list (rs := [.tmp 2, .tmp 3, .cell 4 28]) rfl (by simp) (.tmp (.tmp (.cell gb758 28 #[.int .i64 t788, .int .i64 t789, .bool t790] (0, 0) _ rfl (bU BK758) Tryz.underlying28 rfl (by kernel_rfl) .nil)))) rfl ?_
         exact ⟨_, by first | rfl | (simp [errW_none, errW_some] <;> rfl) | (simp [*, errW_none, errW_some] <;> rfl), by (with_reducible repeat (first | apply Kd.Q_alloc | apply Kd.Q_drewN | apply Kd.Q_drew)); exact Kd.Q_mono (Kd.Q_far (p := ⟨gb758, 2, none⟩) (Kd.Q_far (p := ⟨gb758, 1, none⟩) (Kd.Q_far (p := ⟨gb758, 0, none⟩) (Kd.Q_mono HO794.out (fun k_ hk => (⟨hk, hk.1⟩ : _ ∧ k_ ≠ gb758))) (fun _ hk => hk.2) (.int .i64 t788)) (fun _ hk => hk.2) (.int .i64 t789)) (fun _ hk => hk.2) (.bool t790)) (fun _ hk => trivial), bZ HB⟩
       ·rw [if_neg c34] at H
        exact absurd H (by simp)
      ·replace c33 := Bool.eq_false_iff.mpr c33
       subst c33
       rw [if_neg (show ¬ (false = true) by decide)] at H
       by_cases c49 : t763 = 1
       ·rw [if_pos c49] at H
        have c49b0 : (t763 == 1) = true := beq_iff_eq.mpr c49
        have c49b1 : (t763 != 1) = false := bne_eq_false_iff_eq.mpr c49
        clear c49
        by_cases c50 : t769.size + 1 ≤ 9223372036854775807
        ·rw [if_pos c50] at H
         have c50b0 := eq_true c50
         have c50b1 := decide_eq_true c50
         try have c50b2 : (9223372036854775807 < t769.size + 1) = False := eq_false (Nat.not_lt.2 c50)
         try simp only [ByteArray.size_append] at c50b2
         simp only [Option.some.injEq, Prod.mk.injEq] at H
         obtain ⟨rfl, rfl, rfl, rfl, rfl⟩ := H
         try go_wp2
         replace HO_8 := Aside0.mk (Kd.Q_drew HO_8.out)
         replace BK758 := Aside0.mk (blk_drew BK758.out)
         replace BK791 := Aside0.mk (blk_drew BK791.out)
         replace HB := Aside0.mk (below_drew1 HB.out)
         refine start_ (n := 6) (S := fun w' => SQ3 w' gb791 (.int .i64 t788) (.int .i64 t789) (.bool t790)) (ds := []) #[false, false, false, false, false, false] (by kernel_rfl) rfl rfl (bT3 BK791) (fun hHeld => ?_)
         generalize wc.drew = w51 at HO_8 BK758 BK791 HB hHeld ⊢
         refine pJ 0 (some 54) ?_
         refine pJ 1 (some 55) ?_
         refine pJ 3 (some 2) ?_
         refine pJ 4 (some 3) ?_
         refine tJ 2 (some 56) hHeld ?_
         refine one_ (i := 5) (N := none) #[true, true, true, true, true, true] rfl rfl (by kernel_rfl) (by decide) (fun K hK => ?_)
         have hs52 : w51.cell? ⟨gb758, 0, none⟩ = some (.int .i64 0) := bc BK758 0
         have hfs52 := blk_frozen BK758.out 0
         obtain ⟨hns52_1, hms52_1⟩ := nB NB791_758
         have hs53 : w51.cell? ⟨gb758, 1, none⟩ = some (.int .i64 0) := bc BK758 1
         have hfs53 := blk_frozen BK758.out 1
         obtain ⟨hns53_1, hms53_1⟩ := nB NB791_758
         have hs54 : w51.cell? ⟨gb758, 2, none⟩ = some (.bool false) := bc BK758 2
         have hfs54 := blk_frozen BK758.out 2
         obtain ⟨hns54_1, hms54_1⟩ := nB NB791_758
         refine skip_ (w1 := ?_) (by rfl) rfl ?_ ?_
         rotate_left
         ·go_simp
          rfl
         refine hK.out _ _ ⟨((cell_far (p := ⟨gb758, _, none⟩) NB791_758.out _).trans (((cell_far (p := ⟨gb758, _, none⟩) NB791_758.out _).trans (((cell_far (p := ⟨gb758, _, none⟩) NB791_758.out _).trans (hHeld.1)))))), ((cell_far (p := ⟨gb758, _, none⟩) NB791_758.out _).trans (((cell_far (p := ⟨gb758, _, none⟩) NB791_758.out _).trans (((cell_far (p := ⟨gb758, _, none⟩) NB791_758.out _).trans (hHeld.2.1)))))), ((cell_far (p := ⟨gb758, _, none⟩) NB791_758.out _).trans (((cell_far (p := ⟨gb758, _, none⟩) NB791_758.out _).trans (((cell_far (p := ⟨gb758, _, none⟩) NB791_758.out _).trans (hHeld.2.2))))))⟩ (fun hHeld => ?_)
         clear hK K
         refine done_ (by kernel_rfl) ?_
         try go_wp2
         refine bodyPost_ret (results_list (rs := [.tmp 2, .tmp 3, .cell 4 28]) rfl (by simp) (.tmp (.tmp (.cell gb758 28 #[.int .i64 t788, .int .i64 t789, .bool t790] (0, 0) _ rfl (bU BK758) Tryz.underlying28 rfl (by kernel_rfl) .nil)))) rfl ?_
         exact ⟨_, by first | rfl | (simp [errW_none, errW_some] <;> rfl) | (simp [*, errW_none, errW_some] <;> rfl), by (with_reducible repeat (first | apply Kd.Q_alloc | apply Kd.Q_drewN | apply Kd.Q_drew)); exact Kd.Q_mono (Kd.Q_far (p := ⟨gb758, 2, none⟩) (Kd.Q_far (p := ⟨gb758, 1, none⟩) (Kd.Q_far (p := ⟨gb758, 0, none⟩) (Kd.Q_mono HO_8.out (fun k_ hk => (⟨hk, hk.1⟩ : _ ∧ k_ ≠ gb758))) (fun _ hk => hk.2) (.int .i64 t788)) (fun _ hk => hk.2) (.int .i64 t789)) (fun _ hk => hk.2) (.bool t790)) (fun _ hk => trivial), bZ HB⟩
        ·rw [if_neg c50] at H
         exact absurd H (by simp)
       ·rw [if_neg c49] at H
        have c49b0 : (t763 == 1) = false := beq_eq_false_iff_ne.mpr c49
        have c49b1 : (t763 != 1) = true := bne_iff_ne.mpr c49
        simp only [Option.some.injEq, Prod.mk.injEq] at H
        obtain ⟨rfl, rfl, rfl, rfl, rfl⟩ := H
        try go_wp2
        replace HO_8 := Aside0.mk (Kd.Q_drew HO_8.out)
        replace BK758 := Aside0.mk (blk_drew BK758.out)
        replace BK791 := Aside0.mk (blk_drew BK791.out)
        replace HB := Aside0.mk (below_drew1 HB.out)
        refine start_ (n := 6) (S := fun w' => SQ3 w' gb791 (.int .i64 t788) (.int .i64 t789) (.bool t790)) (ds := []) #[false, false, false, false, false, false] (by kernel_rfl) rfl rfl (bT3 BK791) (fun hHeld => ?_)
        generalize wc.drew = w55 at HO_8 BK758 BK791 HB hHeld ⊢
        refine pJ 0 (some 54) ?_
        refine pJ 1 (some 55) ?_
        refine pJ 3 (some 2) ?_
        refine pJ 4 (some 3) ?_
        refine tJ 2 (some 56) hHeld ?_
        refine one_ (i := 5) (N := none) #[true, true, true, true, true, true] rfl rfl (by kernel_rfl) (by decide) (fun K hK => ?_)
        have hs56 : w55.cell? ⟨gb758, 0, none⟩ = some (.int .i64 0) := bc BK758 0
        have hfs56 := blk_frozen BK758.out 0
        obtain ⟨hns56_1, hms56_1⟩ := nB NB791_758
        have hs57 : w55.cell? ⟨gb758, 1, none⟩ = some (.int .i64 0) := bc BK758 1
        have hfs57 := blk_frozen BK758.out 1
        obtain ⟨hns57_1, hms57_1⟩ := nB NB791_758
        have hs58 : w55.cell? ⟨gb758, 2, none⟩ = some (.bool false) := bc BK758 2
        have hfs58 := blk_frozen BK758.out 2
        obtain ⟨hns58_1, hms58_1⟩ := nB NB791_758
        refine skip_ (w1 := ?_) (by rfl) rfl ?_ ?_
        rotate_left
        ·go_simp
         rfl
        refine hK.out _ _ ⟨((cell_far (p := ⟨gb758, _, none⟩) NB791_758.out _).trans (((cell_far (p := ⟨gb758, _, none⟩) NB791_758.out _).trans (((cell_far (p := ⟨gb758, _, none⟩) NB791_758.out _).trans (hHeld.1)))))), ((cell_far (p := ⟨gb758, _, none⟩) NB791_758.out _).trans (((cell_far (p := ⟨gb758, _, none⟩) NB791_758.out _).trans (((cell_far (p := ⟨gb758, _, none⟩) NB791_758.out _).trans (hHeld.2.1)))))), ((cell_far (p := ⟨gb758, _, none⟩) NB791_758.out _).trans (((cell_far (p := ⟨gb758, _, none⟩) NB791_758.out _).trans (((cell_far (p := ⟨gb758, _, none⟩) NB791_758.out _).trans (hHeld.2.2))))))⟩ (fun hHeld => ?_)
        clear hK K
        refine done_ (by kernel_rfl) ?_
        try go_wp2
        refine bodyPost_ret (results_list (rs := [.tmp 2, .tmp 3, .cell 4 28]) rfl (by simp) (.tmp (.tmp (.cell gb758 28 #[.int .i64 t788, .int .i64 t789, .bool t790] (0, 0) _ rfl (bU BK758) Tryz.underlying28 rfl (by kernel_rfl) .nil)))) rfl ?_
        exact ⟨_, by first | rfl | (simp [errW_none, errW_some] <;> rfl) | (simp [*, errW_none, errW_some] <;> rfl), by (with_reducible repeat (first | apply Kd.Q_alloc | apply Kd.Q_drewN | apply Kd.Q_drew)); exact Kd.Q_mono (Kd.Q_far (p := ⟨gb758, 2, none⟩) (Kd.Q_far (p := ⟨gb758, 1, none⟩) (Kd.Q_far (p := ⟨gb758, 0, none⟩) (Kd.Q_mono HO_8.out (fun k_ hk => (⟨hk, hk.1⟩ : _ ∧ k_ ≠ gb758))) (fun _ hk => hk.2) (.int .i64 t788)) (fun _ hk => hk.2) (.int .i64 t789)) (fun _ hk => hk.2) (.bool t790)) (fun _ hk => trivial), bZ HB⟩
end Go.Proofs.YtkdmplfldfagnaaGreatDoor.Pf
end
section
namespace Go.Proofs.YtkdmplfldfagnaaGreatDoor.Pf
open Go.RowKit Go.Proofs.YtkdmplfldfagnaaGreatDoorW.PrintWords Go.Proofs.YtkdmplfldfagnaaGreatDoorW.PrintLast Go.Proofs.YtkdmplfldfagnaaGreatDoorW.PrintMore
attribute [local go_sem] max2_int min2_int max_two min_two max_three min_three max_four min_four   -- for this text's walks alone
set_option linter.unusedVariables false
set_option linter.unusedSimpArgs false
theorem eqA75 (d : Nat) (w : World) (x0 y0 : Int) (x1 y1 : Int) :
    (Op.equalIn (d + 2) 75 (.agg #[.int .i64 x0, .int .i64 x1]) (.agg #[.int .i64 y0, .int .i64 y1])).run Tryz.prog w = .ok (x0 == y0 && (x1 == y1)) w := by
  refine eqA_of Tryz.underlying75 (by kernel_rfl) ?_
  refine eqf_cons (by rfl) (by go_simp; rfl) (by go_simp; rfl) (by go_simp) ?_
  exact eqf_last (by rfl) (by go_simp; rfl) (by go_simp; rfl) (by go_simp)
def impl_InGroup.f (k : Nat) (a0_0 : Int) (a0_1 : Int) (a0_2 : Bool) : Option (Bool) := (impl_PointOk.f a0_0 a0_1 a0_2).bind fun t471 => (if t471 = true then ((impl_PointTimes.f k 1009 a0_0 a0_1 a0_2).bind fun bt472 => (some bt472.2.2)) else (some false))
set_option maxHeartbeats 8000000 in
set_option maxRecDepth 100000 in
theorem impl_InGroup.calls (k : Nat) (a0_0 : Int) (a0_1 : Int) (a0_2 : Bool) (r : Bool) (w : World) (h : impl_InGroup.f k a0_0 a0_1 a0_2 = some r) :
  Calls Tryz.prog 21 #[.agg #[.int .i64 a0_0, .int .i64 a0_1, .bool a0_2]] w fun e w' => e = .returned (.bool r) ∧ Below w.heap.size w w' := by
 have hu28 := Tryz.underlying28
 have hfd28_0 : ∀ (x0 : Int) (x1 : Int) (x2 : Bool) (w_ : World), (Instr.field 28 (.agg #[.int .i64 x0, .int .i64 x1, .bool x2]) 0).run Tryz.prog w_ = .ok (.int .i64 x0) w_ := fun _ _ _ _ => by kernel_rfl
 have hfd28_1 : ∀ (x0 : Int) (x1 : Int) (x2 : Bool) (w_ : World), (Instr.field 28 (.agg #[.int .i64 x0, .int .i64 x1, .bool x2]) 1).run Tryz.prog w_ = .ok (.int .i64 x1) w_ := fun _ _ _ _ => by kernel_rfl
 have hfd28_2 : ∀ (x0 : Int) (x1 : Int) (x2 : Bool) (w_ : World), (Instr.field 28 (.agg #[.int .i64 x0, .int .i64 x1, .bool x2]) 2).run Tryz.prog w_ = .ok (.bool x2) w_ := fun _ _ _ _ => by kernel_rfl
 have HB := Aside0.mk (Below.refl w.heap.size w)
 have H : ((impl_PointOk.f a0_0 a0_1 a0_2).bind fun t471 => (if t471 = true then ((impl_PointTimes.f k 1009 a0_0 a0_1 a0_2).bind fun bt472 => (some bt472.2.2)) else (some false))) = some r := h
 clear h
 replace H := Option.bind_eq_some_iff.mp H
 obtain ⟨t471, A20, H⟩ := H
 have A2 := Aside0.mk A20
 clear A20
 by_cases c3 : t471 = true
 ·subst c3
  rw [if_pos rfl] at H
  replace H := Option.bind_eq_some_iff.mp H
  obtain ⟨⟨t472, t473, t474⟩, A40, H⟩ := H
  have A4 := Aside0.mk A40
  clear A40
  obtain rfl := Option.some.inj H
  go_enter Tryz.func21, Tryz.ntmps21
  go_wp2_with (first | (refine gB 1 #[.int .i64 a0_0, .int .i64 a0_1, .bool a0_2] 28 ?_; intro gb470 hg w5 BK470 hb; have GW470 := bG HB hg; replace HB := bS HB hb; clear hb hg; obtain ⟨hcz6_0, hcz6_1, hcz6_2, hfz6_0, hfz6_1, hfz6_2⟩ := bK3 (w := w5) BK470) | (refine gC (some 4) Tryz.func47 #[.agg #[.int .i64 a0_0, .int .i64 a0_1, .bool a0_2]] ?_; (with_reducible refine (impl_PointOk.calls a0_0 a0_1 a0_2 true _ A2.out).mono ?_); rintro e w7 ⟨rfl, hb⟩; refine ⟨_, rfl, ?_⟩; replace BK470 := bB BK470 hb; replace HB := bS HB hb; (try clear hb); obtain ⟨hcz8_0, hcz8_1, hcz8_2, hfz8_0, hfz8_1, hfz8_2⟩ := bK3 (w := w7) BK470) | (go_at_call 45; (with_reducible refine (impl_PointTimes.calls k 1009 a0_0 a0_1 a0_2 t472 t473 t474 _ A4.out).mono ?_); rintro e w9 ⟨rfl, hb⟩; replace BK470 := bB BK470 hb; replace HB := bS HB hb; (try clear hb)))
  go_ret
  exact ⟨rR, bZ HB⟩
 ·replace c3 := Bool.eq_false_iff.mpr c3
  subst c3
  rw [if_neg (show ¬ (false = true) by decide)] at H
  obtain rfl := Option.some.inj H
  go_enter Tryz.func21, Tryz.ntmps21
  go_wp2_with (first | (refine gB 1 #[.int .i64 a0_0, .int .i64 a0_1, .bool a0_2] 28 ?_; intro gb470 hg w10 BK470 hb; have GW470 := bG HB hg; replace HB := bS HB hb; clear hb hg; obtain ⟨hcz11_0, hcz11_1, hcz11_2, hfz11_0, hfz11_1, hfz11_2⟩ := bK3 (w := w10) BK470) | (refine gC (some 4) Tryz.func47 #[.agg #[.int .i64 a0_0, .int .i64 a0_1, .bool a0_2]] ?_; (with_reducible refine (impl_PointOk.calls a0_0 a0_1 a0_2 false _ A2.out).mono ?_); rintro e w12 ⟨rfl, hb⟩; refine ⟨_, rfl, ?_⟩; replace BK470 := bB BK470 hb; replace HB := bS HB hb; (try clear hb)))
  go_ret
  exact ⟨rR, bZ HB⟩
def impl_TwoMul.f (a0_0 : Int) (a0_1 : Int) (a1_0 : Int) (a1_1 : Int) : Option (Int × Int) := (impl_FpMul.f a0_0 a1_0).bind fun t478 => ((impl_FpMul.f a0_1 a1_1).bind fun t479 => ((impl_FpSub.f t478 t479).bind fun t480 => ((impl_FpMul.f a0_0 a1_1).bind fun t481 => ((impl_FpMul.f a0_1 a1_0).bind fun t482 => ((impl_FpAdd.f t481 t482).bind fun t483 => (some (t480, t483)))))))
def impl_TwoMul.T1 : Bool × List (List Nat × List Nat) := (true, [([], []), ([0], [0]), ([], []), ([2], [2]), ([1, 3], [1, 3]), ([], []), ([5], [5]), ([], []), ([7], [7]), ([6, 8, 4], [6, 8]), ([4, 9, 9], [4, 9]), ([], []), ([11], [11]), ([], []), ([13], [13]), ([12, 14, 10], [12, 14]), ([], []), ([16], [16]), ([], []), ([18], [18]), ([17, 19, 15], [17, 19]), ([15, 20, 20], [15, 20]), ([10, 21], [10, 21]), ([22, 21, 0, 1, 2, 3, 4, 5, 6, 7, 8, 9, 10, 11, 12, 13, 14, 15, 16, 17, 18, 19, 20, 21, 22], [22])])
def impl_TwoMul.B1 : List Nat := [0, 1, 0, 4, 15, 0, 32, 0, 128, 511, 1023, 0, 2048, 0, 8192, 32767, 0, 65536, 0, 262144, 1048575, 2097151, 4194303, 8388607]
theorem impl_TwoMul.tab1 : rtab .any (opsOf Tryz.f104 1) = impl_TwoMul.T1 := by kernel_rfl
theorem impl_TwoMul.bits1 : waitsOk impl_TwoMul.T1.2 impl_TwoMul.B1 = true := by kernel_rfl
set_option maxHeartbeats 8000000 in
set_option maxRecDepth 100000 in
theorem impl_TwoMul.calls (a0_0 : Int) (a0_1 : Int) (a1_0 : Int) (a1_1 : Int) (r1 : Int) (r2 : Int) (w : World) (h : impl_TwoMul.f a0_0 a0_1 a1_0 a1_1 = some (r1, r2)) :
  Calls Tryz.prog 104 #[.agg #[.int .i64 a0_0, .int .i64 a0_1], .agg #[.int .i64 a1_0, .int .i64 a1_1]] w fun e w' => e = .returned (.agg #[.int .i64 r1, .int .i64 r2]) ∧ Below w.heap.size w w' := by
 have hu75 := Tryz.underlying75
 have HB := Aside0.mk (Below.refl w.heap.size w)
 have H : ((impl_FpMul.f a0_0 a1_0).bind fun t478 => ((impl_FpMul.f a0_1 a1_1).bind fun t479 => ((impl_FpSub.f t478 t479).bind fun t480 => ((impl_FpMul.f a0_0 a1_1).bind fun t481 => ((impl_FpMul.f a0_1 a1_0).bind fun t482 => ((impl_FpAdd.f t481 t482).bind fun t483 => (some (t480, t483)))))))) = some (r1, r2) := h
 clear h
 replace H := Option.bind_eq_some_iff.mp H
 obtain ⟨t478, A30, H⟩ := H
 have A3 := Aside0.mk A30
 clear A30
 replace H := Option.bind_eq_some_iff.mp H
 obtain ⟨t479, A40, H⟩ := H
 have A4 := Aside0.mk A40
 clear A40
 replace H := Option.bind_eq_some_iff.mp H
 obtain ⟨t480, A50, H⟩ := H
 have A5 := Aside0.mk A50
 clear A50
 replace H := Option.bind_eq_some_iff.mp H
 obtain ⟨t481, A60, H⟩ := H
 have A6 := Aside0.mk A60
 clear A60
 replace H := Option.bind_eq_some_iff.mp H
 obtain ⟨t482, A70, H⟩ := H
 have A7 := Aside0.mk A70
 clear A70
 replace H := Option.bind_eq_some_iff.mp H
 obtain ⟨t483, A80, H⟩ := H
 have A8 := Aside0.mk A80
 clear A80
 simp only [Option.some.injEq, Prod.mk.injEq] at H
 obtain ⟨rfl, rfl⟩ := H
 go_enter Tryz.func104, Tryz.ntmps104
 try go_wp2_with (first | (refine gB 2 #[.int .i64 a0_0, .int .i64 a0_1] 75 ?_; intro gb475 hg w9 BK475 hb; have GW475 := bG HB hg; replace HB := bS HB hb; clear hb hg) | (refine gB 3 #[.int .i64 a1_0, .int .i64 a1_1] 75 ?_; intro gb476 hg w10 BK476 hb; have GW476 := bG HB hg; replace HB := bS HB hb; obtain ⟨NB475_476, NB476_475⟩ := bN BK475 hg; replace BK475 := bB BK475 hb; clear hb hg) | (refine gB 4 #[.int .i64 0, .int .i64 0] 75 ?_; intro gb477 hg w11 BK477 hb; have GW477 := bG HB hg; replace HB := bS HB hb; obtain ⟨NB475_477, NB477_475⟩ := bN BK475 hg; replace BK475 := bB BK475 hb; obtain ⟨NB476_477, NB477_476⟩ := bN BK476 hg; replace BK476 := bB BK476 hb; clear hb hg))
 replace BK475 := Aside0.mk (blk_drew BK475.out)
 replace BK476 := Aside0.mk (blk_drew BK476.out)
 replace BK477 := Aside0.mk (blk_drew BK477.out)
 replace HB := Aside0.mk (below_drew1 HB.out)
 refine start_ (n := 24) (S := fun w' => SP2 w' gb475 (.int .i64 a0_0) (.int .i64 a0_1) (SQ2 w' gb476 (.int .i64 a1_0) (.int .i64 a1_1))) (ds := []) #[false, false, false, false, false, false, false, false, false, false, false, false, false, false, false, false, false, false, false, false, false, false, false, false] (by kernel_rfl) rfl rfl (bS2 BK475 (bT2 BK476)) (fun hHeld => ?_); refine with_tabW impl_TwoMul.tab1 impl_TwoMul.bits1 (fun HT_ HW_ => ?_)
 generalize w11.drew = w12 at BK475 BK476 BK477 HB hHeld ⊢
 refine pI 0 (some 5) HT_.out ?_
 refine pI 2 (some 7) HT_.out ?_
 refine pI 5 (some 10) HT_.out ?_
 refine pI 7 (some 12) HT_.out ?_
 refine pI 11 (some 16) HT_.out ?_
 refine pI 13 (some 18) HT_.out ?_
 refine pI 16 (some 21) HT_.out ?_
 refine pI 18 (some 23) HT_.out ?_
 refine tI4 1 (some 6) HT_.out HW_.out hHeld ?_
 refine tI4 3 (some 8) HT_.out HW_.out hHeld ?_
 refine tI4 6 (some 11) HT_.out HW_.out hHeld ?_
 refine tI4 8 (some 13) HT_.out HW_.out hHeld ?_
 refine tI4 12 (some 17) HT_.out HW_.out hHeld ?_
 refine tI4 14 (some 19) HT_.out HW_.out hHeld ?_
 refine tI4 17 (some 22) HT_.out HW_.out hHeld ?_
 refine tI4 19 (some 24) HT_.out HW_.out hHeld ?_
 refine oI 4 (some 9) HT_.out (fun K hK => ?_)
 refine gO Tryz.func88 #[.int .i64 a0_0, .int .i64 a1_0] ?_
 with_reducible refine (impl_FpMul.calls a0_0 a1_0 t478 _ A3.out).mono ?_
 rintro e w' ⟨rfl, ⟨nd, rfl⟩⟩
 refine ⟨_, rfl, ?_⟩
 refine hK.out _ _ (bS2 BK475 (bT2 BK476)) (fun hHeld => ?_)
 clear hK K
 refine nO (some 9) ?_
 refine oI 9 (some 14) HT_.out (fun K hK => ?_)
 refine gO Tryz.func88 #[.int .i64 a0_1, .int .i64 a1_1] ?_
 with_reducible refine (impl_FpMul.calls a0_1 a1_1 t479 _ A4.out).mono ?_
 rintro e w' ⟨rfl, ⟨nd, rfl⟩⟩
 refine ⟨_, rfl, ?_⟩
 refine hK.out _ _ (bS2 BK475 (bT2 BK476)) (fun hHeld => ?_)
 clear hK K
 refine nO (some 14) ?_
 refine oI 10 (some 15) HT_.out (fun K hK => ?_)
 refine gO Tryz.func90 #[.int .i64 t478, .int .i64 t479] ?_
 with_reducible refine (impl_FpSub.calls t478 t479 t480 _ A5.out).mono ?_
 rintro e w' ⟨rfl, ⟨nd, rfl⟩⟩
 refine ⟨_, rfl, ?_⟩
 refine hK.out _ _ (bS2 BK475 (bT2 BK476)) (fun hHeld => ?_)
 clear hK K
 refine nO (some 15) ?_
 refine oI 15 (some 20) HT_.out (fun K hK => ?_)
 refine gO Tryz.func88 #[.int .i64 a0_0, .int .i64 a1_1] ?_
 with_reducible refine (impl_FpMul.calls a0_0 a1_1 t481 _ A6.out).mono ?_
 rintro e w' ⟨rfl, ⟨nd, rfl⟩⟩
 refine ⟨_, rfl, ?_⟩
 refine hK.out _ _ (bS2 BK475 (bT2 BK476)) (fun hHeld => ?_)
 clear hK K
 refine nO (some 20) ?_
 refine oI 20 (some 25) HT_.out (fun K hK => ?_)
 refine gO Tryz.func88 #[.int .i64 a0_1, .int .i64 a1_0] ?_
 with_reducible refine (impl_FpMul.calls a0_1 a1_0 t482 _ A7.out).mono ?_
 rintro e w' ⟨rfl, ⟨nd, rfl⟩⟩
 refine ⟨_, rfl, ?_⟩
 refine hK.out _ _ (bS2 BK475 (bT2 BK476)) (fun hHeld => ?_)
 clear hK K
 refine nO (some 25) ?_
 refine oI 21 (some 26) HT_.out (fun K hK => ?_)
 refine gO Tryz.func98 #[.int .i64 t481, .int .i64 t482] ?_
 with_reducible refine (impl_FpAdd.calls t481 t482 t483 _ A8.out).mono ?_
 rintro e w' ⟨rfl, ⟨nd, rfl⟩⟩
 refine ⟨_, rfl, ?_⟩
 refine hK.out _ _ (bS2 BK475 (bT2 BK476)) (fun hHeld => ?_)
 clear hK K
 refine nO (some 26) ?_
 refine pI 22 (some 27) HT_.out ?_
 refine oI 23 (none) HT_.out (fun K hK => ?_)
 have hs13 : w12.cell? ⟨gb477, 0, none⟩ = some (.int .i64 0) := bc BK477 0
 have hfs13 := blk_frozen BK477.out 0
 have hns13_0 := NB475_477.out
 have hns13_1 := NB476_477.out
 have hms13_0 := NB477_475.out
 have hms13_1 := NB477_476.out
 have hs14 : w12.cell? ⟨gb477, 1, none⟩ = some (.int .i64 0) := bc BK477 1
 have hfs14 := blk_frozen BK477.out 1
 have hns14_0 := NB475_477.out
 have hns14_1 := NB476_477.out
 have hms14_0 := NB477_475.out
 have hms14_1 := NB477_476.out
 refine skip_ (w1 := ?_) (by rfl) rfl ?_ ?_
 rotate_left
 ·go_simp
  rfl
 refine hK.out _ _ ⟨((cell_far (p := ⟨gb477, _, none⟩) NB475_477.out _).trans (((cell_far (p := ⟨gb477, _, none⟩) NB475_477.out _).trans (hHeld.1)))), ((cell_far (p := ⟨gb477, _, none⟩) NB475_477.out _).trans (((cell_far (p := ⟨gb477, _, none⟩) NB475_477.out _).trans (hHeld.2.1)))), ((cell_far (p := ⟨gb477, _, none⟩) NB476_477.out _).trans (((cell_far (p := ⟨gb477, _, none⟩) NB476_477.out _).trans (hHeld.2.2.1)))), ((cell_far (p := ⟨gb477, _, none⟩) NB476_477.out _).trans (((cell_far (p := ⟨gb477, _, none⟩) NB476_477.out _).trans (hHeld.2.2.2))))⟩ (fun hHeld => ?_)
 clear hK K
 refine done_ (done_of HT_.out (by kernel_rfl)) ?_
 try go_wp2
 refine rC gb477 75 #[.int .i64 t480, .int .i64 t483] (bU BK477) Tryz.underlying75 ?_
 exact ⟨rR, bZ HB⟩
def bits_Len64.j0 : Nat → Int → Int → Option (Int)
 | 0, _, _ => none
 | k + 1, x0, x2 => if x0 ≥ 65536 then (if (x0 / 65536) ≥ 256 then (if 0 ≤ (((x0 / 65536) / 256) % 256) then (if (((x0 / 65536) / 256) % 256) < 256 then (some (wrap64 ((wrap64 ((wrap64 (x2 + 16)) + 8)) + (wrap64 (bt (⟨#[0, 1, 2, 2, 3, 3, 3, 3, 4, 4, 4, 4, 4, 4, 4, 4, 5, 5, 5, 5, 5, 5, 5, 5, 5, 5, 5, 5, 5, 5, 5, 5, 6, 6, 6, 6, 6, 6, 6, 6, 6, 6, 6, 6, 6, 6, 6, 6, 6, 6, 6, 6, 6, 6, 6, 6, 6, 6, 6, 6, 6, 6, 6, 6, 7, 7, 7, 7, 7, 7, 7, 7, 7, 7, 7, 7, 7, 7, 7, 7, 7, 7, 7, 7, 7, 7, 7, 7, 7, 7, 7, 7, 7, 7, 7, 7, 7, 7, 7, 7, 7, 7, 7, 7, 7, 7, 7, 7, 7, 7, 7, 7, 7, 7, 7, 7, 7, 7, 7, 7, 7, 7, 7, 7, 7, 7, 7, 7, 8, 8, 8, 8, 8, 8, 8, 8, 8, 8, 8, 8, 8, 8, 8, 8, 8, 8, 8, 8, 8, 8, 8, 8, 8, 8, 8, 8, 8, 8, 8, 8, 8, 8, 8, 8, 8, 8, 8, 8, 8, 8, 8, 8, 8, 8, 8, 8, 8, 8, 8, 8, 8, 8, 8, 8, 8, 8, 8, 8, 8, 8, 8, 8, 8, 8, 8, 8, 8, 8, 8, 8, 8, 8, 8, 8, 8, 8, 8, 8, 8, 8, 8, 8, 8, 8, 8, 8, 8, 8, 8, 8, 8, 8, 8, 8, 8, 8, 8, 8, 8, 8, 8, 8, 8, 8, 8, 8, 8, 8, 8, 8, 8, 8, 8, 8, 8, 8, 8, 8, 8, 8, 8, 8, 8, 8, 8, 8]⟩ : ByteArray) (((x0 / 65536) / 256) % 256)))))) else (none)) else (none)) else (if 0 ≤ ((x0 / 65536) % 256) then (if ((x0 / 65536) % 256) < 256 then (some (wrap64 ((wrap64 (x2 + 16)) + (wrap64 (bt (⟨#[0, 1, 2, 2, 3, 3, 3, 3, 4, 4, 4, 4, 4, 4, 4, 4, 5, 5, 5, 5, 5, 5, 5, 5, 5, 5, 5, 5, 5, 5, 5, 5, 6, 6, 6, 6, 6, 6, 6, 6, 6, 6, 6, 6, 6, 6, 6, 6, 6, 6, 6, 6, 6, 6, 6, 6, 6, 6, 6, 6, 6, 6, 6, 6, 7, 7, 7, 7, 7, 7, 7, 7, 7, 7, 7, 7, 7, 7, 7, 7, 7, 7, 7, 7, 7, 7, 7, 7, 7, 7, 7, 7, 7, 7, 7, 7, 7, 7, 7, 7, 7, 7, 7, 7, 7, 7, 7, 7, 7, 7, 7, 7, 7, 7, 7, 7, 7, 7, 7, 7, 7, 7, 7, 7, 7, 7, 7, 7, 8, 8, 8, 8, 8, 8, 8, 8, 8, 8, 8, 8, 8, 8, 8, 8, 8, 8, 8, 8, 8, 8, 8, 8, 8, 8, 8, 8, 8, 8, 8, 8, 8, 8, 8, 8, 8, 8, 8, 8, 8, 8, 8, 8, 8, 8, 8, 8, 8, 8, 8, 8, 8, 8, 8, 8, 8, 8, 8, 8, 8, 8, 8, 8, 8, 8, 8, 8, 8, 8, 8, 8, 8, 8, 8, 8, 8, 8, 8, 8, 8, 8, 8, 8, 8, 8, 8, 8, 8, 8, 8, 8, 8, 8, 8, 8, 8, 8, 8, 8, 8, 8, 8, 8, 8, 8, 8, 8, 8, 8, 8, 8, 8, 8, 8, 8, 8, 8, 8, 8, 8, 8, 8, 8, 8, 8, 8, 8]⟩ : ByteArray) ((x0 / 65536) % 256)))))) else (none)) else (none))) else (if x0 ≥ 256 then (if 0 ≤ ((x0 / 256) % 256) then (if ((x0 / 256) % 256) < 256 then (some (wrap64 ((wrap64 (x2 + 8)) + (wrap64 (bt (⟨#[0, 1, 2, 2, 3, 3, 3, 3, 4, 4, 4, 4, 4, 4, 4, 4, 5, 5, 5, 5, 5, 5, 5, 5, 5, 5, 5, 5, 5, 5, 5, 5, 6, 6, 6, 6, 6, 6, 6, 6, 6, 6, 6, 6, 6, 6, 6, 6, 6, 6, 6, 6, 6, 6, 6, 6, 6, 6, 6, 6, 6, 6, 6, 6, 7, 7, 7, 7, 7, 7, 7, 7, 7, 7, 7, 7, 7, 7, 7, 7, 7, 7, 7, 7, 7, 7, 7, 7, 7, 7, 7, 7, 7, 7, 7, 7, 7, 7, 7, 7, 7, 7, 7, 7, 7, 7, 7, 7, 7, 7, 7, 7, 7, 7, 7, 7, 7, 7, 7, 7, 7, 7, 7, 7, 7, 7, 7, 7, 8, 8, 8, 8, 8, 8, 8, 8, 8, 8, 8, 8, 8, 8, 8, 8, 8, 8, 8, 8, 8, 8, 8, 8, 8, 8, 8, 8, 8, 8, 8, 8, 8, 8, 8, 8, 8, 8, 8, 8, 8, 8, 8, 8, 8, 8, 8, 8, 8, 8, 8, 8, 8, 8, 8, 8, 8, 8, 8, 8, 8, 8, 8, 8, 8, 8, 8, 8, 8, 8, 8, 8, 8, 8, 8, 8, 8, 8, 8, 8, 8, 8, 8, 8, 8, 8, 8, 8, 8, 8, 8, 8, 8, 8, 8, 8, 8, 8, 8, 8, 8, 8, 8, 8, 8, 8, 8, 8, 8, 8, 8, 8, 8, 8, 8, 8, 8, 8, 8, 8, 8, 8, 8, 8, 8, 8, 8, 8]⟩ : ByteArray) ((x0 / 256) % 256)))))) else (none)) else (none)) else (if 0 ≤ ((x0) % 256) then (if ((x0) % 256) < 256 then (some (wrap64 (x2 + (wrap64 (bt (⟨#[0, 1, 2, 2, 3, 3, 3, 3, 4, 4, 4, 4, 4, 4, 4, 4, 5, 5, 5, 5, 5, 5, 5, 5, 5, 5, 5, 5, 5, 5, 5, 5, 6, 6, 6, 6, 6, 6, 6, 6, 6, 6, 6, 6, 6, 6, 6, 6, 6, 6, 6, 6, 6, 6, 6, 6, 6, 6, 6, 6, 6, 6, 6, 6, 7, 7, 7, 7, 7, 7, 7, 7, 7, 7, 7, 7, 7, 7, 7, 7, 7, 7, 7, 7, 7, 7, 7, 7, 7, 7, 7, 7, 7, 7, 7, 7, 7, 7, 7, 7, 7, 7, 7, 7, 7, 7, 7, 7, 7, 7, 7, 7, 7, 7, 7, 7, 7, 7, 7, 7, 7, 7, 7, 7, 7, 7, 7, 7, 8, 8, 8, 8, 8, 8, 8, 8, 8, 8, 8, 8, 8, 8, 8, 8, 8, 8, 8, 8, 8, 8, 8, 8, 8, 8, 8, 8, 8, 8, 8, 8, 8, 8, 8, 8, 8, 8, 8, 8, 8, 8, 8, 8, 8, 8, 8, 8, 8, 8, 8, 8, 8, 8, 8, 8, 8, 8, 8, 8, 8, 8, 8, 8, 8, 8, 8, 8, 8, 8, 8, 8, 8, 8, 8, 8, 8, 8, 8, 8, 8, 8, 8, 8, 8, 8, 8, 8, 8, 8, 8, 8, 8, 8, 8, 8, 8, 8, 8, 8, 8, 8, 8, 8, 8, 8, 8, 8, 8, 8, 8, 8, 8, 8, 8, 8, 8, 8, 8, 8, 8, 8, 8, 8, 8, 8, 8, 8]⟩ : ByteArray) ((x0) % 256)))))) else (none)) else (none)))
def bits_Len64.f (k : Nat) (a0 : Int) : Option (Int) := if a0 ≥ 4294967296 then (bits_Len64.j0 k (a0 / 4294967296) 32) else (bits_Len64.j0 k a0 0)
set_option maxHeartbeats 8000000 in
set_option maxRecDepth 100000 in
theorem bits_Len64.calls (k : Nat) (a0 : Int) (r : Int) (w : World) (h : bits_Len64.f k a0 = some r) :
  Calls Tryz.prog 154 #[.int .u64 a0] w fun e w' => e = .returned (.int .i64 r) ∧ Drawn0 w w' := by
 have H : (if a0 ≥ 4294967296 then (bits_Len64.j0 k (a0 / 4294967296) 32) else (bits_Len64.j0 k a0 0)) = some r := h
 clear h
 have HC2 := Aside0.mk H
 clear H
 go_enter Tryz.func154, Tryz.ntmps154
 go_upto_if 4 with (fail)
 go_cut [0, 2] (fun v0 v2 wc => ∃ (kq : Nat) (x0_1 : Int) (x2_1 : Int), v0 = .int .u64 x0_1 ∧ v2 = .int .i64 x2_1 ∧ Aside0 (bits_Len64.j0 kq x0_1 x2_1 = some r) ∧ Aside0 (kq ≤ k) ∧ Drawn0 w wc)
 case first =>
  have H := HC2.out
  clear HC2
  by_cases c3 : a0 ≥ 4294967296
  ·rw [if_pos c3] at H
   have c3b0 := decide_eq_true c3
   clear c3
   (first | rw [c3b0] | (simp only [i64_w, i32_w]; rw [c3b0]) | rw [c3b1] | skip)
   have H' := Aside0.mk H
   clear H
   go_wp2
   go_meet
   case rel => exact ⟨_, (a0 / 4294967296), (32), rS, rS, H', ⟨by first | omega | exact Nat.le_refl _⟩, by repeat (first | exact Drawn0.refl _ | apply Drawn0.step)⟩
  ·rw [if_neg c3] at H
   have c3b0 := decide_eq_false c3
   clear c3
   (first | rw [c3b0] | (simp only [i64_w, i32_w]; rw [c3b0]) | rw [c3b1] | skip)
   have H' := Aside0.mk H
   clear H
   go_wp2
   go_meet
   case rel => exact ⟨_, (a0), (0), rS, rS, H', ⟨by first | omega | exact Nat.le_refl _⟩, by repeat (first | exact Drawn0.refl _ | apply Drawn0.step)⟩
 case rest =>
  clear HC2
  try clear c1
  try clear p2
  try clear c3
  try clear c3b0
  obtain ⟨kq, x0_1, x2_1, rfl, rfl, HA, HJ1, ⟨mc1, rfl⟩⟩ := hcut
  cases kq with
  | zero => exact absurd HA.out (by simp [bits_Len64.j0])
  | succ kj1 =>
   have H := HA.out
   clear HA
   simp only [bits_Len64.j0] at H
   by_cases c4 : x0_1 ≥ 65536
   ·rw [if_pos c4] at H
    have c4b0 := decide_eq_true c4
    clear c4
    by_cases c5 : (x0_1 / 65536) ≥ 256
    ·rw [if_pos c5] at H
     have c5b0 := decide_eq_true c5
     clear c5
     obtain ⟨ji6, hji6⟩ : ∃ j_ : Int, (((x0_1 / 65536) / 256) % 256) = j_ := ⟨_, rfl⟩
     replace H : (if 0 ≤ (ji6) then (if (ji6) < 256 then (some (wrap64 ((wrap64 ((wrap64 (x2_1 + 16)) + 8)) + (wrap64 (bt (⟨#[0, 1, 2, 2, 3, 3, 3, 3, 4, 4, 4, 4, 4, 4, 4, 4, 5, 5, 5, 5, 5, 5, 5, 5, 5, 5, 5, 5, 5, 5, 5, 5, 6, 6, 6, 6, 6, 6, 6, 6, 6, 6, 6, 6, 6, 6, 6, 6, 6, 6, 6, 6, 6, 6, 6, 6, 6, 6, 6, 6, 6, 6, 6, 6, 7, 7, 7, 7, 7, 7, 7, 7, 7, 7, 7, 7, 7, 7, 7, 7, 7, 7, 7, 7, 7, 7, 7, 7, 7, 7, 7, 7, 7, 7, 7, 7, 7, 7, 7, 7, 7, 7, 7, 7, 7, 7, 7, 7, 7, 7, 7, 7, 7, 7, 7, 7, 7, 7, 7, 7, 7, 7, 7, 7, 7, 7, 7, 7, 8, 8, 8, 8, 8, 8, 8, 8, 8, 8, 8, 8, 8, 8, 8, 8, 8, 8, 8, 8, 8, 8, 8, 8, 8, 8, 8, 8, 8, 8, 8, 8, 8, 8, 8, 8, 8, 8, 8, 8, 8, 8, 8, 8, 8, 8, 8, 8, 8, 8, 8, 8, 8, 8, 8, 8, 8, 8, 8, 8, 8, 8, 8, 8, 8, 8, 8, 8, 8, 8, 8, 8, 8, 8, 8, 8, 8, 8, 8, 8, 8, 8, 8, 8, 8, 8, 8, 8, 8, 8, 8, 8, 8, 8, 8, 8, 8, 8, 8, 8, 8, 8, 8, 8, 8, 8, 8, 8, 8, 8, 8, 8, 8, 8, 8, 8, 8, 8, 8, 8, 8, 8, 8, 8, 8, 8, 8, 8]⟩ : ByteArray) (ji6)))))) else (none)) else (none)) = some r := by first | (rw [hji6] at H; exact H) | (simp only [hji6] at H ⊢; exact H)
     by_cases c7 : 0 ≤ (ji6)
     ·rw [if_pos c7] at H
      have c7b0 := decide_eq_true c7
      clear c7
      by_cases c8 : (ji6) < 256
      ·rw [if_pos c8] at H
       have c8b0 := decide_eq_true c8
       clear c8
       obtain rfl := Option.some.inj H
       have p9 : 0 ≤ ((ji6) : Int) := of_decide_eq_true (by first | (with_reducible assumption) | assumption)
       have q9 : (ji6) < (256 : Int) := of_decide_eq_true (by first | (with_reducible assumption) | assumption)
       have hx9 := bt_at (⟨#[0, 1, 2, 2, 3, 3, 3, 3, 4, 4, 4, 4, 4, 4, 4, 4, 5, 5, 5, 5, 5, 5, 5, 5, 5, 5, 5, 5, 5, 5, 5, 5, 6, 6, 6, 6, 6, 6, 6, 6, 6, 6, 6, 6, 6, 6, 6, 6, 6, 6, 6, 6, 6, 6, 6, 6, 6, 6, 6, 6, 6, 6, 6, 6, 7, 7, 7, 7, 7, 7, 7, 7, 7, 7, 7, 7, 7, 7, 7, 7, 7, 7, 7, 7, 7, 7, 7, 7, 7, 7, 7, 7, 7, 7, 7, 7, 7, 7, 7, 7, 7, 7, 7, 7, 7, 7, 7, 7, 7, 7, 7, 7, 7, 7, 7, 7, 7, 7, 7, 7, 7, 7, 7, 7, 7, 7, 7, 7, 8, 8, 8, 8, 8, 8, 8, 8, 8, 8, 8, 8, 8, 8, 8, 8, 8, 8, 8, 8, 8, 8, 8, 8, 8, 8, 8, 8, 8, 8, 8, 8, 8, 8, 8, 8, 8, 8, 8, 8, 8, 8, 8, 8, 8, 8, 8, 8, 8, 8, 8, 8, 8, 8, 8, 8, 8, 8, 8, 8, 8, 8, 8, 8, 8, 8, 8, 8, 8, 8, 8, 8, 8, 8, 8, 8, 8, 8, 8, 8, 8, 8, 8, 8, 8, 8, 8, 8, 8, 8, 8, 8, 8, 8, 8, 8, 8, 8, 8, 8, 8, 8, 8, 8, 8, 8, 8, 8, 8, 8, 8, 8, 8, 8, 8, 8, 8, 8, 8, 8, 8, 8, 8, 8, 8, 8, 8, 8]⟩ : ByteArray) (ji6)
       replace p9 := eq_true p9
       replace q9 := eq_true q9
       go_wp2
       go_ret
       exact ⟨by first | rfl | (simp; done) | (simp only [← hji6] <;> (first | rfl | simp)) | (simp [*]; done), by repeat (first | exact Drawn0.refl _ | apply Drawn0.step)⟩
      ·rw [if_neg c8] at H
       exact absurd H (by simp)
     ·rw [if_neg c7] at H
      exact absurd H (by simp)
    ·rw [if_neg c5] at H
     have c5b0 := decide_eq_false c5
     clear c5
     obtain ⟨ji10, hji10⟩ : ∃ j_ : Int, ((x0_1 / 65536) % 256) = j_ := ⟨_, rfl⟩
     replace H : (if 0 ≤ (ji10) then (if (ji10) < 256 then (some (wrap64 ((wrap64 (x2_1 + 16)) + (wrap64 (bt (⟨#[0, 1, 2, 2, 3, 3, 3, 3, 4, 4, 4, 4, 4, 4, 4, 4, 5, 5, 5, 5, 5, 5, 5, 5, 5, 5, 5, 5, 5, 5, 5, 5, 6, 6, 6, 6, 6, 6, 6, 6, 6, 6, 6, 6, 6, 6, 6, 6, 6, 6, 6, 6, 6, 6, 6, 6, 6, 6, 6, 6, 6, 6, 6, 6, 7, 7, 7, 7, 7, 7, 7, 7, 7, 7, 7, 7, 7, 7, 7, 7, 7, 7, 7, 7, 7, 7, 7, 7, 7, 7, 7, 7, 7, 7, 7, 7, 7, 7, 7, 7, 7, 7, 7, 7, 7, 7, 7, 7, 7, 7, 7, 7, 7, 7, 7, 7, 7, 7, 7, 7, 7, 7, 7, 7, 7, 7, 7, 7, 8, 8, 8, 8, 8, 8, 8, 8, 8, 8, 8, 8, 8, 8, 8, 8, 8, 8, 8, 8, 8, 8, 8, 8, 8, 8, 8, 8, 8, 8, 8, 8, 8, 8, 8, 8, 8, 8, 8, 8, 8, 8, 8, 8, 8, 8, 8, 8, 8, 8, 8, 8, 8, 8, 8, 8, 8, 8, 8, 8, 8, 8, 8, 8, 8, 8, 8, 8, 8, 8, 8, 8, 8, 8, 8, 8, 8, 8, 8, 8, 8, 8, 8, 8, 8, 8, 8, 8, 8, 8, 8, 8, 8, 8, 8, 8, 8, 8, 8, 8, 8, 8, 8, 8, 8, 8, 8, 8, 8, 8, 8, 8, 8, 8, 8, 8, 8, 8, 8, 8, 8, 8, 8, 8, 8, 8, 8, 8]⟩ : ByteArray) (ji10)))))) else (none)) else (none)) = some r := by first | (rw [hji10] at H; exact H) | (simp only [hji10] at H ⊢; exact H)
     by_cases c11 : 0 ≤ (ji10)
     ·rw [if_pos c11] at H
      have c11b0 := decide_eq_true c11
      clear c11
      by_cases c12 : (ji10) < 256
      ·rw [if_pos c12] at H
       have c12b0 := decide_eq_true c12
       clear c12
       obtain rfl := Option.some.inj H
       have p13 : 0 ≤ ((ji10) : Int) := of_decide_eq_true (by first | (with_reducible assumption) | assumption)
       have q13 : (ji10) < (256 : Int) := of_decide_eq_true (by first | (with_reducible assumption) | assumption)
       have hx13 := bt_at (⟨#[0, 1, 2, 2, 3, 3, 3, 3, 4, 4, 4, 4, 4, 4, 4, 4, 5, 5, 5, 5, 5, 5, 5, 5, 5, 5, 5, 5, 5, 5, 5, 5, 6, 6, 6, 6, 6, 6, 6, 6, 6, 6, 6, 6, 6, 6, 6, 6, 6, 6, 6, 6, 6, 6, 6, 6, 6, 6, 6, 6, 6, 6, 6, 6, 7, 7, 7, 7, 7, 7, 7, 7, 7, 7, 7, 7, 7, 7, 7, 7, 7, 7, 7, 7, 7, 7, 7, 7, 7, 7, 7, 7, 7, 7, 7, 7, 7, 7, 7, 7, 7, 7, 7, 7, 7, 7, 7, 7, 7, 7, 7, 7, 7, 7, 7, 7, 7, 7, 7, 7, 7, 7, 7, 7, 7, 7, 7, 7, 8, 8, 8, 8, 8, 8, 8, 8, 8, 8, 8, 8, 8, 8, 8, 8, 8, 8, 8, 8, 8, 8, 8, 8, 8, 8, 8, 8, 8, 8, 8, 8, 8, 8, 8, 8, 8, 8, 8, 8, 8, 8, 8, 8, 8, 8, 8, 8, 8, 8, 8, 8, 8, 8, 8, 8, 8, 8, 8, 8, 8, 8, 8, 8, 8, 8, 8, 8, 8, 8, 8, 8, 8, 8, 8, 8, 8, 8, 8, 8, 8, 8, 8, 8, 8, 8, 8, 8, 8, 8, 8, 8, 8, 8, 8, 8, 8, 8, 8, 8, 8, 8, 8, 8, 8, 8, 8, 8, 8, 8, 8, 8, 8, 8, 8, 8, 8, 8, 8, 8, 8, 8, 8, 8, 8, 8, 8, 8]⟩ : ByteArray) (ji10)
       replace p13 := eq_true p13
       replace q13 := eq_true q13
       go_wp2
       go_ret
       exact ⟨by first | rfl | (simp; done) | (simp only [← hji10] <;> (first | rfl | simp)) | (simp [*]; done), by repeat (first | exact Drawn0.refl _ | apply Drawn0.step)⟩
      ·rw [if_neg c12] at H
       exact absurd H (by simp)
     ·rw [if_neg c11] at H
      exact absurd H (by simp)
   ·rw [if_neg c4] at H
    have c4b0 := decide_eq_false c4
    clear c4
    by_cases c14 : x0_1 ≥ 256
    ·rw [if_pos c14] at H
     have c14b0 := decide_eq_true c14
     clear c14
     obtain ⟨ji15, hji15⟩ : ∃ j_ : Int, ((x0_1 / 256) % 256) = j_ := ⟨_, rfl⟩
     replace H : (if 0 ≤ (ji15) then (if (ji15) < 256 then (some (wrap64 ((wrap64 (x2_1 + 8)) + (wrap64 (bt (⟨#[0, 1, 2, 2, 3, 3, 3, 3, 4, 4, 4, 4, 4, 4, 4, 4, 5, 5, 5, 5, 5, 5, 5, 5, 5, 5, 5, 5, 5, 5, 5, 5, 6, 6, 6, 6, 6, 6, 6, 6, 6, 6, 6, 6, 6, 6, 6, 6, 6, 6, 6, 6, 6, 6, 6, 6, 6, 6, 6, 6, 6, 6, 6, 6, 7, 7, 7, 7, 7, 7, 7, 7, 7, 7, 7, 7, 7, 7, 7, 7, 7, 7, 7, 7, 7, 7, 7, 7, 7, 7, 7, 7, 7, 7, 7, 7, 7, 7, 7, 7, 7, 7, 7, 7, 7, 7, 7, 7, 7, 7, 7, 7, 7, 7, 7, 7, 7, 7, 7, 7, 7, 7, 7, 7, 7, 7, 7, 7, 8, 8, 8, 8, 8, 8, 8, 8, 8, 8, 8, 8, 8, 8, 8, 8, 8, 8, 8, 8, 8, 8, 8, 8, 8, 8, 8, 8, 8, 8, 8, 8, 8, 8, 8, 8, 8, 8, 8, 8, 8, 8, 8, 8, 8, 8, 8, 8, 8, 8, 8, 8, 8, 8, 8, 8, 8, 8, 8, 8, 8, 8, 8, 8, 8, 8, 8, 8, 8, 8, 8, 8, 8, 8, 8, 8, 8, 8, 8, 8, 8, 8, 8, 8, 8, 8, 8, 8, 8, 8, 8, 8, 8, 8, 8, 8, 8, 8, 8, 8, 8, 8, 8, 8, 8, 8, 8, 8, 8, 8, 8, 8, 8, 8, 8, 8, 8, 8, 8, 8, 8, 8, 8, 8, 8, 8, 8, 8]⟩ : ByteArray) (ji15)))))) else (none)) else (none)) = some r := by first | (rw [hji15] at H; exact H) | (simp only [hji15] at H ⊢; exact H)
     by_cases c16 : 0 ≤ (ji15)
     ·rw [if_pos c16] at H
      have c16b0 := decide_eq_true c16
      clear c16
      by_cases c17 : (ji15) < 256
      ·rw [if_pos c17] at H
       have c17b0 := decide_eq_true c17
       clear c17
       obtain rfl := Option.some.inj H
       have p18 : 0 ≤ ((ji15) : Int) := of_decide_eq_true (by first | (with_reducible assumption) | assumption)
       have q18 : (ji15) < (256 : Int) := of_decide_eq_true (by first | (with_reducible assumption) | assumption)
       have hx18 := bt_at (⟨#[0, 1, 2, 2, 3, 3, 3, 3, 4, 4, 4, 4, 4, 4, 4, 4, 5, 5, 5, 5, 5, 5, 5, 5, 5, 5, 5, 5, 5, 5, 5, 5, 6, 6, 6, 6, 6, 6, 6, 6, 6, 6, 6, 6, 6, 6, 6, 6, 6, 6, 6, 6, 6, 6, 6, 6, 6, 6, 6, 6, 6, 6, 6, 6, 7, 7, 7, 7, 7, 7, 7, 7, 7, 7, 7, 7, 7, 7, 7, 7, 7, 7, 7, 7, 7, 7, 7, 7, 7, 7, 7, 7, 7, 7, 7, 7, 7, 7, 7, 7, 7, 7, 7, 7, 7, 7, 7, 7, 7, 7, 7, 7, 7, 7, 7, 7, 7, 7, 7, 7, 7, 7, 7, 7, 7, 7, 7, 7, 8, 8, 8, 8, 8, 8, 8, 8, 8, 8, 8, 8, 8, 8, 8, 8, 8, 8, 8, 8, 8, 8, 8, 8, 8, 8, 8, 8, 8, 8, 8, 8, 8, 8, 8, 8, 8, 8, 8, 8, 8, 8, 8, 8, 8, 8, 8, 8, 8, 8, 8, 8, 8, 8, 8, 8, 8, 8, 8, 8, 8, 8, 8, 8, 8, 8, 8, 8, 8, 8, 8, 8, 8, 8, 8, 8, 8, 8, 8, 8, 8, 8, 8, 8, 8, 8, 8, 8, 8, 8, 8, 8, 8, 8, 8, 8, 8, 8, 8, 8, 8, 8, 8, 8, 8, 8, 8, 8, 8, 8, 8, 8, 8, 8, 8, 8, 8, 8, 8, 8, 8, 8, 8, 8, 8, 8, 8, 8]⟩ : ByteArray) (ji15)
       replace p18 := eq_true p18
       replace q18 := eq_true q18
       go_wp2
       go_ret
       exact ⟨by first | rfl | (simp; done) | (simp only [← hji15] <;> (first | rfl | simp)) | (simp [*]; done), by repeat (first | exact Drawn0.refl _ | apply Drawn0.step)⟩
      ·rw [if_neg c17] at H
       exact absurd H (by simp)
     ·rw [if_neg c16] at H
      exact absurd H (by simp)
    ·rw [if_neg c14] at H
     have c14b0 := decide_eq_false c14
     clear c14
     obtain ⟨ji19, hji19⟩ : ∃ j_ : Int, ((x0_1) % 256) = j_ := ⟨_, rfl⟩
     replace H : (if 0 ≤ (ji19) then (if (ji19) < 256 then (some (wrap64 (x2_1 + (wrap64 (bt (⟨#[0, 1, 2, 2, 3, 3, 3, 3, 4, 4, 4, 4, 4, 4, 4, 4, 5, 5, 5, 5, 5, 5, 5, 5, 5, 5, 5, 5, 5, 5, 5, 5, 6, 6, 6, 6, 6, 6, 6, 6, 6, 6, 6, 6, 6, 6, 6, 6, 6, 6, 6, 6, 6, 6, 6, 6, 6, 6, 6, 6, 6, 6, 6, 6, 7, 7, 7, 7, 7, 7, 7, 7, 7, 7, 7, 7, 7, 7, 7, 7, 7, 7, 7, 7, 7, 7, 7, 7, 7, 7, 7, 7, 7, 7, 7, 7, 7, 7, 7, 7, 7, 7, 7, 7, 7, 7, 7, 7, 7, 7, 7, 7, 7, 7, 7, 7, 7, 7, 7, 7, 7, 7, 7, 7, 7, 7, 7, 7, 8, 8, 8, 8, 8, 8, 8, 8, 8, 8, 8, 8, 8, 8, 8, 8, 8, 8, 8, 8, 8, 8, 8, 8, 8, 8, 8, 8, 8, 8, 8, 8, 8, 8, 8, 8, 8, 8, 8, 8, 8, 8, 8, 8, 8, 8, 8, 8, 8, 8, 8, 8, 8, 8, 8, 8, 8, 8, 8, 8, 8, 8, 8, 8, 8, 8, 8, 8, 8, 8, 8, 8, 8, 8, 8, 8, 8, 8, 8, 8, 8, 8, 8, 8, 8, 8, 8, 8, 8, 8, 8, 8, 8, 8, 8, 8, 8, 8, 8, 8, 8, 8, 8, 8, 8, 8, 8, 8, 8, 8, 8, 8, 8, 8, 8, 8, 8, 8, 8, 8, 8, 8, 8, 8, 8, 8, 8, 8]⟩ : ByteArray) (ji19)))))) else (none)) else (none)) = some r := by first | (rw [hji19] at H; exact H) | (simp only [hji19] at H ⊢; exact H)
     by_cases c20 : 0 ≤ (ji19)
     ·rw [if_pos c20] at H
      have c20b0 := decide_eq_true c20
      clear c20
      by_cases c21 : (ji19) < 256
      ·rw [if_pos c21] at H
       have c21b0 := decide_eq_true c21
       clear c21
       obtain rfl := Option.some.inj H
       have p22 : 0 ≤ ((ji19) : Int) := of_decide_eq_true (by first | (with_reducible assumption) | assumption)
       have q22 : (ji19) < (256 : Int) := of_decide_eq_true (by first | (with_reducible assumption) | assumption)
       have hx22 := bt_at (⟨#[0, 1, 2, 2, 3, 3, 3, 3, 4, 4, 4, 4, 4, 4, 4, 4, 5, 5, 5, 5, 5, 5, 5, 5, 5, 5, 5, 5, 5, 5, 5, 5, 6, 6, 6, 6, 6, 6, 6, 6, 6, 6, 6, 6, 6, 6, 6, 6, 6, 6, 6, 6, 6, 6, 6, 6, 6, 6, 6, 6, 6, 6, 6, 6, 7, 7, 7, 7, 7, 7, 7, 7, 7, 7, 7, 7, 7, 7, 7, 7, 7, 7, 7, 7, 7, 7, 7, 7, 7, 7, 7, 7, 7, 7, 7, 7, 7, 7, 7, 7, 7, 7, 7, 7, 7, 7, 7, 7, 7, 7, 7, 7, 7, 7, 7, 7, 7, 7, 7, 7, 7, 7, 7, 7, 7, 7, 7, 7, 8, 8, 8, 8, 8, 8, 8, 8, 8, 8, 8, 8, 8, 8, 8, 8, 8, 8, 8, 8, 8, 8, 8, 8, 8, 8, 8, 8, 8, 8, 8, 8, 8, 8, 8, 8, 8, 8, 8, 8, 8, 8, 8, 8, 8, 8, 8, 8, 8, 8, 8, 8, 8, 8, 8, 8, 8, 8, 8, 8, 8, 8, 8, 8, 8, 8, 8, 8, 8, 8, 8, 8, 8, 8, 8, 8, 8, 8, 8, 8, 8, 8, 8, 8, 8, 8, 8, 8, 8, 8, 8, 8, 8, 8, 8, 8, 8, 8, 8, 8, 8, 8, 8, 8, 8, 8, 8, 8, 8, 8, 8, 8, 8, 8, 8, 8, 8, 8, 8, 8, 8, 8, 8, 8, 8, 8, 8, 8]⟩ : ByteArray) (ji19)
       replace p22 := eq_true p22
       replace q22 := eq_true q22
       go_wp2
       go_ret
       exact ⟨by first | rfl | (simp; done) | (simp only [← hji19] <;> (first | rfl | simp)) | (simp [*]; done), by repeat (first | exact Drawn0.refl _ | apply Drawn0.step)⟩
      ·rw [if_neg c21] at H
       exact absurd H (by simp)
     ·rw [if_neg c20] at H
      exact absurd H (by simp)
def bits_Len.f (k : Nat) (a0 : Int) : Option (Int) := (bits_Len64.f k a0).bind fun t484 => (some t484)
set_option maxHeartbeats 8000000 in
set_option maxRecDepth 100000 in
theorem bits_Len.calls (k : Nat) (a0 : Int) (r : Int) (w : World) (h : bits_Len.f k a0 = some r) :
  Calls Tryz.prog 135 #[.int .u64 a0] w fun e w' => e = .returned (.int .i64 r) ∧ Drawn0 w w' := by
 have H : ((bits_Len64.f k a0).bind fun t484 => (some t484)) = some r := h
 clear h
 replace H := Option.bind_eq_some_iff.mp H
 obtain ⟨t484, A20, H⟩ := H
 have A2 := Aside0.mk A20
 clear A20
 obtain rfl := Option.some.inj H
 go_enter Tryz.func135, Tryz.ntmps135
 go_wp2_with (first | (refine gC (some 7) Tryz.func154 #[.int .u64 a0] ?_; (with_reducible refine (bits_Len64.calls k a0 t484 _ A2.out).mono ?_); rintro e w' ⟨rfl, ⟨nd, rfl⟩⟩; refine ⟨_, rfl, ?_⟩))
 go_ret
 exact ⟨rS, rD⟩
def impl_PairLine.j0 : Nat → Bool → Int → Int → Bool → Int → Int → Bool → Int → Int → Bool → Int → Int → Option (Int × Int)
 | 0, _, _, _, _, _, _, _, _, _, _, _, _ => none
 | k + 1, x36, x486000, x486001, x486002, x487000, x487001, x487002, x488000, x488001, x488002, x490000, x490001 => if x36 = true then (some (x490000, x490001)) else ((impl_slopeOf.f k x486000 x486001 x486002 x487000 x487001 x487002).bind fun bt493 => (if bt493.2 = true then ((impl_FpSub.f 0 x488000).bind fun t495 => ((impl_FpSub.f t495 x486000).bind fun t496 => ((impl_FpSub.f 0 x486001).bind fun t497 => ((impl_FpMul.f bt493.1 t496).bind fun t498 => ((impl_FpSub.f t497 t498).bind fun t499 => (some (t499, x488001))))))) else (some (x490000, x490001))))
def impl_PairLine.f (k : Nat) (a0_0 : Int) (a0_1 : Int) (a0_2 : Bool) (a1_0 : Int) (a1_1 : Int) (a1_2 : Bool) (a2_0 : Int) (a2_1 : Int) (a2_2 : Bool) : Option (Int × Int) := if a0_2 = true then (impl_PairLine.j0 k true a0_0 a0_1 a0_2 a1_0 a1_1 a1_2 a2_0 a2_1 a2_2 1 0) else (if a1_2 = true then (impl_PairLine.j0 k true a0_0 a0_1 a0_2 a1_0 a1_1 a1_2 a2_0 a2_1 a2_2 1 0) else (if a2_2 = true then (impl_PairLine.j0 k true a0_0 a0_1 a0_2 a1_0 a1_1 a1_2 a2_0 a2_1 a2_2 1 0) else ((impl_PointOk.f a0_0 a0_1 a0_2).bind fun t490 => (if t490 = true then ((impl_PointOk.f a1_0 a1_1 a1_2).bind fun t491 => (if t491 = true then ((impl_PointOk.f a2_0 a2_1 a2_2).bind fun t492 => (impl_PairLine.j0 k (!t492) a0_0 a0_1 a0_2 a1_0 a1_1 a1_2 a2_0 a2_1 a2_2 1 0)) else (impl_PairLine.j0 k true a0_0 a0_1 a0_2 a1_0 a1_1 a1_2 a2_0 a2_1 a2_2 1 0))) else (impl_PairLine.j0 k true a0_0 a0_1 a0_2 a1_0 a1_1 a1_2 a2_0 a2_1 a2_2 1 0)))))
def impl_PairLine.T8 : Bool × List (List Nat × List Nat) := (true, [([], []), ([0], [0]), ([1], [1]), ([], []), ([], []), ([3, 4, 2], [3, 4]), ([2, 5, 5], [2, 5]), ([], []), ([7], [7]), ([6, 8], [6, 8]), ([9, 6, 0, 1, 2, 3, 4, 5, 6, 7, 8, 9], [9])])
def impl_PairLine.B8 : List Nat := [0, 1, 3, 0, 0, 31, 63, 0, 128, 511, 1023]
theorem impl_PairLine.tab8 : rtab .any (opsOf Tryz.f136 8) = impl_PairLine.T8 := by kernel_rfl
theorem impl_PairLine.bits8 : waitsOk impl_PairLine.T8.2 impl_PairLine.B8 = true := by kernel_rfl
set_option maxHeartbeats 8000000 in
set_option maxRecDepth 100000 in
theorem impl_PairLine.calls (k : Nat) (a0_0 : Int) (a0_1 : Int) (a0_2 : Bool) (a1_0 : Int) (a1_1 : Int) (a1_2 : Bool) (a2_0 : Int) (a2_1 : Int) (a2_2 : Bool) (r1 : Int) (r2 : Int) (w : World) (h : impl_PairLine.f k a0_0 a0_1 a0_2 a1_0 a1_1 a1_2 a2_0 a2_1 a2_2 = some (r1, r2)) :
  Calls Tryz.prog 136 #[.agg #[.int .i64 a0_0, .int .i64 a0_1, .bool a0_2], .agg #[.int .i64 a1_0, .int .i64 a1_1, .bool a1_2], .agg #[.int .i64 a2_0, .int .i64 a2_1, .bool a2_2]] w fun e w' => e = .returned (.agg #[.int .i64 r1, .int .i64 r2]) ∧ Below w.heap.size w w' := by
 have hu28 := Tryz.underlying28
 have hu75 := Tryz.underlying75
 have HB := Aside0.mk (Below.refl w.heap.size w)
 have H : (if a0_2 = true then (impl_PairLine.j0 k true a0_0 a0_1 a0_2 a1_0 a1_1 a1_2 a2_0 a2_1 a2_2 1 0) else (if a1_2 = true then (impl_PairLine.j0 k true a0_0 a0_1 a0_2 a1_0 a1_1 a1_2 a2_0 a2_1 a2_2 1 0) else (if a2_2 = true then (impl_PairLine.j0 k true a0_0 a0_1 a0_2 a1_0 a1_1 a1_2 a2_0 a2_1 a2_2 1 0) else ((impl_PointOk.f a0_0 a0_1 a0_2).bind fun t490 => (if t490 = true then ((impl_PointOk.f a1_0 a1_1 a1_2).bind fun t491 => (if t491 = true then ((impl_PointOk.f a2_0 a2_1 a2_2).bind fun t492 => (impl_PairLine.j0 k (!t492) a0_0 a0_1 a0_2 a1_0 a1_1 a1_2 a2_0 a2_1 a2_2 1 0)) else (impl_PairLine.j0 k true a0_0 a0_1 a0_2 a1_0 a1_1 a1_2 a2_0 a2_1 a2_2 1 0))) else (impl_PairLine.j0 k true a0_0 a0_1 a0_2 a1_0 a1_1 a1_2 a2_0 a2_1 a2_2 1 0)))))) = some (r1, r2) := h
 clear h
 have HC4 := Aside0.mk H
 clear H
 go_enter Tryz.func136, Tryz.ntmps136
 go_upto_region 2 with (first | (refine gB 3 #[.int .i64 a0_0, .int .i64 a0_1, .bool a0_2] 28 ?_; intro gb485 hg w5 BK485 hb; have GW485 := bG HB hg; replace HB := bS HB hb; clear hb hg) | (refine gB 4 #[.int .i64 a1_0, .int .i64 a1_1, .bool a1_2] 28 ?_; intro gb486 hg w6 BK486 hb; have GW486 := bG HB hg; replace HB := bS HB hb; obtain ⟨NB485_486, NB486_485⟩ := bN BK485 hg; replace BK485 := bB BK485 hb; clear hb hg) | (refine gB 5 #[.int .i64 a2_0, .int .i64 a2_1, .bool a2_2] 28 ?_; intro gb487 hg w7 BK487 hb; have GW487 := bG HB hg; replace HB := bS HB hb; obtain ⟨NB485_487, NB487_485⟩ := bN BK485 hg; replace BK485 := bB BK485 hb; obtain ⟨NB486_487, NB487_486⟩ := bN BK486 hg; replace BK486 := bB BK486 hb; clear hb hg) | (refine gB 6 #[.int .i64 0, .int .i64 0] 75 ?_; intro gb488 hg w8 BK488 hb; have GW488 := bG HB hg; replace HB := bS HB hb; obtain ⟨NB485_488, NB488_485⟩ := bN BK485 hg; replace BK485 := bB BK485 hb; obtain ⟨NB486_488, NB488_486⟩ := bN BK486 hg; replace BK486 := bB BK486 hb; obtain ⟨NB487_488, NB488_487⟩ := bN BK487 hg; replace BK487 := bB BK487 hb; clear hb hg) | (refine gB 7 #[.int .i64 0, .int .i64 0] 75 ?_; intro gb489 hg w9 BK489 hb; have GW489 := bG HB hg; replace HB := bS HB hb; obtain ⟨NB485_489, NB489_485⟩ := bN BK485 hg; replace BK485 := bB BK485 hb; obtain ⟨NB486_489, NB489_486⟩ := bN BK486 hg; replace BK486 := bB BK486 hb; obtain ⟨NB487_489, NB489_487⟩ := bN BK487 hg; replace BK487 := bB BK487 hb; obtain ⟨NB488_489, NB489_488⟩ := bN BK488 hg; replace BK488 := bB BK488 hb; clear hb hg; obtain ⟨hnb10, hnc10⟩ := nB NB489_485; obtain ⟨hnb11, hnc11⟩ := nB NB489_486; obtain ⟨hnb12, hnc12⟩ := nB NB489_487; obtain ⟨hnb13, hnc13⟩ := nB NB489_488; obtain ⟨hcz14_0, hcz14_1, hfz14_0, hfz14_1⟩ := bK2 (w := w9) BK489))
 (try simp only [Act.put, List.setIfInBounds_toArray, List.set_cons_zero, List.set_cons_succ])
 go_cut [36] (fun v36 wc => ∃ (kq : Nat) (x36_3 : Bool), v36 = .bool x36_3 ∧ Aside0 (impl_PairLine.j0 kq x36_3 a0_0 a0_1 a0_2 a1_0 a1_1 a1_2 a2_0 a2_1 a2_2 1 0 = some (r1, r2)) ∧ Aside0 (kq ≤ k) ∧ Aside0 (wc.heap[gb485]? = some (.cells #[.int .i64 a0_0, .int .i64 a0_1, .bool a0_2] 28 (0, 0))) ∧ Aside0 (wc.heap[gb486]? = some (.cells #[.int .i64 a1_0, .int .i64 a1_1, .bool a1_2] 28 (0, 0))) ∧ Aside0 (wc.heap[gb487]? = some (.cells #[.int .i64 a2_0, .int .i64 a2_1, .bool a2_2] 28 (0, 0))) ∧ Aside0 (wc.heap[gb488]? = some (.cells #[.int .i64 0, .int .i64 0] 75 (0, 0))) ∧ Aside0 (wc.heap[gb489]? = some (.cells #[.int .i64 1, .int .i64 0] 75 (0, 0))) ∧ Aside0 (Below w.heap.size w wc))
 case first =>
  have H := HC4.out
  clear HC4
  by_cases c15 : a0_2 = true
  ·subst c15
   rw [if_pos rfl] at H
   have H' := Aside0.mk H
   clear H
   obtain ⟨hnb16, hnc16⟩ := nB NB485_486
   obtain ⟨hnb17, hnc17⟩ := nB NB485_487
   obtain ⟨hnb18, hnc18⟩ := nB NB485_488
   obtain ⟨hnb19, hnc19⟩ := nB NB485_489
   obtain ⟨hcz20_0, hcz20_1, hcz20_2, hfz20_0, hfz20_1, hfz20_2⟩ := bK3 (w := w9) BK485
   go_wp2
   go_meet
   case rel => exact ⟨_, (true), rS, H', ⟨by first | omega | exact Nat.le_refl _⟩, ⟨bP BK485⟩, ⟨bP BK486⟩, ⟨bP BK487⟩, ⟨bP BK488⟩, ⟨bU BK489⟩, ⟨bZ HB⟩⟩
  ·replace c15 := Bool.eq_false_iff.mpr c15
   subst c15
   rw [if_neg (show ¬ (false = true) by decide)] at H
   by_cases c21 : a1_2 = true
   ·subst c21
    rw [if_pos rfl] at H
    have H' := Aside0.mk H
    clear H
    obtain ⟨hnb22, hnc22⟩ := nB NB485_486
    obtain ⟨hnb23, hnc23⟩ := nB NB485_487
    obtain ⟨hnb24, hnc24⟩ := nB NB485_488
    obtain ⟨hnb25, hnc25⟩ := nB NB485_489
    obtain ⟨hcz26_0, hcz26_1, hcz26_2, hfz26_0, hfz26_1, hfz26_2⟩ := bK3 (w := w9) BK485
    obtain ⟨hnb27, hnc27⟩ := nB NB486_487
    obtain ⟨hnb28, hnc28⟩ := nB NB486_488
    obtain ⟨hnb29, hnc29⟩ := nB NB486_489
    obtain ⟨hcz30_0, hcz30_1, hcz30_2, hfz30_0, hfz30_1, hfz30_2⟩ := bK3 (w := w9) BK486
    go_wp2
    go_meet
    case rel => exact ⟨_, (true), rS, H', ⟨by first | omega | exact Nat.le_refl _⟩, ⟨bP BK485⟩, ⟨bP BK486⟩, ⟨bP BK487⟩, ⟨bP BK488⟩, ⟨bU BK489⟩, ⟨bZ HB⟩⟩
   ·replace c21 := Bool.eq_false_iff.mpr c21
    subst c21
    rw [if_neg (show ¬ (false = true) by decide)] at H
    by_cases c31 : a2_2 = true
    ·subst c31
     rw [if_pos rfl] at H
     have H' := Aside0.mk H
     clear H
     obtain ⟨hnb32, hnc32⟩ := nB NB485_486
     obtain ⟨hnb33, hnc33⟩ := nB NB485_487
     obtain ⟨hnb34, hnc34⟩ := nB NB485_488
     obtain ⟨hnb35, hnc35⟩ := nB NB485_489
     obtain ⟨hcz36_0, hcz36_1, hcz36_2, hfz36_0, hfz36_1, hfz36_2⟩ := bK3 (w := w9) BK485
     obtain ⟨hnb37, hnc37⟩ := nB NB486_487
     obtain ⟨hnb38, hnc38⟩ := nB NB486_488
     obtain ⟨hnb39, hnc39⟩ := nB NB486_489
     obtain ⟨hcz40_0, hcz40_1, hcz40_2, hfz40_0, hfz40_1, hfz40_2⟩ := bK3 (w := w9) BK486
     obtain ⟨hnb41, hnc41⟩ := nB NB487_488
     obtain ⟨hnb42, hnc42⟩ := nB NB487_489
     obtain ⟨hcz43_0, hcz43_1, hcz43_2, hfz43_0, hfz43_1, hfz43_2⟩ := bK3 (w := w9) BK487
     go_wp2
     go_meet
     case rel => exact ⟨_, (true), rS, H', ⟨by first | omega | exact Nat.le_refl _⟩, ⟨bP BK485⟩, ⟨bP BK486⟩, ⟨bP BK487⟩, ⟨bP BK488⟩, ⟨bU BK489⟩, ⟨bZ HB⟩⟩
    ·replace c31 := Bool.eq_false_iff.mpr c31
     subst c31
     rw [if_neg (show ¬ (false = true) by decide)] at H
     replace H := Option.bind_eq_some_iff.mp H
     obtain ⟨t490, A440, H⟩ := H
     have A44 := Aside0.mk A440
     clear A440
     by_cases c45 : t490 = true
     ·subst c45
      rw [if_pos rfl] at H
      replace H := Option.bind_eq_some_iff.mp H
      obtain ⟨t491, A460, H⟩ := H
      have A46 := Aside0.mk A460
      clear A460
      by_cases c47 : t491 = true
      ·subst c47
       rw [if_pos rfl] at H
       replace H := Option.bind_eq_some_iff.mp H
       obtain ⟨t492, A480, H⟩ := H
       have A48 := Aside0.mk A480
       clear A480
       have H' := Aside0.mk H
       clear H
       obtain ⟨hnb49, hnc49⟩ := nB NB485_486
       obtain ⟨hnb50, hnc50⟩ := nB NB485_487
       obtain ⟨hnb51, hnc51⟩ := nB NB485_488
       obtain ⟨hnb52, hnc52⟩ := nB NB485_489
       obtain ⟨hcz53_0, hcz53_1, hcz53_2, hfz53_0, hfz53_1, hfz53_2⟩ := bK3 (w := w9) BK485
       obtain ⟨hnb54, hnc54⟩ := nB NB486_487
       obtain ⟨hnb55, hnc55⟩ := nB NB486_488
       obtain ⟨hnb56, hnc56⟩ := nB NB486_489
       obtain ⟨hcz57_0, hcz57_1, hcz57_2, hfz57_0, hfz57_1, hfz57_2⟩ := bK3 (w := w9) BK486
       obtain ⟨hnb58, hnc58⟩ := nB NB487_488
       obtain ⟨hnb59, hnc59⟩ := nB NB487_489
       obtain ⟨hcz60_0, hcz60_1, hcz60_2, hfz60_0, hfz60_1, hfz60_2⟩ := bK3 (w := w9) BK487
       go_wp2_with (first | (go_at_call 47; (with_reducible refine (impl_PointOk.calls a0_0 a0_1 false true _ A44.out).mono ?_); rintro e w61 ⟨rfl, hb⟩; replace BK485 := bB BK485 hb; replace BK486 := bB BK486 hb; replace BK487 := bB BK487 hb; replace BK488 := bB BK488 hb; replace BK489 := bV 75 #[.int .i64 1, .int .i64 0] BK489 hb; replace HB := bS HB hb; (try clear hb); obtain ⟨hcz62_0, hcz62_1, hcz62_2, hfz62_0, hfz62_1, hfz62_2⟩ := bK3 (w := w61) BK486) | (go_at_call 47; (with_reducible refine (impl_PointOk.calls a1_0 a1_1 false true _ A46.out).mono ?_); rintro e w63 ⟨rfl, hb⟩; replace BK485 := bB BK485 hb; replace BK486 := bB BK486 hb; replace BK487 := bB BK487 hb; replace BK488 := bB BK488 hb; replace BK489 := bB BK489 hb; replace HB := bS HB hb; (try clear hb); obtain ⟨hcz64_0, hcz64_1, hcz64_2, hfz64_0, hfz64_1, hfz64_2⟩ := bK3 (w := w63) BK487) | (go_at_call 47; (with_reducible refine (impl_PointOk.calls a2_0 a2_1 false t492 _ A48.out).mono ?_); rintro e w65 ⟨rfl, hb⟩; replace BK485 := bB BK485 hb; replace BK486 := bB BK486 hb; replace BK487 := bB BK487 hb; replace BK488 := bB BK488 hb; replace BK489 := bB BK489 hb; replace HB := bS HB hb; (try clear hb)))
       go_meet
       case rel => exact ⟨_, (!t492), rS, H', ⟨by first | omega | exact Nat.le_refl _⟩, ⟨bP BK485⟩, ⟨bP BK486⟩, ⟨bP BK487⟩, ⟨bP BK488⟩, ⟨bP BK489⟩, ⟨bZ HB⟩⟩
      ·replace c47 := Bool.eq_false_iff.mpr c47
       subst c47
       rw [if_neg (show ¬ (false = true) by decide)] at H
       have H' := Aside0.mk H
       clear H
       obtain ⟨hnb66, hnc66⟩ := nB NB485_486
       obtain ⟨hnb67, hnc67⟩ := nB NB485_487
       obtain ⟨hnb68, hnc68⟩ := nB NB485_488
       obtain ⟨hnb69, hnc69⟩ := nB NB485_489
       obtain ⟨hcz70_0, hcz70_1, hcz70_2, hfz70_0, hfz70_1, hfz70_2⟩ := bK3 (w := w9) BK485
       obtain ⟨hnb71, hnc71⟩ := nB NB486_487
       obtain ⟨hnb72, hnc72⟩ := nB NB486_488
       obtain ⟨hnb73, hnc73⟩ := nB NB486_489
       obtain ⟨hcz74_0, hcz74_1, hcz74_2, hfz74_0, hfz74_1, hfz74_2⟩ := bK3 (w := w9) BK486
       obtain ⟨hnb75, hnc75⟩ := nB NB487_488
       obtain ⟨hnb76, hnc76⟩ := nB NB487_489
       obtain ⟨hcz77_0, hcz77_1, hcz77_2, hfz77_0, hfz77_1, hfz77_2⟩ := bK3 (w := w9) BK487
       go_wp2_with (first | (go_at_call 47; (with_reducible refine (impl_PointOk.calls a0_0 a0_1 false true _ A44.out).mono ?_); rintro e w78 ⟨rfl, hb⟩; replace BK485 := bB BK485 hb; replace BK486 := bB BK486 hb; replace BK487 := bB BK487 hb; replace BK488 := bB BK488 hb; replace BK489 := bV 75 #[.int .i64 1, .int .i64 0] BK489 hb; replace HB := bS HB hb; (try clear hb); obtain ⟨hcz79_0, hcz79_1, hcz79_2, hfz79_0, hfz79_1, hfz79_2⟩ := bK3 (w := w78) BK486) | (go_at_call 47; (with_reducible refine (impl_PointOk.calls a1_0 a1_1 false false _ A46.out).mono ?_); rintro e w80 ⟨rfl, hb⟩; replace BK485 := bB BK485 hb; replace BK486 := bB BK486 hb; replace BK487 := bB BK487 hb; replace BK488 := bB BK488 hb; replace BK489 := bB BK489 hb; replace HB := bS HB hb; (try clear hb)))
       go_meet
       case rel => exact ⟨_, (true), rS, H', ⟨by first | omega | exact Nat.le_refl _⟩, ⟨bP BK485⟩, ⟨bP BK486⟩, ⟨bP BK487⟩, ⟨bP BK488⟩, ⟨bP BK489⟩, ⟨bZ HB⟩⟩
     ·replace c45 := Bool.eq_false_iff.mpr c45
      subst c45
      rw [if_neg (show ¬ (false = true) by decide)] at H
      have H' := Aside0.mk H
      clear H
      obtain ⟨hnb81, hnc81⟩ := nB NB485_486
      obtain ⟨hnb82, hnc82⟩ := nB NB485_487
      obtain ⟨hnb83, hnc83⟩ := nB NB485_488
      obtain ⟨hnb84, hnc84⟩ := nB NB485_489
      obtain ⟨hcz85_0, hcz85_1, hcz85_2, hfz85_0, hfz85_1, hfz85_2⟩ := bK3 (w := w9) BK485
      obtain ⟨hnb86, hnc86⟩ := nB NB486_487
      obtain ⟨hnb87, hnc87⟩ := nB NB486_488
      obtain ⟨hnb88, hnc88⟩ := nB NB486_489
      obtain ⟨hcz89_0, hcz89_1, hcz89_2, hfz89_0, hfz89_1, hfz89_2⟩ := bK3 (w := w9) BK486
      obtain ⟨hnb90, hnc90⟩ := nB NB487_488
      obtain ⟨hnb91, hnc91⟩ := nB NB487_489
      obtain ⟨hcz92_0, hcz92_1, hcz92_2, hfz92_0, hfz92_1, hfz92_2⟩ := bK3 (w := w9) BK487
      go_wp2_with (first | (go_at_call 47; (with_reducible refine (impl_PointOk.calls a0_0 a0_1 false false _ A44.out).mono ?_); rintro e w93 ⟨rfl, hb⟩; replace BK485 := bB BK485 hb; replace BK486 := bB BK486 hb; replace BK487 := bB BK487 hb; replace BK488 := bB BK488 hb; replace BK489 := bV 75 #[.int .i64 1, .int .i64 0] BK489 hb; replace HB := bS HB hb; (try clear hb)))
      go_meet
      case rel => exact ⟨_, (true), rS, H', ⟨by first | omega | exact Nat.le_refl _⟩, ⟨bP BK485⟩, ⟨bP BK486⟩, ⟨bP BK487⟩, ⟨bP BK488⟩, ⟨bP BK489⟩, ⟨bZ HB⟩⟩
 case rest =>
  clear HC4
  try clear c1
  try clear c2
  try clear p2
  try clear c3
  try clear c4
  try clear c5
  try clear c6
  try clear c7
  try clear c8
  try clear c9
  try clear c10
  try clear c11
  try clear c12
  try clear c13
  try clear c15
  try clear c16
  try clear c17
  try clear c18
  try clear c19
  try clear c21
  try clear c22
  try clear c23
  try clear c24
  try clear c25
  try clear c27
  try clear c28
  try clear c29
  try clear c31
  try clear c32
  try clear c33
  try clear c34
  try clear c35
  try clear c37
  try clear c38
  try clear c39
  try clear c41
  try clear c42
  try clear c45
  try clear c47
  try clear c49
  try clear c50
  try clear c51
  try clear c52
  try clear c54
  try clear c55
  try clear c56
  try clear c58
  try clear c59
  try clear c66
  try clear c67
  try clear c68
  try clear c69
  try clear c71
  try clear c72
  try clear c73
  try clear c75
  try clear c76
  try clear c81
  try clear c82
  try clear c83
  try clear c84
  try clear c86
  try clear c87
  try clear c88
  try clear c90
  try clear c91
  try clear hcz14_0
  try clear hcz14_1
  try clear hcz20_0
  try clear hcz20_1
  try clear hcz20_2
  try clear hcz26_0
  try clear hcz26_1
  try clear hcz26_2
  try clear hcz30_0
  try clear hcz30_1
  try clear hcz30_2
  try clear hcz36_0
  try clear hcz36_1
  try clear hcz36_2
  try clear hcz40_0
  try clear hcz40_1
  try clear hcz40_2
  try clear hcz43_0
  try clear hcz43_1
  try clear hcz43_2
  try clear hcz53_0
  try clear hcz53_1
  try clear hcz53_2
  try clear hcz57_0
  try clear hcz57_1
  try clear hcz57_2
  try clear hcz60_0
  try clear hcz60_1
  try clear hcz60_2
  try clear hcz62_0
  try clear hcz62_1
  try clear hcz62_2
  try clear hcz64_0
  try clear hcz64_1
  try clear hcz64_2
  try clear hcz70_0
  try clear hcz70_1
  try clear hcz70_2
  try clear hcz74_0
  try clear hcz74_1
  try clear hcz74_2
  try clear hcz77_0
  try clear hcz77_1
  try clear hcz77_2
  try clear hcz79_0
  try clear hcz79_1
  try clear hcz79_2
  try clear hcz85_0
  try clear hcz85_1
  try clear hcz85_2
  try clear hcz89_0
  try clear hcz89_1
  try clear hcz89_2
  try clear hcz92_0
  try clear hcz92_1
  try clear hcz92_2
  try clear hfz14_0
  try clear hfz14_1
  try clear hfz20_0
  try clear hfz20_1
  try clear hfz20_2
  try clear hfz26_0
  try clear hfz26_1
  try clear hfz26_2
  try clear hfz30_0
  try clear hfz30_1
  try clear hfz30_2
  try clear hfz36_0
  try clear hfz36_1
  try clear hfz36_2
  try clear hfz40_0
  try clear hfz40_1
  try clear hfz40_2
  try clear hfz43_0
  try clear hfz43_1
  try clear hfz43_2
  try clear hfz53_0
  try clear hfz53_1
  try clear hfz53_2
  try clear hfz57_0
  try clear hfz57_1
  try clear hfz57_2
  try clear hfz60_0
  try clear hfz60_1
  try clear hfz60_2
  try clear hfz62_0
  try clear hfz62_1
  try clear hfz62_2
  try clear hfz64_0
  try clear hfz64_1
  try clear hfz64_2
  try clear hfz70_0
  try clear hfz70_1
  try clear hfz70_2
  try clear hfz74_0
  try clear hfz74_1
  try clear hfz74_2
  try clear hfz77_0
  try clear hfz77_1
  try clear hfz77_2
  try clear hfz79_0
  try clear hfz79_1
  try clear hfz79_2
  try clear hfz85_0
  try clear hfz85_1
  try clear hfz85_2
  try clear hfz89_0
  try clear hfz89_1
  try clear hfz89_2
  try clear hfz92_0
  try clear hfz92_1
  try clear hfz92_2
  obtain ⟨kq, x36_3, rfl, HA, HJ3, BK485, BK486, BK487, BK488, BK489, HB⟩ := hcut
  cases kq with
  | zero => exact absurd HA.out (by simp [impl_PairLine.j0])
  | succ kj3 =>
   have H := HA.out
   clear HA
   simp only [impl_PairLine.j0] at H
   by_cases c94 : x36_3 = true
   ·subst c94
    rw [if_pos rfl] at H
    simp only [Option.some.injEq, Prod.mk.injEq] at H
    obtain ⟨rfl, rfl⟩ := H
    obtain ⟨hnb95, hnc95⟩ := nB NB489_485
    obtain ⟨hnb96, hnc96⟩ := nB NB489_486
    obtain ⟨hnb97, hnc97⟩ := nB NB489_487
    obtain ⟨hnb98, hnc98⟩ := nB NB489_488
    obtain ⟨hcz99_0, hcz99_1, hfz99_0, hfz99_1⟩ := bK2 (w := wc) BK489
    obtain ⟨hnb100, hnc100⟩ := nB NB488_485
    obtain ⟨hnb101, hnc101⟩ := nB NB488_486
    obtain ⟨hnb102, hnc102⟩ := nB NB488_487
    obtain ⟨hcz103_0, hcz103_1, hfz103_0, hfz103_1⟩ := bK2 (w := wc) BK488
    go_wp2
    refine rC gb488 75 #[.int .i64 1, .int .i64 0] (bU BK488) Tryz.underlying75 ?_
    exact ⟨rR, bZ HB⟩
   ·replace c94 := Bool.eq_false_iff.mpr c94
    subst c94
    rw [if_neg (show ¬ (false = true) by decide)] at H
    replace H := Option.bind_eq_some_iff.mp H
    obtain ⟨⟨t493, t494⟩, A1040, H⟩ := H
    have A104 := Aside0.mk A1040
    clear A1040
    by_cases c105 : t494 = true
    ·subst c105
     rw [if_pos rfl] at H
     replace H := Option.bind_eq_some_iff.mp H
     obtain ⟨t495, A1060, H⟩ := H
     have A106 := Aside0.mk A1060
     clear A1060
     replace H := Option.bind_eq_some_iff.mp H
     obtain ⟨t496, A1070, H⟩ := H
     have A107 := Aside0.mk A1070
     clear A1070
     replace H := Option.bind_eq_some_iff.mp H
     obtain ⟨t497, A1080, H⟩ := H
     have A108 := Aside0.mk A1080
     clear A1080
     replace H := Option.bind_eq_some_iff.mp H
     obtain ⟨t498, A1090, H⟩ := H
     have A109 := Aside0.mk A1090
     clear A1090
     replace H := Option.bind_eq_some_iff.mp H
     obtain ⟨t499, A1100, H⟩ := H
     have A110 := Aside0.mk A1100
     clear A1100
     simp only [Option.some.injEq, Prod.mk.injEq] at H
     obtain ⟨rfl, rfl⟩ := H
     obtain ⟨hnb111, hnc111⟩ := nB NB485_486
     obtain ⟨hnb112, hnc112⟩ := nB NB485_487
     obtain ⟨hnb113, hnc113⟩ := nB NB485_488
     obtain ⟨hnb114, hnc114⟩ := nB NB485_489
     obtain ⟨hcz115_0, hcz115_1, hcz115_2, hfz115_0, hfz115_1, hfz115_2⟩ := bK3 (w := wc) BK485
     obtain ⟨hnb116, hnc116⟩ := nB NB486_487
     obtain ⟨hnb117, hnc117⟩ := nB NB486_488
     obtain ⟨hnb118, hnc118⟩ := nB NB486_489
     obtain ⟨hcz119_0, hcz119_1, hcz119_2, hfz119_0, hfz119_1, hfz119_2⟩ := bK3 (w := wc) BK486
     try go_wp2_with (first | (refine gC (some 41) Tryz.func89 #[.agg #[.int .i64 a0_0, .int .i64 a0_1, .bool a0_2], .agg #[.int .i64 a1_0, .int .i64 a1_1, .bool a1_2]] ?_; (with_reducible refine (impl_slopeOf.calls kj3 a0_0 a0_1 a0_2 a1_0 a1_1 a1_2 t493 true _ A104.out).mono ?_); rintro e w120 ⟨rfl, hb⟩; refine ⟨_, rfl, ?_⟩; replace BK485 := bB BK485 hb; replace BK486 := bB BK486 hb; replace BK487 := bB BK487 hb; replace BK488 := bB BK488 hb; replace BK489 := bB BK489 hb; replace HB := bS HB hb; (try clear hb)))
     replace BK485 := Aside0.mk (blk_drew BK485.out)
     replace BK486 := Aside0.mk (blk_drew BK486.out)
     replace BK487 := Aside0.mk (blk_drew BK487.out)
     replace BK488 := Aside0.mk (blk_drew BK488.out)
     replace BK489 := Aside0.mk (blk_drew BK489.out)
     replace HB := Aside0.mk (below_drew1 HB.out)
     refine start_ (n := 7) (S := fun w' => SP3 w' gb487 (.int .i64 a2_0) (.int .i64 a2_1) (.bool a2_2) (SQ3 w' gb485 (.int .i64 a0_0) (.int .i64 a0_1) (.bool a0_2))) (ds := []) #[false, false, false, false, false, false, false] (by kernel_rfl) rfl rfl (bS3 BK487 (bT3 BK485)) (fun hHeld => ?_)
     generalize w120.drew = w121 at BK485 BK486 BK487 BK488 BK489 HB hHeld ⊢
     refine pJ 0 (some 47) ?_
     refine pJ 3 (some 50) ?_
     refine tJ 1 (some 48) hHeld ?_
     refine tJ 4 (some 51) hHeld ?_
     refine one_ (i := 2) (N := some 49) #[true, true, true, true, true, false, false] rfl rfl (by kernel_rfl) (by decide) (fun K hK => ?_)
     refine gO Tryz.func90 #[.int .i64 0, .int .i64 a2_0] ?_
     with_reducible refine (impl_FpSub.calls 0 a2_0 t495 _ A106.out).mono ?_
     rintro e w' ⟨rfl, ⟨nd, rfl⟩⟩
     refine ⟨_, rfl, ?_⟩
     refine hK.out _ _ (bS3 BK487 (bT3 BK485)) (fun hHeld => ?_)
     clear hK K
     refine nO (some 49) ?_
     refine one_ (i := 5) (N := some 52) #[true, true, true, true, true, true, false] rfl rfl (by kernel_rfl) (by decide) (fun K hK => ?_)
     refine gO Tryz.func90 #[.int .i64 t495, .int .i64 a0_0] ?_
     with_reducible refine (impl_FpSub.calls t495 a0_0 t496 _ A107.out).mono ?_
     rintro e w' ⟨rfl, ⟨nd, rfl⟩⟩
     refine ⟨_, rfl, ?_⟩
     refine hK.out _ _ (bS3 BK487 (bT3 BK485)) (fun hHeld => ?_)
     clear hK K
     refine nO (some 52) ?_
     refine pJ 6 (some 10) ?_
     refine done_ (by kernel_rfl) ?_
     try go_wp2
     (try simp only [World.drewN_drewN]); (try (rw [drewN_self w121]; generalize hq_ : World.drewN w121 _ = w121; replace BK485 : Aside0 (w121.heap[gb485]? = some (.cells #[.int .i64 a0_0, .int .i64 a0_1, .bool a0_2] 28 (0, 0))) := ⟨by rw [← hq_]; exact (bP BK485)⟩; replace BK486 : Aside0 (w121.heap[gb486]? = some (.cells #[.int .i64 a1_0, .int .i64 a1_1, .bool a1_2] 28 (0, 0))) := ⟨by rw [← hq_]; exact (bP BK486)⟩; replace BK487 : Aside0 (w121.heap[gb487]? = some (.cells #[.int .i64 a2_0, .int .i64 a2_1, .bool a2_2] 28 (0, 0))) := ⟨by rw [← hq_]; exact (bP BK487)⟩; replace BK488 : Aside0 (w121.heap[gb488]? = some (.cells #[.int .i64 0, .int .i64 0] 75 (0, 0))) := ⟨by rw [← hq_]; exact (bP BK488)⟩; replace BK489 : Aside0 (w121.heap[gb489]? = some (.cells #[.int .i64 1, .int .i64 0] 75 (0, 0))) := ⟨by rw [← hq_]; exact (bP BK489)⟩; replace HB : Aside0 (Below w.heap.size w w121) := ⟨by rw [← hq_]; exact (bZ HB)⟩; clear hq_))
     replace BK485 := Aside0.mk (blk_drew BK485.out)
     replace BK486 := Aside0.mk (blk_drew BK486.out)
     replace BK487 := Aside0.mk (blk_drew BK487.out)
     replace BK488 := Aside0.mk (blk_drew BK488.out)
     replace BK489 := Aside0.mk (blk_drew BK489.out)
     replace HB := Aside0.mk (below_drew1 HB.out)
     refine start_ (n := 11) (S := fun w' => SP3 w' gb485 (.int .i64 a0_0) (.int .i64 a0_1) (.bool a0_2) (SQ3 w' gb487 (.int .i64 a2_0) (.int .i64 a2_1) (.bool a2_2))) (ds := []) #[false, false, false, false, false, false, false, false, false, false, false] (by kernel_rfl) rfl rfl (bS3 BK485 (bT3 BK487)) (fun hHeld => ?_); refine with_tabW impl_PairLine.tab8 impl_PairLine.bits8 (fun HT_ HW_ => ?_)
     generalize w121.drew = w122 at BK485 BK486 BK487 BK488 BK489 HB hHeld ⊢
     refine pI 0 (some 53) HT_.out ?_
     refine pI 3 (some 56) HT_.out ?_
     refine pI 4 (some 57) HT_.out ?_
     refine pI 7 (some 60) HT_.out ?_
     refine tI6 1 (some 54) HT_.out HW_.out hHeld ?_
     refine tI6 8 (some 61) HT_.out HW_.out hHeld ?_
     refine oI 2 (some 55) HT_.out (fun K hK => ?_)
     refine gO Tryz.func90 #[.int .i64 0, .int .i64 a0_1] ?_
     with_reducible refine (impl_FpSub.calls 0 a0_1 t497 _ A108.out).mono ?_
     rintro e w' ⟨rfl, ⟨nd, rfl⟩⟩
     refine ⟨_, rfl, ?_⟩
     refine hK.out _ _ (bS3 BK485 (bT3 BK487)) (fun hHeld => ?_)
     clear hK K
     refine nO (some 55) ?_
     refine oI 5 (some 58) HT_.out (fun K hK => ?_)
     refine gO Tryz.func88 #[.int .i64 t493, .int .i64 t496] ?_
     with_reducible refine (impl_FpMul.calls t493 t496 t498 _ A109.out).mono ?_
     rintro e w' ⟨rfl, ⟨nd, rfl⟩⟩
     refine ⟨_, rfl, ?_⟩
     refine hK.out _ _ (bS3 BK485 (bT3 BK487)) (fun hHeld => ?_)
     clear hK K
     refine nO (some 58) ?_
     refine oI 6 (some 59) HT_.out (fun K hK => ?_)
     refine gO Tryz.func90 #[.int .i64 t497, .int .i64 t498] ?_
     with_reducible refine (impl_FpSub.calls t497 t498 t499 _ A110.out).mono ?_
     rintro e w' ⟨rfl, ⟨nd, rfl⟩⟩
     refine ⟨_, rfl, ?_⟩
     refine hK.out _ _ (bS3 BK485 (bT3 BK487)) (fun hHeld => ?_)
     clear hK K
     refine nO (some 59) ?_
     refine pI 9 (some 62) HT_.out ?_
     refine oI 10 (none) HT_.out (fun K hK => ?_)
     have hs123 : w122.cell? ⟨gb488, 0, none⟩ = some (.int .i64 0) := bc BK488 0
     have hfs123 := blk_frozen BK488.out 0
     have hns123_0 := NB485_488.out
     have hns123_1 := NB486_488.out
     have hns123_2 := NB487_488.out
     have hns123_4 := NB489_488.out
     have hms123_0 := NB488_485.out
     have hms123_1 := NB488_486.out
     have hms123_2 := NB488_487.out
     have hms123_4 := NB488_489.out
     have hs124 : w122.cell? ⟨gb488, 1, none⟩ = some (.int .i64 0) := bc BK488 1
     have hfs124 := blk_frozen BK488.out 1
     have hns124_0 := NB485_488.out
     have hns124_1 := NB486_488.out
     have hns124_2 := NB487_488.out
     have hns124_4 := NB489_488.out
     have hms124_0 := NB488_485.out
     have hms124_1 := NB488_486.out
     have hms124_2 := NB488_487.out
     have hms124_4 := NB488_489.out
     refine skip_ (w1 := ?_) (by rfl) rfl ?_ ?_
     rotate_left
     ·go_simp
      rfl
     refine hK.out _ _ ⟨((cell_far (p := ⟨gb488, _, none⟩) NB485_488.out _).trans (((cell_far (p := ⟨gb488, _, none⟩) NB485_488.out _).trans (hHeld.1)))), ((cell_far (p := ⟨gb488, _, none⟩) NB485_488.out _).trans (((cell_far (p := ⟨gb488, _, none⟩) NB485_488.out _).trans (hHeld.2.1)))), ((cell_far (p := ⟨gb488, _, none⟩) NB485_488.out _).trans (((cell_far (p := ⟨gb488, _, none⟩) NB485_488.out _).trans (hHeld.2.2.1)))), ((cell_far (p := ⟨gb488, _, none⟩) NB487_488.out _).trans (((cell_far (p := ⟨gb488, _, none⟩) NB487_488.out _).trans (hHeld.2.2.2.1)))), ((cell_far (p := ⟨gb488, _, none⟩) NB487_488.out _).trans (((cell_far (p := ⟨gb488, _, none⟩) NB487_488.out _).trans (hHeld.2.2.2.2.1)))), ((cell_far (p := ⟨gb488, _, none⟩) NB487_488.out _).trans (((cell_far (p := ⟨gb488, _, none⟩) NB487_488.out _).trans (hHeld.2.2.2.2.2))))⟩ (fun hHeld => ?_)
     clear hK K
     refine done_ (done_of HT_.out (by kernel_rfl)) ?_
     try go_wp2
     refine rC gb488 75 #[.int .i64 t499, .int .i64 a2_1] (bU BK488) Tryz.underlying75 ?_
     exact ⟨rR, bZ HB⟩
    ·replace c105 := Bool.eq_false_iff.mpr c105
     subst c105
     rw [if_neg (show ¬ (false = true) by decide)] at H
     simp only [Option.some.injEq, Prod.mk.injEq] at H
     obtain ⟨rfl, rfl⟩ := H
     obtain ⟨hnb125, hnc125⟩ := nB NB485_486
     obtain ⟨hnb126, hnc126⟩ := nB NB485_487
     obtain ⟨hnb127, hnc127⟩ := nB NB485_488
     obtain ⟨hnb128, hnc128⟩ := nB NB485_489
     obtain ⟨hcz129_0, hcz129_1, hcz129_2, hfz129_0, hfz129_1, hfz129_2⟩ := bK3 (w := wc) BK485
     obtain ⟨hnb130, hnc130⟩ := nB NB486_487
     obtain ⟨hnb131, hnc131⟩ := nB NB486_488
     obtain ⟨hnb132, hnc132⟩ := nB NB486_489
     obtain ⟨hcz133_0, hcz133_1, hcz133_2, hfz133_0, hfz133_1, hfz133_2⟩ := bK3 (w := wc) BK486
     go_wp2_with (first | (refine gC (some 41) Tryz.func89 #[.agg #[.int .i64 a0_0, .int .i64 a0_1, .bool a0_2], .agg #[.int .i64 a1_0, .int .i64 a1_1, .bool a1_2]] ?_; (with_reducible refine (impl_slopeOf.calls kj3 a0_0 a0_1 a0_2 a1_0 a1_1 a1_2 t493 false _ A104.out).mono ?_); rintro e w134 ⟨rfl, hb⟩; refine ⟨_, rfl, ?_⟩; replace BK485 := bB BK485 hb; replace BK486 := bB BK486 hb; replace BK487 := bB BK487 hb; replace BK488 := bB BK488 hb; replace BK489 := bB BK489 hb; replace HB := bS HB hb; (try clear hb); obtain ⟨hnb135, hnc135⟩ := nB NB489_487; obtain ⟨hnb136, hnc136⟩ := nB NB489_488; obtain ⟨hcz137_0, hcz137_1, hfz137_0, hfz137_1⟩ := bK2 (w := w134) BK489; obtain ⟨hnb138, hnc138⟩ := nB NB488_487; obtain ⟨hcz139_0, hcz139_1, hfz139_0, hfz139_1⟩ := bK2 (w := w134) BK488))
     refine rC gb488 75 #[.int .i64 1, .int .i64 0] (bU BK488) Tryz.underlying75 ?_
     exact ⟨rR, bZ HB⟩
def impl_Miller.l0 : Nat → Int → Int → Int → Bool → Int → Int → Bool → Int → Int → Int → Int → Bool → Option (Int × Int)
 | 0, _, _, _, _, _, _, _, _, _, _, _, _ => none
 | k + 1, x7, x501000, x501001, x501002, x502000, x502001, x502002, x504000, x504001, x505000, x505001, x505002 => if x7 ≥ 0 then ((impl_TwoMul.f x504000 x504001 x504000 x504001).bind fun bt506 => ((impl_PairLine.f k x505000 x505001 x505002 x505000 x505001 x505002 x502000 x502001 x502002).bind fun bt508 => ((impl_TwoMul.f bt506.1 bt506.2 bt508.1 bt508.2).bind fun bt510 => ((impl_PointAdd.f k x505000 x505001 x505002 x505000 x505001 x505002).bind fun bt512 => (if 0 ≤ (IntKind.u64.wrap (x7)) then (if (Go.bits .and .i64 (shr .i64 1009 (IntKind.u64.wrap (x7))) 1) = 1 then ((impl_PairLine.f k bt512.1 bt512.2.1 bt512.2.2 x501000 x501001 x501002 x502000 x502001 x502002).bind fun bt515 => ((impl_TwoMul.f bt510.1 bt510.2 bt515.1 bt515.2).bind fun bt517 => ((impl_PointAdd.f k bt512.1 bt512.2.1 bt512.2.2 x501000 x501001 x501002).bind fun bt519 => (impl_Miller.l0 k (wrap64 (x7 - 1)) x501000 x501001 x501002 x502000 x502001 x502002 bt517.1 bt517.2 bt519.1 bt519.2.1 bt519.2.2)))) else (impl_Miller.l0 k (wrap64 (x7 - 1)) x501000 x501001 x501002 x502000 x502001 x502002 bt510.1 bt510.2 bt512.1 bt512.2.1 bt512.2.2)) else (none)))))) else (some (x504000, x504001))
def impl_Miller.f (k : Nat) (a0_0 : Int) (a0_1 : Int) (a0_2 : Bool) (a1_0 : Int) (a1_1 : Int) (a1_2 : Bool) : Option (Int × Int) := (bits_Len.f k 1009).bind fun t505 => (impl_Miller.l0 k (wrap64 (t505 - 2)) a0_0 a0_1 a0_2 a1_0 a1_1 a1_2 1 0 a0_0 a0_1 a0_2)
def impl_Miller.T6 : Bool × List (List Nat × List Nat) := (true, [([], []), ([], []), ([0, 1], [0, 1]), ([], []), ([], []), ([], []), ([3, 4, 5, 2], [3, 4, 5]), ([2, 6, 6], [2, 6]), ([7, 7, 0, 1, 2, 3, 4, 5, 6, 7], [7])])
def impl_Miller.B6 : List Nat := [0, 0, 3, 0, 0, 0, 63, 127, 255]
theorem impl_Miller.tab6 : rtab .any (opsOf Tryz.f102 6) = impl_Miller.T6 := by kernel_rfl
theorem impl_Miller.bits6 : waitsOk impl_Miller.T6.2 impl_Miller.B6 = true := by kernel_rfl
set_option maxHeartbeats 8000000 in
set_option maxRecDepth 100000 in
theorem impl_Miller.calls (k : Nat) (a0_0 : Int) (a0_1 : Int) (a0_2 : Bool) (a1_0 : Int) (a1_1 : Int) (a1_2 : Bool) (r1 : Int) (r2 : Int) (w : World) (h : impl_Miller.f k a0_0 a0_1 a0_2 a1_0 a1_1 a1_2 = some (r1, r2)) :
  Calls Tryz.prog 102 #[.agg #[.int .i64 a0_0, .int .i64 a0_1, .bool a0_2], .agg #[.int .i64 a1_0, .int .i64 a1_1, .bool a1_2]] w fun e w' => e = .returned (.agg #[.int .i64 r1, .int .i64 r2]) ∧ Below w.heap.size w w' := by
 have hu28 := Tryz.underlying28
 have hu75 := Tryz.underlying75
 have HB := Aside0.mk (Below.refl w.heap.size w)
 have H : ((bits_Len.f k 1009).bind fun t505 => (impl_Miller.l0 k (wrap64 (t505 - 2)) a0_0 a0_1 a0_2 a1_0 a1_1 a1_2 1 0 a0_0 a0_1 a0_2)) = some (r1, r2) := h
 clear h
 replace H := Option.bind_eq_some_iff.mp H
 obtain ⟨t505, A30, H⟩ := H
 have A3 := Aside0.mk A30
 clear A30
 have H' := Aside0.mk H
 clear H
 go_enter Tryz.func102, Tryz.ntmps102
 go_wp2_with (first | (refine gB 2 #[.int .i64 a0_0, .int .i64 a0_1, .bool a0_2] 28 ?_; intro gb500 hg w4 BK500 hb; have GW500 := bG HB hg; replace HB := bS HB hb; clear hb hg) | (refine gB 3 #[.int .i64 a1_0, .int .i64 a1_1, .bool a1_2] 28 ?_; intro gb501 hg w5 BK501 hb; have GW501 := bG HB hg; replace HB := bS HB hb; obtain ⟨NB500_501, NB501_500⟩ := bN BK500 hg; replace BK500 := bB BK500 hb; clear hb hg) | (refine gB 4 #[.int .i64 0, .int .i64 0] 75 ?_; intro gb502 hg w6 BK502 hb; have GW502 := bG HB hg; replace HB := bS HB hb; obtain ⟨NB500_502, NB502_500⟩ := bN BK500 hg; replace BK500 := bB BK500 hb; obtain ⟨NB501_502, NB502_501⟩ := bN BK501 hg; replace BK501 := bB BK501 hb; clear hb hg) | (refine gB 5 #[.int .i64 0, .int .i64 0] 75 ?_; intro gb503 hg w7 BK503 hb; have GW503 := bG HB hg; replace HB := bS HB hb; obtain ⟨NB500_503, NB503_500⟩ := bN BK500 hg; replace BK500 := bB BK500 hb; obtain ⟨NB501_503, NB503_501⟩ := bN BK501 hg; replace BK501 := bB BK501 hb; obtain ⟨NB502_503, NB503_502⟩ := bN BK502 hg; replace BK502 := bB BK502 hb; clear hb hg; obtain ⟨hnb8, hnc8⟩ := nB NB503_500; obtain ⟨hnb9, hnc9⟩ := nB NB503_501; obtain ⟨hnb10, hnc10⟩ := nB NB503_502; obtain ⟨hcz11_0, hcz11_1, hfz11_0, hfz11_1⟩ := bK2 (w := w7) BK503; obtain ⟨hnb12, hnc12⟩ := nB NB500_501; obtain ⟨hnb13, hnc13⟩ := nB NB500_502; obtain ⟨hcz14_0, hcz14_1, hcz14_2, hfz14_0, hfz14_1, hfz14_2⟩ := bK3 (w := w7) BK500) | (refine gB 6 #[.int .i64 0, .int .i64 0, .bool false] 28 ?_; intro gb504 hg w15 BK504 hb; have GW504 := bG HB hg; replace HB := bS HB hb; obtain ⟨NB500_504, NB504_500⟩ := bN BK500 hg; replace BK500 := bB BK500 hb; obtain ⟨NB501_504, NB504_501⟩ := bN BK501 hg; replace BK501 := bB BK501 hb; obtain ⟨NB502_504, NB504_502⟩ := bN BK502 hg; replace BK502 := bB BK502 hb; have NB503_504 := Aside0.mk ((by rw [hg]; exact Nat.ne_of_lt (blk_lt (g := gb503) (o := .cells #[.int .i64 1, .int .i64 0] 75 (0, 0)) (bU BK503)) : gb503 ≠ gb504)); have NB504_503 := Aside0.mk ((by rw [hg]; exact Nat.ne_of_gt (blk_lt (g := gb503) (o := .cells #[.int .i64 1, .int .i64 0] 75 (0, 0)) (bU BK503)) : gb504 ≠ gb503)); replace BK503 := bV 75 #[.int .i64 1, .int .i64 0] BK503 hb; clear hb hg; obtain ⟨hnb16, hnc16⟩ := nB NB504_500; obtain ⟨hnb17, hnc17⟩ := nB NB504_501; obtain ⟨hnb18, hnc18⟩ := nB NB504_502; obtain ⟨hnb19, hnc19⟩ := nB NB504_503; obtain ⟨hcz20_0, hcz20_1, hcz20_2, hfz20_0, hfz20_1, hfz20_2⟩ := bK3 (w := w15) BK504) | (refine gC (some 10) Tryz.func135 #[.int .u64 1009] ?_; (with_reducible refine (bits_Len.calls k 1009 t505 _ A3.out).mono ?_); rintro e w' ⟨rfl, ⟨nd, rfl⟩⟩; refine ⟨_, rfl, ?_⟩))
 go_loopg [7] k (fun kq v7 w' => ∃ (x7_1 : Int) (x504000_1 : Int) (x504001_1 : Int) (x505000_1 : Int) (x505001_1 : Int) (x505002_1 : Bool), v7 = .int .i64 x7_1 ∧ Aside0 (impl_Miller.l0 kq x7_1 a0_0 a0_1 a0_2 a1_0 a1_1 a1_2 x504000_1 x504001_1 x505000_1 x505001_1 x505002_1 = some (r1, r2)) ∧ Aside0 (kq ≤ k) ∧ Aside0 (w'.heap[gb500]? = some (.cells #[.int .i64 a0_0, .int .i64 a0_1, .bool a0_2] 28 (0, 0))) ∧ Aside0 (w'.heap[gb501]? = some (.cells #[.int .i64 a1_0, .int .i64 a1_1, .bool a1_2] 28 (0, 0))) ∧ Aside0 (w'.heap[gb502]? = some (.cells #[.int .i64 0, .int .i64 0] 75 (0, 0))) ∧ Aside0 (w'.heap[gb503]? = some (.cells #[.int .i64 x504000_1, .int .i64 x504001_1] 75 (0, 0))) ∧ Aside0 (w'.heap[gb504]? = some (.cells #[.int .i64 x505000_1, .int .i64 x505001_1, .bool x505002_1] 28 (0, 0))) ∧ Aside0 (Below w.heap.size w w'))
 case atStart => exact ⟨(wrap64 (t505 - 2)), (1), (0), (a0_0), (a0_1), (a0_2), rS, H', ⟨Nat.le_refl _⟩, ⟨bP BK500⟩, ⟨bP BK501⟩, ⟨bP BK502⟩, ⟨bP BK503⟩, ⟨bU BK504⟩, ⟨bZ HB⟩⟩
 case round =>
  clear H'
  try clear c1
  try clear p2
  try clear p6
  try clear c8
  try clear c9
  try clear c10
  try clear c12
  try clear c13
  try clear c16
  try clear c17
  try clear c18
  try clear c19
  try clear hcz11_0
  try clear hcz11_1
  try clear hcz14_0
  try clear hcz14_1
  try clear hcz14_2
  try clear hcz20_0
  try clear hcz20_1
  try clear hcz20_2
  try clear hfz11_0
  try clear hfz11_1
  try clear hfz14_0
  try clear hfz14_1
  try clear hfz14_2
  try clear hfz20_0
  try clear hfz20_1
  try clear hfz20_2
  obtain ⟨x7_1, x504000_1, x504001_1, x505000_1, x505001_1, x505002_1, rfl, HA, HK1, BK500, BK501, BK502, BK503, BK504, HB⟩ := hrel
  cases gk with
  | zero => exact absurd HA.out (by simp [impl_Miller.l0])
  | succ k1 =>
   have H := HA.out
   clear HA
   simp only [impl_Miller.l0] at H
   by_cases c21 : x7_1 ≥ 0
   ·rw [if_pos c21] at H
    have c21b0 := decide_eq_true c21
    clear c21
    replace H := Option.bind_eq_some_iff.mp H
    obtain ⟨⟨t506, t507⟩, A220, H⟩ := H
    have A22 := Aside0.mk A220
    clear A220
    replace H := Option.bind_eq_some_iff.mp H
    obtain ⟨⟨t508, t509⟩, A230, H⟩ := H
    have A23 := Aside0.mk A230
    clear A230
    replace H := Option.bind_eq_some_iff.mp H
    obtain ⟨⟨t510, t511⟩, A240, H⟩ := H
    have A24 := Aside0.mk A240
    clear A240
    replace H := Option.bind_eq_some_iff.mp H
    obtain ⟨⟨t512, t513, t514⟩, A250, H⟩ := H
    have A25 := Aside0.mk A250
    clear A250
    obtain ⟨ji26, hji26⟩ : ∃ j_ : Int, (IntKind.u64.wrap (x7_1)) = j_ := ⟨_, rfl⟩
    replace H : (if 0 ≤ (ji26) then (if (Go.bits .and .i64 (shr .i64 1009 (ji26)) 1) = 1 then ((impl_PairLine.f k1 t512 t513 t514 a0_0 a0_1 a0_2 a1_0 a1_1 a1_2).bind fun bt515 => ((impl_TwoMul.f t510 t511 bt515.1 bt515.2).bind fun bt517 => ((impl_PointAdd.f k1 t512 t513 t514 a0_0 a0_1 a0_2).bind fun bt519 => (impl_Miller.l0 k1 (wrap64 (x7_1 - 1)) a0_0 a0_1 a0_2 a1_0 a1_1 a1_2 bt517.1 bt517.2 bt519.1 bt519.2.1 bt519.2.2)))) else (impl_Miller.l0 k1 (wrap64 (x7_1 - 1)) a0_0 a0_1 a0_2 a1_0 a1_1 a1_2 t510 t511 t512 t513 t514)) else (none)) = some (r1, r2) := by first | (rw [hji26] at H; exact H) | (simp only [hji26] at H ⊢; exact H)
    (try rw [hji26] at A22)
    (try rw [hji26] at A23)
    (try rw [hji26] at A24)
    (try rw [hji26] at A25)
    by_cases c27 : 0 ≤ (ji26)
    ·rw [if_pos c27] at H
     have c27b0 := eq_true c27
     have c27b1 := decide_eq_true c27
     clear c27
     obtain ⟨ji28, hji28⟩ : ∃ j_ : Int, (shr .i64 1009 (ji26)) = j_ := ⟨_, rfl⟩
     replace H : (if (Go.bits .and .i64 (ji28) 1) = 1 then ((impl_PairLine.f k1 t512 t513 t514 a0_0 a0_1 a0_2 a1_0 a1_1 a1_2).bind fun bt515 => ((impl_TwoMul.f t510 t511 bt515.1 bt515.2).bind fun bt517 => ((impl_PointAdd.f k1 t512 t513 t514 a0_0 a0_1 a0_2).bind fun bt519 => (impl_Miller.l0 k1 (wrap64 (x7_1 - 1)) a0_0 a0_1 a0_2 a1_0 a1_1 a1_2 bt517.1 bt517.2 bt519.1 bt519.2.1 bt519.2.2)))) else (impl_Miller.l0 k1 (wrap64 (x7_1 - 1)) a0_0 a0_1 a0_2 a1_0 a1_1 a1_2 t510 t511 t512 t513 t514)) = some (r1, r2) := by first | (rw [hji28] at H; exact H) | (simp only [hji28] at H ⊢; exact H)
     (try rw [hji28] at A22)
     (try rw [hji28] at A23)
     (try rw [hji28] at A24)
     (try rw [hji28] at A25)
     have hji28_ : (1009 / 2 ^ min (ji26).toNat 64) = ji28 := hji28
     have hji28z : (ji26) ≤ 64 → (1009 / 2 ^ (ji26).toNat) = ji28 := shr_small hji28
     have hji28t : ∀ m_ : Int, Int.tmod ji28 m_ = ji28 % m_ := fun m_ => Int.tmod_eq_emod_of_nonneg (by rw [← hji28_]; exact Int.ediv_nonneg (by decide) (Int.le_of_lt (Int.pow_pos (by decide))))
     by_cases c29 : (Go.bits .and .i64 (ji28) 1) = 1
     ·rw [if_pos c29] at H
      have c29b0 : ((Go.bits .and .i64 (ji28) 1) == 1) = true := beq_iff_eq.mpr c29
      have c29b1 : ((Go.bits .and .i64 (ji28) 1) != 1) = false := bne_eq_false_iff_eq.mpr c29
      clear c29
      replace H := Option.bind_eq_some_iff.mp H
      obtain ⟨⟨t515, t516⟩, A300, H⟩ := H
      have A30 := Aside0.mk A300
      clear A300
      replace H := Option.bind_eq_some_iff.mp H
      obtain ⟨⟨t517, t518⟩, A310, H⟩ := H
      have A31 := Aside0.mk A310
      clear A310
      replace H := Option.bind_eq_some_iff.mp H
      obtain ⟨⟨t519, t520, t521⟩, A320, H⟩ := H
      have A32 := Aside0.mk A320
      clear A320
      have H' := Aside0.mk H
      clear H
      try go_wp2
      replace BK500 := Aside0.mk (blk_drew BK500.out)
      replace BK501 := Aside0.mk (blk_drew BK501.out)
      replace BK502 := Aside0.mk (blk_drew BK502.out)
      replace BK503 := Aside0.mk (blk_drew BK503.out)
      replace BK504 := Aside0.mk (blk_drew BK504.out)
      replace HB := Aside0.mk (below_drew1 HB.out)
      refine start_ (n := 9) (S := fun w' => SP2 w' gb503 (.int .i64 x504000_1) (.int .i64 x504001_1) (SP3 w' gb504 (.int .i64 x505000_1) (.int .i64 x505001_1) (.bool x505002_1) (SQ3 w' gb501 (.int .i64 a1_0) (.int .i64 a1_1) (.bool a1_2)))) (ds := [8]) #[false, false, false, false, false, false, false, false, false] (by kernel_rfl) rfl rfl (bS2 BK503 (bS3 BK504 (bT3 BK501))) (fun hHeld => ?_); refine with_tabW impl_Miller.tab6 impl_Miller.bits6 (fun HT_ HW_ => ?_)
      generalize wr.drew = w33 at BK500 BK501 BK502 BK503 BK504 HB hHeld ⊢
      refine tI8 0 (some 16) HT_.out HW_.out hHeld ?_
      refine tI8 1 (some 17) HT_.out HW_.out hHeld ?_
      refine tI8 3 (some 19) HT_.out HW_.out hHeld ?_
      refine tI8 4 (some 20) HT_.out HW_.out hHeld ?_
      refine tI8 5 (some 21) HT_.out HW_.out hHeld ?_
      refine oI 2 (some 18) HT_.out (fun K hK => ?_)
      refine gO Tryz.func104 #[.agg #[.int .i64 x504000_1, .int .i64 x504001_1], .agg #[.int .i64 x504000_1, .int .i64 x504001_1]] ?_
      with_reducible refine (impl_TwoMul.calls x504000_1 x504001_1 x504000_1 x504001_1 t506 t507 _ A22.out).mono ?_
      rintro e w34 ⟨rfl, hb⟩
      refine ⟨_, rfl, ?_⟩
      replace BK500 := bB BK500 hb
      replace BK501 := bB BK501 hb
      replace BK502 := bB BK502 hb
      replace BK503 := bB BK503 hb
      replace BK504 := bB BK504 hb
      replace HB := bS HB hb
      (try clear hb)
      refine hK.out _ _ (bS2 BK503 (bS3 BK504 (bT3 BK501))) (fun hHeld => ?_)
      clear hK K
      refine nO (some 18) ?_
      refine oI 6 (some 22) HT_.out (fun K hK => ?_)
      refine gO Tryz.func136 #[.agg #[.int .i64 x505000_1, .int .i64 x505001_1, .bool x505002_1], .agg #[.int .i64 x505000_1, .int .i64 x505001_1, .bool x505002_1], .agg #[.int .i64 a1_0, .int .i64 a1_1, .bool a1_2]] ?_
      with_reducible refine (impl_PairLine.calls k1 x505000_1 x505001_1 x505002_1 x505000_1 x505001_1 x505002_1 a1_0 a1_1 a1_2 t508 t509 _ A23.out).mono ?_
      rintro e w35 ⟨rfl, hb⟩
      refine ⟨_, rfl, ?_⟩
      replace BK500 := bB BK500 hb
      replace BK501 := bB BK501 hb
      replace BK502 := bB BK502 hb
      replace BK503 := bB BK503 hb
      replace BK504 := bB BK504 hb
      replace HB := bS HB hb
      (try clear hb)
      refine hK.out _ _ (bS2 BK503 (bS3 BK504 (bT3 BK501))) (fun hHeld => ?_)
      clear hK K
      refine nO (some 22) ?_
      refine oI 7 (some 23) HT_.out (fun K hK => ?_)
      refine gO Tryz.func104 #[.agg #[.int .i64 t506, .int .i64 t507], .agg #[.int .i64 t508, .int .i64 t509]] ?_
      with_reducible refine (impl_TwoMul.calls t506 t507 t508 t509 t510 t511 _ A24.out).mono ?_
      rintro e w36 ⟨rfl, hb⟩
      refine ⟨_, rfl, ?_⟩
      replace BK500 := bB BK500 hb
      replace BK501 := bB BK501 hb
      replace BK502 := bB BK502 hb
      replace BK503 := bB BK503 hb
      replace BK504 := bB BK504 hb
      replace HB := bS HB hb
      (try clear hb)
      refine hK.out _ _ (bS2 BK503 (bS3 BK504 (bT3 BK501))) (fun hHeld => ?_)
      clear hK K
      refine nO (some 23) ?_
      refine last_ (i := 8) (N := none) #[true, true, true, true, true, true, true, true, true] rfl rfl (one_of HT_.out (by kernel_rfl)) (by decide) (fun K hK => ?_)
      have hs37 : w36.cell? ⟨gb503, 0, none⟩ = some (.int .i64 x504000_1) := bc BK503 0
      have hfs37 := blk_frozen BK503.out 0
      have hns37_0 := NB500_503.out
      have hns37_1 := NB501_503.out
      have hns37_2 := NB502_503.out
      have hns37_4 := NB504_503.out
      have hms37_0 := NB503_500.out
      have hms37_1 := NB503_501.out
      have hms37_2 := NB503_502.out
      have hms37_4 := NB503_504.out
      have hs38 : w36.cell? ⟨gb503, 1, none⟩ = some (.int .i64 x504001_1) := bc BK503 1
      have hfs38 := blk_frozen BK503.out 1
      have hns38_0 := NB500_503.out
      have hns38_1 := NB501_503.out
      have hns38_2 := NB502_503.out
      have hns38_4 := NB504_503.out
      have hms38_0 := NB503_500.out
      have hms38_1 := NB503_501.out
      have hms38_2 := NB503_502.out
      have hms38_4 := NB503_504.out
      refine skip_ (w1 := ?_) (by rfl) rfl ?_ ?_
      rotate_left
      ·go_simp
       rfl
      refine hK.out _ _ ?_
      clear hK K
      refine done_ (done_of HT_.out (by kernel_rfl)) ?_
      obtain ⟨hnb39, hnc39⟩ := nB NB504_500
      obtain ⟨hnb40, hnc40⟩ := nB NB504_501
      obtain ⟨hnb41, hnc41⟩ := nB NB504_502
      obtain ⟨hnb42, hnc42⟩ := nB NB504_503
      obtain ⟨hcz43_0, hcz43_1, hcz43_2, hfz43_0, hfz43_1, hfz43_2⟩ := bK3 (w := w36) BK504
      try go_wp2_with (first | (refine gC (some 26) Tryz.func9 #[.agg #[.int .i64 x505000_1, .int .i64 x505001_1, .bool x505002_1], .agg #[.int .i64 x505000_1, .int .i64 x505001_1, .bool x505002_1]] ?_; (with_reducible refine (impl_PointAdd.calls k1 x505000_1 x505001_1 x505002_1 x505000_1 x505001_1 x505002_1 t512 t513 t514 _ A25.out).mono ?_); rintro e w44 ⟨rfl, hb⟩; refine ⟨_, rfl, ?_⟩; replace BK500 := bB BK500 hb; replace BK501 := bB BK501 hb; replace BK502 := bB BK502 hb; replace BK503 := bV 75 #[.int .i64 t510, .int .i64 t511] BK503 hb; replace BK504 := bB BK504 hb; replace HB := bS HB hb; (try clear hb); obtain ⟨hcz45_0, hcz45_1, hcz45_2, hfz45_0, hfz45_1, hfz45_2⟩ := bK3 (w := w44) BK504))
      obtain ⟨w46, hW_⟩ : ∃ W_ : World, W_ = (((w44.setCell ⟨gb504, 0, none⟩ (.int .i64 t512)).setCell ⟨gb504, 1, none⟩ (.int .i64 t513)).setCell ⟨gb504, 2, none⟩ (.bool t514)) := ⟨_, rfl⟩
      replace BK500 := bW hW_ BK500
      replace BK501 := bW hW_ BK501
      replace BK502 := bW hW_ BK502
      replace BK503 := bW hW_ BK503
      replace BK504 := bX hW_ 28 #[.int .i64 t512, .int .i64 t513, .bool t514] BK504
      replace HB := zW hW_ HB
      rw [← hW_]
      clear hW_
      replace BK500 := Aside0.mk (blk_drew BK500.out)
      replace BK501 := Aside0.mk (blk_drew BK501.out)
      replace BK502 := Aside0.mk (blk_drew BK502.out)
      replace BK503 := Aside0.mk (blk_drew BK503.out)
      replace BK504 := Aside0.mk (blk_drew BK504.out)
      replace HB := Aside0.mk (below_drew1 HB.out)
      refine start_ (n := 7) (S := fun w' => SP2 w' gb503 (.int .i64 t510) (.int .i64 t511) (SP3 w' gb504 (.int .i64 t512) (.int .i64 t513) (.bool t514) (SP3 w' gb500 (.int .i64 a0_0) (.int .i64 a0_1) (.bool a0_2) (SQ3 w' gb501 (.int .i64 a1_0) (.int .i64 a1_1) (.bool a1_2))))) (ds := [6]) #[false, false, false, false, false, false, false] (by kernel_rfl) rfl rfl (bS2 BK503 (bS3 BK504 (bS3 BK500 (bT3 BK501)))) (fun hHeld => ?_)
      generalize w46.drew = w47 at BK500 BK501 BK502 BK503 BK504 HB hHeld ⊢
      refine tJ 0 (some 32) hHeld ?_
      refine tJ 1 (some 33) hHeld ?_
      refine tJ 2 (some 34) hHeld ?_
      refine tJ 3 (some 35) hHeld ?_
      refine one_ (i := 4) (N := some 36) #[true, true, true, true, true, false, false] rfl rfl (by kernel_rfl) (by decide) (fun K hK => ?_)
      refine gO Tryz.func136 #[.agg #[.int .i64 t512, .int .i64 t513, .bool t514], .agg #[.int .i64 a0_0, .int .i64 a0_1, .bool a0_2], .agg #[.int .i64 a1_0, .int .i64 a1_1, .bool a1_2]] ?_
      with_reducible refine (impl_PairLine.calls k1 t512 t513 t514 a0_0 a0_1 a0_2 a1_0 a1_1 a1_2 t515 t516 _ A30.out).mono ?_
      rintro e w48 ⟨rfl, hb⟩
      refine ⟨_, rfl, ?_⟩
      replace BK500 := bB BK500 hb
      replace BK501 := bB BK501 hb
      replace BK502 := bB BK502 hb
      replace BK503 := bB BK503 hb
      replace BK504 := bB BK504 hb
      replace HB := bS HB hb
      (try clear hb)
      refine hK.out _ _ (bS2 BK503 (bS3 BK504 (bS3 BK500 (bT3 BK501)))) (fun hHeld => ?_)
      clear hK K
      refine nO (some 36) ?_
      refine one_ (i := 5) (N := some 37) #[true, true, true, true, true, true, false] rfl rfl (by kernel_rfl) (by decide) (fun K hK => ?_)
      refine gO Tryz.func104 #[.agg #[.int .i64 t510, .int .i64 t511], .agg #[.int .i64 t515, .int .i64 t516]] ?_
      with_reducible refine (impl_TwoMul.calls t510 t511 t515 t516 t517 t518 _ A31.out).mono ?_
      rintro e w49 ⟨rfl, hb⟩
      refine ⟨_, rfl, ?_⟩
      replace BK500 := bB BK500 hb
      replace BK501 := bB BK501 hb
      replace BK502 := bB BK502 hb
      replace BK503 := bB BK503 hb
      replace BK504 := bB BK504 hb
      replace HB := bS HB hb
      (try clear hb)
      refine hK.out _ _ (bS2 BK503 (bS3 BK504 (bS3 BK500 (bT3 BK501)))) (fun hHeld => ?_)
      clear hK K
      refine nO (some 37) ?_
      refine last_ (i := 6) (N := none) #[true, true, true, true, true, true, true] rfl rfl (by kernel_rfl) (by decide) (fun K hK => ?_)
      have hs50 : w49.cell? ⟨gb503, 0, none⟩ = some (.int .i64 t510) := bc BK503 0
      have hfs50 := blk_frozen BK503.out 0
      have hns50_0 := NB500_503.out
      have hns50_1 := NB501_503.out
      have hns50_2 := NB502_503.out
      have hns50_4 := NB504_503.out
      have hms50_0 := NB503_500.out
      have hms50_1 := NB503_501.out
      have hms50_2 := NB503_502.out
      have hms50_4 := NB503_504.out
      have hs51 : w49.cell? ⟨gb503, 1, none⟩ = some (.int .i64 t511) := bc BK503 1
      have hfs51 := blk_frozen BK503.out 1
      have hns51_0 := NB500_503.out
      have hns51_1 := NB501_503.out
      have hns51_2 := NB502_503.out
      have hns51_4 := NB504_503.out
      have hms51_0 := NB503_500.out
      have hms51_1 := NB503_501.out
      have hms51_2 := NB503_502.out
      have hms51_4 := NB503_504.out
      refine skip_ (w1 := ?_) (by rfl) rfl ?_ ?_
      rotate_left
      ·go_simp
       rfl
      refine hK.out _ _ ?_
      clear hK K
      refine done_ (by kernel_rfl) ?_
      obtain ⟨hcz52_0, hcz52_1, hcz52_2, hfz52_0, hfz52_1, hfz52_2⟩ := bK3 (w := w49) BK504
      obtain ⟨hnb53, hnc53⟩ := nB NB500_501
      obtain ⟨hnb54, hnc54⟩ := nB NB500_502
      obtain ⟨hnb55, hnc55⟩ := nB NB500_503
      obtain ⟨hcz56_0, hcz56_1, hcz56_2, hfz56_0, hfz56_1, hfz56_2⟩ := bK3 (w := w49) BK500
      try go_wp2_with (first | (refine gC (some 40) Tryz.func9 #[.agg #[.int .i64 t512, .int .i64 t513, .bool t514], .agg #[.int .i64 a0_0, .int .i64 a0_1, .bool a0_2]] ?_; (with_reducible refine (impl_PointAdd.calls k1 t512 t513 t514 a0_0 a0_1 a0_2 t519 t520 t521 _ A32.out).mono ?_); rintro e w57 ⟨rfl, hb⟩; refine ⟨_, rfl, ?_⟩; replace BK500 := bB BK500 hb; replace BK501 := bB BK501 hb; replace BK502 := bB BK502 hb; replace BK503 := bV 75 #[.int .i64 t517, .int .i64 t518] BK503 hb; replace BK504 := bB BK504 hb; replace HB := bS HB hb; (try clear hb); obtain ⟨hcz58_0, hcz58_1, hcz58_2, hfz58_0, hfz58_1, hfz58_2⟩ := bK3 (w := w57) BK504))
      go_roundg k1
      case measure => have := HK1.out; omega
      case rel => exact ⟨(wrap64 (x7_1 - 1)), (t517), (t518), (t519), (t520), (t521), rS, H', ⟨by have := HK1.out; omega⟩, ⟨bP BK500⟩, ⟨bP BK501⟩, ⟨bP BK502⟩, ⟨bP BK503⟩, ⟨bU BK504⟩, ⟨bZ HB⟩⟩
     ·rw [if_neg c29] at H
      have c29b0 : ((Go.bits .and .i64 (ji28) 1) == 1) = false := beq_eq_false_iff_ne.mpr c29
      have c29b1 : ((Go.bits .and .i64 (ji28) 1) != 1) = true := bne_iff_ne.mpr c29
      have H' := Aside0.mk H
      clear H
      try go_wp2
      replace BK500 := Aside0.mk (blk_drew BK500.out)
      replace BK501 := Aside0.mk (blk_drew BK501.out)
      replace BK502 := Aside0.mk (blk_drew BK502.out)
      replace BK503 := Aside0.mk (blk_drew BK503.out)
      replace BK504 := Aside0.mk (blk_drew BK504.out)
      replace HB := Aside0.mk (below_drew1 HB.out)
      refine start_ (n := 9) (S := fun w' => SP2 w' gb503 (.int .i64 x504000_1) (.int .i64 x504001_1) (SP3 w' gb504 (.int .i64 x505000_1) (.int .i64 x505001_1) (.bool x505002_1) (SQ3 w' gb501 (.int .i64 a1_0) (.int .i64 a1_1) (.bool a1_2)))) (ds := [8]) #[false, false, false, false, false, false, false, false, false] (by kernel_rfl) rfl rfl (bS2 BK503 (bS3 BK504 (bT3 BK501))) (fun hHeld => ?_); refine with_tabW impl_Miller.tab6 impl_Miller.bits6 (fun HT_ HW_ => ?_)
      generalize wr.drew = w59 at BK500 BK501 BK502 BK503 BK504 HB hHeld ⊢
      refine tI8 0 (some 16) HT_.out HW_.out hHeld ?_
      refine tI8 1 (some 17) HT_.out HW_.out hHeld ?_
      refine tI8 3 (some 19) HT_.out HW_.out hHeld ?_
      refine tI8 4 (some 20) HT_.out HW_.out hHeld ?_
      refine tI8 5 (some 21) HT_.out HW_.out hHeld ?_
      refine oI 2 (some 18) HT_.out (fun K hK => ?_)
      refine gO Tryz.func104 #[.agg #[.int .i64 x504000_1, .int .i64 x504001_1], .agg #[.int .i64 x504000_1, .int .i64 x504001_1]] ?_
      with_reducible refine (impl_TwoMul.calls x504000_1 x504001_1 x504000_1 x504001_1 t506 t507 _ A22.out).mono ?_
      rintro e w60 ⟨rfl, hb⟩
      refine ⟨_, rfl, ?_⟩
      replace BK500 := bB BK500 hb
      replace BK501 := bB BK501 hb
      replace BK502 := bB BK502 hb
      replace BK503 := bB BK503 hb
      replace BK504 := bB BK504 hb
      replace HB := bS HB hb
      (try clear hb)
      refine hK.out _ _ (bS2 BK503 (bS3 BK504 (bT3 BK501))) (fun hHeld => ?_)
      clear hK K
      refine nO (some 18) ?_
      refine oI 6 (some 22) HT_.out (fun K hK => ?_)
      refine gO Tryz.func136 #[.agg #[.int .i64 x505000_1, .int .i64 x505001_1, .bool x505002_1], .agg #[.int .i64 x505000_1, .int .i64 x505001_1, .bool x505002_1], .agg #[.int .i64 a1_0, .int .i64 a1_1, .bool a1_2]] ?_
      with_reducible refine (impl_PairLine.calls k1 x505000_1 x505001_1 x505002_1 x505000_1 x505001_1 x505002_1 a1_0 a1_1 a1_2 t508 t509 _ A23.out).mono ?_
      rintro e w61 ⟨rfl, hb⟩
      refine ⟨_, rfl, ?_⟩
      replace BK500 := bB BK500 hb
      replace BK501 := bB BK501 hb
      replace BK502 := bB BK502 hb
      replace BK503 := bB BK503 hb
      replace BK504 := bB BK504 hb
      replace HB := bS HB hb
      (try clear hb)
      refine hK.out _ _ (bS2 BK503 (bS3 BK504 (bT3 BK501))) (fun hHeld => ?_)
      clear hK K
      refine nO (some 22) ?_
      refine oI 7 (some 23) HT_.out (fun K hK => ?_)
      refine gO Tryz.func104 #[.agg #[.int .i64 t506, .int .i64 t507], .agg #[.int .i64 t508, .int .i64 t509]] ?_
      with_reducible refine (impl_TwoMul.calls t506 t507 t508 t509 t510 t511 _ A24.out).mono ?_
      rintro e w62 ⟨rfl, hb⟩
      refine ⟨_, rfl, ?_⟩
      replace BK500 := bB BK500 hb
      replace BK501 := bB BK501 hb
      replace BK502 := bB BK502 hb
      replace BK503 := bB BK503 hb
      replace BK504 := bB BK504 hb
      replace HB := bS HB hb
      (try clear hb)
      refine hK.out _ _ (bS2 BK503 (bS3 BK504 (bT3 BK501))) (fun hHeld => ?_)
      clear hK K
      refine nO (some 23) ?_
      refine last_ (i := 8) (N := none) #[true, true, true, true, true, true, true, true, true] rfl rfl (one_of HT_.out (by kernel_rfl)) (by decide) (fun K hK => ?_)
      have hs63 : w62.cell? ⟨gb503, 0, none⟩ = some (.int .i64 x504000_1) := bc BK503 0
      have hfs63 := blk_frozen BK503.out 0
      have hns63_0 := NB500_503.out
      have hns63_1 := NB501_503.out
      have hns63_2 := NB502_503.out
      have hns63_4 := NB504_503.out
      have hms63_0 := NB503_500.out
      have hms63_1 := NB503_501.out
      have hms63_2 := NB503_502.out
      have hms63_4 := NB503_504.out
      have hs64 : w62.cell? ⟨gb503, 1, none⟩ = some (.int .i64 x504001_1) := bc BK503 1
      have hfs64 := blk_frozen BK503.out 1
      have hns64_0 := NB500_503.out
      have hns64_1 := NB501_503.out
      have hns64_2 := NB502_503.out
      have hns64_4 := NB504_503.out
      have hms64_0 := NB503_500.out
      have hms64_1 := NB503_501.out
      have hms64_2 := NB503_502.out
      have hms64_4 := NB503_504.out
      refine skip_ (w1 := ?_) (by rfl) rfl ?_ ?_
      rotate_left
      ·go_simp
       rfl
      refine hK.out _ _ ?_
      clear hK K
      refine done_ (done_of HT_.out (by kernel_rfl)) ?_
      obtain ⟨hnb65, hnc65⟩ := nB NB504_500
      obtain ⟨hnb66, hnc66⟩ := nB NB504_501
      obtain ⟨hnb67, hnc67⟩ := nB NB504_502
      obtain ⟨hnb68, hnc68⟩ := nB NB504_503
      obtain ⟨hcz69_0, hcz69_1, hcz69_2, hfz69_0, hfz69_1, hfz69_2⟩ := bK3 (w := w62) BK504
      try go_wp2_with (first | (refine gC (some 26) Tryz.func9 #[.agg #[.int .i64 x505000_1, .int .i64 x505001_1, .bool x505002_1], .agg #[.int .i64 x505000_1, .int .i64 x505001_1, .bool x505002_1]] ?_; (with_reducible refine (impl_PointAdd.calls k1 x505000_1 x505001_1 x505002_1 x505000_1 x505001_1 x505002_1 t512 t513 t514 _ A25.out).mono ?_); rintro e w70 ⟨rfl, hb⟩; refine ⟨_, rfl, ?_⟩; replace BK500 := bB BK500 hb; replace BK501 := bB BK501 hb; replace BK502 := bB BK502 hb; replace BK503 := bV 75 #[.int .i64 t510, .int .i64 t511] BK503 hb; replace BK504 := bB BK504 hb; replace HB := bS HB hb; (try clear hb); obtain ⟨hcz71_0, hcz71_1, hcz71_2, hfz71_0, hfz71_1, hfz71_2⟩ := bK3 (w := w70) BK504))
      go_roundg k1
      case measure => have := HK1.out; omega
      case rel => exact ⟨(wrap64 (x7_1 - 1)), (t510), (t511), (t512), (t513), (t514), rS, H', ⟨by have := HK1.out; omega⟩, ⟨bP BK500⟩, ⟨bP BK501⟩, ⟨bP BK502⟩, ⟨bP BK503⟩, ⟨bU BK504⟩, ⟨bZ HB⟩⟩
    ·rw [if_neg c27] at H
     exact absurd H (by simp)
   ·rw [if_neg c21] at H
    have c21b0 := decide_eq_false c21
    clear c21
    simp only [Option.some.injEq, Prod.mk.injEq] at H
    obtain ⟨rfl, rfl⟩ := H
    obtain ⟨hnb72, hnc72⟩ := nB NB503_500
    obtain ⟨hnb73, hnc73⟩ := nB NB503_501
    obtain ⟨hnb74, hnc74⟩ := nB NB503_502
    obtain ⟨hnb75, hnc75⟩ := nB NB503_504
    obtain ⟨hcz76_0, hcz76_1, hfz76_0, hfz76_1⟩ := bK2 (w := wr) BK503
    obtain ⟨hnb77, hnc77⟩ := nB NB502_500
    obtain ⟨hnb78, hnc78⟩ := nB NB502_501
    obtain ⟨hnb79, hnc79⟩ := nB NB502_504
    obtain ⟨hcz80_0, hcz80_1, hfz80_0, hfz80_1⟩ := bK2 (w := wr) BK502
    go_wp2
    refine rC gb502 75 #[.int .i64 x504000_1, .int .i64 x504001_1] (bU BK502) Tryz.underlying75 ?_
    exact ⟨rR, bZ HB⟩
def impl_TwoPow.l0 : Nat → Int → Int → Int → Int → Int → Option (Int × Int)
 | 0, _, _, _, _, _ => none
 | k + 1, x1, x523000, x523001, x525000, x525001 => if x1 > 0 then (if (Int.tmod x1 2) = 1 then ((impl_TwoMul.f x525000 x525001 x523000 x523001).bind fun bt525 => ((impl_TwoMul.f x523000 x523001 x523000 x523001).bind fun bt527 => (impl_TwoPow.l0 k (wrap64 (Int.tdiv x1 2)) bt527.1 bt527.2 bt525.1 bt525.2))) else ((impl_TwoMul.f x523000 x523001 x523000 x523001).bind fun bt529 => (impl_TwoPow.l0 k (wrap64 (Int.tdiv x1 2)) bt529.1 bt529.2 x525000 x525001))) else (some (x525000, x525001))
def impl_TwoPow.f (k : Nat) (a0_0 : Int) (a0_1 : Int) (a1 : Int) : Option (Int × Int) := if a1 < 0 then (some (0, 0)) else (impl_TwoPow.l0 k a1 a0_0 a0_1 1 0)
set_option maxHeartbeats 8000000 in
set_option maxRecDepth 100000 in
theorem impl_TwoPow.calls (k : Nat) (a0_0 : Int) (a0_1 : Int) (a1 : Int) (r1 : Int) (r2 : Int) (w : World) (h : impl_TwoPow.f k a0_0 a0_1 a1 = some (r1, r2)) :
  Calls Tryz.prog 103 #[.agg #[.int .i64 a0_0, .int .i64 a0_1], .int .i64 a1] w fun e w' => e = .returned (.agg #[.int .i64 r1, .int .i64 r2]) ∧ Below w.heap.size w w' := by
 have hu75 := Tryz.underlying75
 have HB := Aside0.mk (Below.refl w.heap.size w)
 have H : (if a1 < 0 then (some (0, 0)) else (impl_TwoPow.l0 k a1 a0_0 a0_1 1 0)) = some (r1, r2) := h
 clear h
 by_cases c3 : a1 < 0
 ·rw [if_pos c3] at H
  have c3b0 := decide_eq_true c3
  clear c3
  simp only [Option.some.injEq, Prod.mk.injEq] at H
  obtain ⟨rfl, rfl⟩ := H
  go_enter Tryz.func103, Tryz.ntmps103
  go_wp2_with (first | (refine gB 2 #[.int .i64 a0_0, .int .i64 a0_1] 75 ?_; intro gb522 hg w4 BK522 hb; have GW522 := bG HB hg; replace HB := bS HB hb; clear hb hg) | (refine gB 4 #[.int .i64 0, .int .i64 0] 75 ?_; intro gb523 hg w5 BK523 hb; have GW523 := bG HB hg; replace HB := bS HB hb; obtain ⟨NB522_523, NB523_522⟩ := bN BK522 hg; replace BK522 := bB BK522 hb; clear hb hg; obtain ⟨hnb6, hnc6⟩ := nB NB523_522; obtain ⟨hcz7_0, hcz7_1, hfz7_0, hfz7_1⟩ := bK2 (w := w5) BK523))
  refine rC gb523 75 #[.int .i64 0, .int .i64 0] (bU BK523) Tryz.underlying75 ?_
  exact ⟨rR, bZ HB⟩
 ·rw [if_neg c3] at H
  have c3b0 := decide_eq_false c3
  clear c3
  have H' := Aside0.mk H
  clear H
  go_enter Tryz.func103, Tryz.ntmps103
  go_wp2_with (first | (refine gB 2 #[.int .i64 a0_0, .int .i64 a0_1] 75 ?_; intro gb522 hg w8 BK522 hb; have GW522 := bG HB hg; replace HB := bS HB hb; clear hb hg) | (refine gB 4 #[.int .i64 0, .int .i64 0] 75 ?_; intro gb523 hg w9 BK523 hb; have GW523 := bG HB hg; replace HB := bS HB hb; obtain ⟨NB522_523, NB523_522⟩ := bN BK522 hg; replace BK522 := bB BK522 hb; clear hb hg) | (refine gB 5 #[.int .i64 0, .int .i64 0] 75 ?_; intro gb524 hg w10 BK524 hb; have GW524 := bG HB hg; replace HB := bS HB hb; obtain ⟨NB522_524, NB524_522⟩ := bN BK522 hg; replace BK522 := bB BK522 hb; obtain ⟨NB523_524, NB524_523⟩ := bN BK523 hg; replace BK523 := bB BK523 hb; clear hb hg; obtain ⟨hnb11, hnc11⟩ := nB NB524_522; obtain ⟨hnb12, hnc12⟩ := nB NB524_523; obtain ⟨hcz13_0, hcz13_1, hfz13_0, hfz13_1⟩ := bK2 (w := w10) BK524))
  go_loopg [1] k (fun kq v1 w' => ∃ (x1_1 : Int) (x523000_1 : Int) (x523001_1 : Int) (x525000_1 : Int) (x525001_1 : Int), v1 = .int .i64 x1_1 ∧ Aside0 (impl_TwoPow.l0 kq x1_1 x523000_1 x523001_1 x525000_1 x525001_1 = some (r1, r2)) ∧ Aside0 (kq ≤ k) ∧ Aside0 (w'.heap[gb522]? = some (.cells #[.int .i64 x523000_1, .int .i64 x523001_1] 75 (0, 0))) ∧ Aside0 (w'.heap[gb523]? = some (.cells #[.int .i64 0, .int .i64 0] 75 (0, 0))) ∧ Aside0 (w'.heap[gb524]? = some (.cells #[.int .i64 x525000_1, .int .i64 x525001_1] 75 (0, 0))) ∧ Aside0 (Below w.heap.size w w'))
  case atStart => exact ⟨(a1), (a0_0), (a0_1), (1), (0), rS, H', ⟨Nat.le_refl _⟩, ⟨bP BK522⟩, ⟨bP BK523⟩, ⟨bU BK524⟩, ⟨bZ HB⟩⟩
  case round =>
   clear H'
   try clear c1
   try clear p2
   try clear c3
   try clear c3b0
   try clear c6
   try clear c10
   try clear c11
   try clear c12
   try clear hcz13_0
   try clear hcz13_1
   try clear hcz7_0
   try clear hcz7_1
   try clear hfz13_0
   try clear hfz13_1
   try clear hfz7_0
   try clear hfz7_1
   obtain ⟨x1_1, x523000_1, x523001_1, x525000_1, x525001_1, rfl, HA, HK1, BK522, BK523, BK524, HB⟩ := hrel
   cases gk with
   | zero => exact absurd HA.out (by simp [impl_TwoPow.l0])
   | succ k1 =>
    have H := HA.out
    clear HA
    simp only [impl_TwoPow.l0] at H
    by_cases c14 : x1_1 > 0
    ·rw [if_pos c14] at H
     have c14b0 := decide_eq_true c14
     clear c14
     by_cases c15 : (Int.tmod x1_1 2) = 1
     ·rw [if_pos c15] at H
      have c15b0 : ((Int.tmod x1_1 2) == 1) = true := beq_iff_eq.mpr c15
      have c15b1 : ((Int.tmod x1_1 2) != 1) = false := bne_eq_false_iff_eq.mpr c15
      clear c15
      replace H := Option.bind_eq_some_iff.mp H
      obtain ⟨⟨t525, t526⟩, A160, H⟩ := H
      have A16 := Aside0.mk A160
      clear A160
      replace H := Option.bind_eq_some_iff.mp H
      obtain ⟨⟨t527, t528⟩, A170, H⟩ := H
      have A17 := Aside0.mk A170
      clear A170
      have H' := Aside0.mk H
      clear H
      obtain ⟨hnb18, hnc18⟩ := nB NB524_522
      obtain ⟨hnb19, hnc19⟩ := nB NB524_523
      obtain ⟨hcz20_0, hcz20_1, hfz20_0, hfz20_1⟩ := bK2 (w := wr) BK524
      obtain ⟨hnb21, hnc21⟩ := nB NB522_523
      obtain ⟨hcz22_0, hcz22_1, hfz22_0, hfz22_1⟩ := bK2 (w := wr) BK522
      go_wp2_with (first | (refine gC (some 17) Tryz.func104 #[.agg #[.int .i64 x525000_1, .int .i64 x525001_1], .agg #[.int .i64 x523000_1, .int .i64 x523001_1]] ?_; (with_reducible refine (impl_TwoMul.calls x525000_1 x525001_1 x523000_1 x523001_1 t525 t526 _ A16.out).mono ?_); rintro e w23 ⟨rfl, hb⟩; refine ⟨_, rfl, ?_⟩; replace BK522 := bB BK522 hb; replace BK523 := bB BK523 hb; replace BK524 := bB BK524 hb; replace HB := bS HB hb; (try clear hb); obtain ⟨hcz24_0, hcz24_1, hfz24_0, hfz24_1⟩ := bK2 (w := w23) BK524; obtain ⟨hcz25_0, hcz25_1, hfz25_0, hfz25_1⟩ := bK2 (w := w23) BK522) | (refine gC (some 20) Tryz.func104 #[.agg #[.int .i64 x523000_1, .int .i64 x523001_1], .agg #[.int .i64 x523000_1, .int .i64 x523001_1]] ?_; (with_reducible refine (impl_TwoMul.calls x523000_1 x523001_1 x523000_1 x523001_1 t527 t528 _ A17.out).mono ?_); rintro e w26 ⟨rfl, hb⟩; refine ⟨_, rfl, ?_⟩; replace BK522 := bB BK522 hb; replace BK523 := bB BK523 hb; replace BK524 := bV 75 #[.int .i64 t525, .int .i64 t526] BK524 hb; replace HB := bS HB hb; (try clear hb); obtain ⟨hcz27_0, hcz27_1, hfz27_0, hfz27_1⟩ := bK2 (w := w26) BK522))
      go_roundg k1
      case measure => have := HK1.out; omega
      case rel => exact ⟨(wrap64 (Int.tdiv x1_1 2)), (t527), (t528), (t525), (t526), rS, H', ⟨by have := HK1.out; omega⟩, ⟨bU BK522⟩, ⟨bP BK523⟩, ⟨bP BK524⟩, ⟨bZ HB⟩⟩
     ·rw [if_neg c15] at H
      have c15b0 : ((Int.tmod x1_1 2) == 1) = false := beq_eq_false_iff_ne.mpr c15
      have c15b1 : ((Int.tmod x1_1 2) != 1) = true := bne_iff_ne.mpr c15
      replace H := Option.bind_eq_some_iff.mp H
      obtain ⟨⟨t529, t530⟩, A280, H⟩ := H
      have A28 := Aside0.mk A280
      clear A280
      have H' := Aside0.mk H
      clear H
      obtain ⟨hnb29, hnc29⟩ := nB NB522_523
      obtain ⟨hnb30, hnc30⟩ := nB NB522_524
      obtain ⟨hcz31_0, hcz31_1, hfz31_0, hfz31_1⟩ := bK2 (w := wr) BK522
      go_wp2_with (first | (refine gC (some 20) Tryz.func104 #[.agg #[.int .i64 x523000_1, .int .i64 x523001_1], .agg #[.int .i64 x523000_1, .int .i64 x523001_1]] ?_; (with_reducible refine (impl_TwoMul.calls x523000_1 x523001_1 x523000_1 x523001_1 t529 t530 _ A28.out).mono ?_); rintro e w32 ⟨rfl, hb⟩; refine ⟨_, rfl, ?_⟩; replace BK522 := bB BK522 hb; replace BK523 := bB BK523 hb; replace BK524 := bB BK524 hb; replace HB := bS HB hb; (try clear hb); obtain ⟨hcz33_0, hcz33_1, hfz33_0, hfz33_1⟩ := bK2 (w := w32) BK522))
      go_roundg k1
      case measure => have := HK1.out; omega
      case rel => exact ⟨(wrap64 (Int.tdiv x1_1 2)), (t529), (t530), (x525000_1), (x525001_1), rS, H', ⟨by have := HK1.out; omega⟩, ⟨bU BK522⟩, ⟨bP BK523⟩, ⟨bP BK524⟩, ⟨bZ HB⟩⟩
    ·rw [if_neg c14] at H
     have c14b0 := decide_eq_false c14
     clear c14
     simp only [Option.some.injEq, Prod.mk.injEq] at H
     obtain ⟨rfl, rfl⟩ := H
     obtain ⟨hnb34, hnc34⟩ := nB NB524_522
     obtain ⟨hnb35, hnc35⟩ := nB NB524_523
     obtain ⟨hcz36_0, hcz36_1, hfz36_0, hfz36_1⟩ := bK2 (w := wr) BK524
     obtain ⟨hnb37, hnc37⟩ := nB NB523_522
     obtain ⟨hcz38_0, hcz38_1, hfz38_0, hfz38_1⟩ := bK2 (w := wr) BK523
     go_wp2
     refine rC gb523 75 #[.int .i64 x525000_1, .int .i64 x525001_1] (bU BK523) Tryz.underlying75 ?_
     exact ⟨rR, bZ HB⟩
def impl_TwoTurn.f (a0_0 : Int) (a0_1 : Int) : Option (Int × Int) := (impl_FpOf.f a0_0).bind fun t533 => ((impl_FpSub.f 0 a0_1).bind fun t534 => (some (t533, t534)))
def impl_TwoTurn.T1 : Bool × List (List Nat × List Nat) := (true, [([], []), ([0], [0]), ([1], [1]), ([], []), ([3], [3]), ([4, 2], [4]), ([2, 5], [2, 5]), ([6, 5, 0, 1, 2, 3, 4, 5, 6], [6])])
def impl_TwoTurn.B1 : List Nat := [0, 1, 3, 0, 8, 31, 63, 127]
theorem impl_TwoTurn.tab1 : rtab .any (opsOf Tryz.f105 1) = impl_TwoTurn.T1 := by kernel_rfl
theorem impl_TwoTurn.bits1 : waitsOk impl_TwoTurn.T1.2 impl_TwoTurn.B1 = true := by kernel_rfl
set_option maxHeartbeats 8000000 in
set_option maxRecDepth 100000 in
theorem impl_TwoTurn.calls (a0_0 : Int) (a0_1 : Int) (r1 : Int) (r2 : Int) (w : World) (h : impl_TwoTurn.f a0_0 a0_1 = some (r1, r2)) :
  Calls Tryz.prog 105 #[.agg #[.int .i64 a0_0, .int .i64 a0_1]] w fun e w' => e = .returned (.agg #[.int .i64 r1, .int .i64 r2]) ∧ Below w.heap.size w w' := by
 have hu75 := Tryz.underlying75
 have HB := Aside0.mk (Below.refl w.heap.size w)
 have H : ((impl_FpOf.f a0_0).bind fun t533 => ((impl_FpSub.f 0 a0_1).bind fun t534 => (some (t533, t534)))) = some (r1, r2) := h
 clear h
 replace H := Option.bind_eq_some_iff.mp H
 obtain ⟨t533, A20, H⟩ := H
 have A2 := Aside0.mk A20
 clear A20
 replace H := Option.bind_eq_some_iff.mp H
 obtain ⟨t534, A30, H⟩ := H
 have A3 := Aside0.mk A30
 clear A30
 simp only [Option.some.injEq, Prod.mk.injEq] at H
 obtain ⟨rfl, rfl⟩ := H
 go_enter Tryz.func105, Tryz.ntmps105
 try go_wp2_with (first | (refine gB 1 #[.int .i64 a0_0, .int .i64 a0_1] 75 ?_; intro gb531 hg w4 BK531 hb; have GW531 := bG HB hg; replace HB := bS HB hb; clear hb hg) | (refine gB 2 #[.int .i64 0, .int .i64 0] 75 ?_; intro gb532 hg w5 BK532 hb; have GW532 := bG HB hg; replace HB := bS HB hb; obtain ⟨NB531_532, NB532_531⟩ := bN BK531 hg; replace BK531 := bB BK531 hb; clear hb hg))
 replace BK531 := Aside0.mk (blk_drew BK531.out)
 replace BK532 := Aside0.mk (blk_drew BK532.out)
 replace HB := Aside0.mk (below_drew1 HB.out)
 refine start_ (n := 8) (S := fun w' => SQ2 w' gb531 (.int .i64 a0_0) (.int .i64 a0_1)) (ds := []) #[false, false, false, false, false, false, false, false] (by kernel_rfl) rfl rfl (bT2 BK531) (fun hHeld => ?_); refine with_tabW impl_TwoTurn.tab1 impl_TwoTurn.bits1 (fun HT_ HW_ => ?_)
 generalize w5.drew = w6 at BK531 BK532 HB hHeld ⊢
 refine pI 0 (some 3) HT_.out ?_
 refine pI 3 (some 6) HT_.out ?_
 refine tI2 1 (some 4) HT_.out HW_.out hHeld ?_
 refine tI2 4 (some 7) HT_.out HW_.out hHeld ?_
 refine oI 2 (some 5) HT_.out (fun K hK => ?_)
 refine gO Tryz.func56 #[.int .i64 a0_0] ?_
 with_reducible refine (impl_FpOf.calls a0_0 t533 _ A2.out).mono ?_
 rintro e w' ⟨rfl, ⟨nd, rfl⟩⟩
 refine ⟨_, rfl, ?_⟩
 refine hK.out _ _ (bT2 BK531) (fun hHeld => ?_)
 clear hK K
 refine nO (some 5) ?_
 refine oI 5 (some 8) HT_.out (fun K hK => ?_)
 refine gO Tryz.func90 #[.int .i64 0, .int .i64 a0_1] ?_
 with_reducible refine (impl_FpSub.calls 0 a0_1 t534 _ A3.out).mono ?_
 rintro e w' ⟨rfl, ⟨nd, rfl⟩⟩
 refine ⟨_, rfl, ?_⟩
 refine hK.out _ _ (bT2 BK531) (fun hHeld => ?_)
 clear hK K
 refine nO (some 8) ?_
 refine pI 6 (some 9) HT_.out ?_
 refine oI 7 (none) HT_.out (fun K hK => ?_)
 have hs7 : w6.cell? ⟨gb532, 0, none⟩ = some (.int .i64 0) := bc BK532 0
 have hfs7 := blk_frozen BK532.out 0
 obtain ⟨hns7_0, hms7_0⟩ := nB NB531_532
 have hs8 : w6.cell? ⟨gb532, 1, none⟩ = some (.int .i64 0) := bc BK532 1
 have hfs8 := blk_frozen BK532.out 1
 obtain ⟨hns8_0, hms8_0⟩ := nB NB531_532
 refine skip_ (w1 := ?_) (by rfl) rfl ?_ ?_
 rotate_left
 ·go_simp
  rfl
 refine hK.out _ _ ⟨((cell_far (p := ⟨gb532, _, none⟩) NB531_532.out _).trans (((cell_far (p := ⟨gb532, _, none⟩) NB531_532.out _).trans (hHeld.1)))), ((cell_far (p := ⟨gb532, _, none⟩) NB531_532.out _).trans (((cell_far (p := ⟨gb532, _, none⟩) NB531_532.out _).trans (hHeld.2))))⟩ (fun hHeld => ?_)
 clear hK K
 refine done_ (done_of HT_.out (by kernel_rfl)) ?_
 try go_wp2
 refine rC gb532 75 #[.int .i64 t533, .int .i64 t534] (bU BK532) Tryz.underlying75 ?_
 exact ⟨rR, bZ HB⟩
def impl_TwoInv.f (k : Nat) (a0_0 : Int) (a0_1 : Int) : Option (Int × Int) := (impl_FpMul.f a0_0 a0_0).bind fun t537 => ((impl_FpMul.f a0_1 a0_1).bind fun t538 => ((impl_FpAdd.f t537 t538).bind fun t539 => ((impl_FpInv.f k t539).bind fun t540 => ((impl_FpMul.f a0_0 t540).bind fun t541 => ((impl_FpSub.f 0 a0_1).bind fun t542 => ((impl_FpMul.f t542 t540).bind fun t543 => (some (t541, t543))))))))
def impl_TwoInv.T1 : Bool × List (List Nat × List Nat) := (true, [([], []), ([0], [0]), ([], []), ([2], [2]), ([1, 3], [1, 3]), ([], []), ([5], [5]), ([], []), ([7], [7]), ([6, 8, 4], [6, 8]), ([4, 9, 9], [4, 9]), ([10, 10], [10]), ([11, 11, 0, 1, 2, 3, 4, 5, 6, 7, 8, 9, 10, 11], [11])])
def impl_TwoInv.B1 : List Nat := [0, 1, 0, 4, 15, 0, 32, 0, 128, 511, 1023, 2047, 4095]
theorem impl_TwoInv.tab1 : rtab .any (opsOf Tryz.f106 1) = impl_TwoInv.T1 := by kernel_rfl
theorem impl_TwoInv.bits1 : waitsOk impl_TwoInv.T1.2 impl_TwoInv.B1 = true := by kernel_rfl
def impl_TwoInv.T2 : Bool × List (List Nat × List Nat) := (true, [([], []), ([0], [0]), ([], []), ([1, 2], [1, 2]), ([], []), ([4], [4]), ([5, 3], [5]), ([], []), ([6, 7, 6], [6, 7]), ([3, 8], [3, 8]), ([9, 8, 0, 1, 2, 3, 4, 5, 6, 7, 8, 9], [9])])
def impl_TwoInv.B2 : List Nat := [0, 1, 0, 7, 0, 16, 63, 0, 255, 511, 1023]
theorem impl_TwoInv.tab2 : rtab .any (opsOf Tryz.f106 2) = impl_TwoInv.T2 := by kernel_rfl
theorem impl_TwoInv.bits2 : waitsOk impl_TwoInv.T2.2 impl_TwoInv.B2 = true := by kernel_rfl
set_option maxHeartbeats 8000000 in
set_option maxRecDepth 100000 in
theorem impl_TwoInv.calls (k : Nat) (a0_0 : Int) (a0_1 : Int) (r1 : Int) (r2 : Int) (w : World) (h : impl_TwoInv.f k a0_0 a0_1 = some (r1, r2)) :
  Calls Tryz.prog 106 #[.agg #[.int .i64 a0_0, .int .i64 a0_1]] w fun e w' => e = .returned (.agg #[.int .i64 r1, .int .i64 r2]) ∧ Below w.heap.size w w' := by
 have hu75 := Tryz.underlying75
 have HB := Aside0.mk (Below.refl w.heap.size w)
 have H : ((impl_FpMul.f a0_0 a0_0).bind fun t537 => ((impl_FpMul.f a0_1 a0_1).bind fun t538 => ((impl_FpAdd.f t537 t538).bind fun t539 => ((impl_FpInv.f k t539).bind fun t540 => ((impl_FpMul.f a0_0 t540).bind fun t541 => ((impl_FpSub.f 0 a0_1).bind fun t542 => ((impl_FpMul.f t542 t540).bind fun t543 => (some (t541, t543))))))))) = some (r1, r2) := h
 clear h
 replace H := Option.bind_eq_some_iff.mp H
 obtain ⟨t537, A20, H⟩ := H
 have A2 := Aside0.mk A20
 clear A20
 replace H := Option.bind_eq_some_iff.mp H
 obtain ⟨t538, A30, H⟩ := H
 have A3 := Aside0.mk A30
 clear A30
 replace H := Option.bind_eq_some_iff.mp H
 obtain ⟨t539, A40, H⟩ := H
 have A4 := Aside0.mk A40
 clear A40
 replace H := Option.bind_eq_some_iff.mp H
 obtain ⟨t540, A50, H⟩ := H
 have A5 := Aside0.mk A50
 clear A50
 replace H := Option.bind_eq_some_iff.mp H
 obtain ⟨t541, A60, H⟩ := H
 have A6 := Aside0.mk A60
 clear A60
 replace H := Option.bind_eq_some_iff.mp H
 obtain ⟨t542, A70, H⟩ := H
 have A7 := Aside0.mk A70
 clear A70
 replace H := Option.bind_eq_some_iff.mp H
 obtain ⟨t543, A80, H⟩ := H
 have A8 := Aside0.mk A80
 clear A80
 simp only [Option.some.injEq, Prod.mk.injEq] at H
 obtain ⟨rfl, rfl⟩ := H
 go_enter Tryz.func106, Tryz.ntmps106
 try go_wp2_with (first | (refine gB 1 #[.int .i64 a0_0, .int .i64 a0_1] 75 ?_; intro gb535 hg w9 BK535 hb; have GW535 := bG HB hg; replace HB := bS HB hb; clear hb hg) | (refine gB 2 #[.int .i64 0, .int .i64 0] 75 ?_; intro gb536 hg w10 BK536 hb; have GW536 := bG HB hg; replace HB := bS HB hb; obtain ⟨NB535_536, NB536_535⟩ := bN BK535 hg; replace BK535 := bB BK535 hb; clear hb hg))
 replace BK535 := Aside0.mk (blk_drew BK535.out)
 replace BK536 := Aside0.mk (blk_drew BK536.out)
 replace HB := Aside0.mk (below_drew1 HB.out)
 refine start_ (n := 13) (S := fun w' => SQ2 w' gb535 (.int .i64 a0_0) (.int .i64 a0_1)) (ds := []) #[false, false, false, false, false, false, false, false, false, false, false, false, false] (by kernel_rfl) rfl rfl (bT2 BK535) (fun hHeld => ?_); refine with_tabW impl_TwoInv.tab1 impl_TwoInv.bits1 (fun HT_ HW_ => ?_)
 generalize w10.drew = w11 at BK535 BK536 HB hHeld ⊢
 refine pI 0 (some 4) HT_.out ?_
 refine pI 2 (some 6) HT_.out ?_
 refine pI 5 (some 9) HT_.out ?_
 refine pI 7 (some 11) HT_.out ?_
 refine tI2 1 (some 5) HT_.out HW_.out hHeld ?_
 refine tI2 3 (some 7) HT_.out HW_.out hHeld ?_
 refine tI2 6 (some 10) HT_.out HW_.out hHeld ?_
 refine tI2 8 (some 12) HT_.out HW_.out hHeld ?_
 refine oI 4 (some 8) HT_.out (fun K hK => ?_)
 refine gO Tryz.func88 #[.int .i64 a0_0, .int .i64 a0_0] ?_
 with_reducible refine (impl_FpMul.calls a0_0 a0_0 t537 _ A2.out).mono ?_
 rintro e w' ⟨rfl, ⟨nd, rfl⟩⟩
 refine ⟨_, rfl, ?_⟩
 refine hK.out _ _ (bT2 BK535) (fun hHeld => ?_)
 clear hK K
 refine nO (some 8) ?_
 refine oI 9 (some 13) HT_.out (fun K hK => ?_)
 refine gO Tryz.func88 #[.int .i64 a0_1, .int .i64 a0_1] ?_
 with_reducible refine (impl_FpMul.calls a0_1 a0_1 t538 _ A3.out).mono ?_
 rintro e w' ⟨rfl, ⟨nd, rfl⟩⟩
 refine ⟨_, rfl, ?_⟩
 refine hK.out _ _ (bT2 BK535) (fun hHeld => ?_)
 clear hK K
 refine nO (some 13) ?_
 refine oI 10 (some 14) HT_.out (fun K hK => ?_)
 refine gO Tryz.func98 #[.int .i64 t537, .int .i64 t538] ?_
 with_reducible refine (impl_FpAdd.calls t537 t538 t539 _ A4.out).mono ?_
 rintro e w' ⟨rfl, ⟨nd, rfl⟩⟩
 refine ⟨_, rfl, ?_⟩
 refine hK.out _ _ (bT2 BK535) (fun hHeld => ?_)
 clear hK K
 refine nO (some 14) ?_
 refine oI 11 (some 15) HT_.out (fun K hK => ?_)
 refine gO Tryz.func131 #[.int .i64 t539] ?_
 with_reducible refine (impl_FpInv.calls k t539 t540 _ A5.out).mono ?_
 rintro e w' ⟨rfl, ⟨nd, rfl⟩⟩
 refine ⟨_, rfl, ?_⟩
 refine hK.out _ _ (bT2 BK535) (fun hHeld => ?_)
 clear hK K
 refine nO (some 15) ?_
 refine pI 12 (some 3) HT_.out ?_
 refine done_ (done_of HT_.out (by kernel_rfl)) ?_
 try go_wp2
 (try simp only [World.drewN_drewN]); (try (rw [drewN_self w11]; generalize hq_ : World.drewN w11 _ = w11; replace BK535 : Aside0 (w11.heap[gb535]? = some (.cells #[.int .i64 a0_0, .int .i64 a0_1] 75 (0, 0))) := ⟨by rw [← hq_]; exact (bP BK535)⟩; replace BK536 : Aside0 (w11.heap[gb536]? = some (.cells #[.int .i64 0, .int .i64 0] 75 (0, 0))) := ⟨by rw [← hq_]; exact (bP BK536)⟩; replace HB : Aside0 (Below w.heap.size w w11) := ⟨by rw [← hq_]; exact (bZ HB)⟩; clear hq_))
 replace BK535 := Aside0.mk (blk_drew BK535.out)
 replace BK536 := Aside0.mk (blk_drew BK536.out)
 replace HB := Aside0.mk (below_drew1 HB.out)
 refine start_ (n := 11) (S := fun w' => SQ2 w' gb535 (.int .i64 a0_0) (.int .i64 a0_1)) (ds := []) #[false, false, false, false, false, false, false, false, false, false, false] (by kernel_rfl) rfl rfl (bT2 BK535) (fun hHeld => ?_); refine with_tabW impl_TwoInv.tab2 impl_TwoInv.bits2 (fun HT_ HW_ => ?_)
 generalize w11.drew = w12 at BK535 BK536 HB hHeld ⊢
 refine pI 0 (some 16) HT_.out ?_
 refine pI 2 (some 18) HT_.out ?_
 refine pI 4 (some 20) HT_.out ?_
 refine pI 7 (some 23) HT_.out ?_
 refine tI2 1 (some 17) HT_.out HW_.out hHeld ?_
 refine tI2 5 (some 21) HT_.out HW_.out hHeld ?_
 refine oI 3 (some 19) HT_.out (fun K hK => ?_)
 refine gO Tryz.func88 #[.int .i64 a0_0, .int .i64 t540] ?_
 with_reducible refine (impl_FpMul.calls a0_0 t540 t541 _ A6.out).mono ?_
 rintro e w' ⟨rfl, ⟨nd, rfl⟩⟩
 refine ⟨_, rfl, ?_⟩
 refine hK.out _ _ (bT2 BK535) (fun hHeld => ?_)
 clear hK K
 refine nO (some 19) ?_
 refine oI 6 (some 22) HT_.out (fun K hK => ?_)
 refine gO Tryz.func90 #[.int .i64 0, .int .i64 a0_1] ?_
 with_reducible refine (impl_FpSub.calls 0 a0_1 t542 _ A7.out).mono ?_
 rintro e w' ⟨rfl, ⟨nd, rfl⟩⟩
 refine ⟨_, rfl, ?_⟩
 refine hK.out _ _ (bT2 BK535) (fun hHeld => ?_)
 clear hK K
 refine nO (some 22) ?_
 refine oI 8 (some 24) HT_.out (fun K hK => ?_)
 refine gO Tryz.func88 #[.int .i64 t542, .int .i64 t540] ?_
 with_reducible refine (impl_FpMul.calls t542 t540 t543 _ A8.out).mono ?_
 rintro e w' ⟨rfl, ⟨nd, rfl⟩⟩
 refine ⟨_, rfl, ?_⟩
 refine hK.out _ _ (bT2 BK535) (fun hHeld => ?_)
 clear hK K
 refine nO (some 24) ?_
 refine pI 9 (some 25) HT_.out ?_
 refine oI 10 (none) HT_.out (fun K hK => ?_)
 have hs13 : w12.cell? ⟨gb536, 0, none⟩ = some (.int .i64 0) := bc BK536 0
 have hfs13 := blk_frozen BK536.out 0
 obtain ⟨hns13_0, hms13_0⟩ := nB NB535_536
 have hs14 : w12.cell? ⟨gb536, 1, none⟩ = some (.int .i64 0) := bc BK536 1
 have hfs14 := blk_frozen BK536.out 1
 obtain ⟨hns14_0, hms14_0⟩ := nB NB535_536
 refine skip_ (w1 := ?_) (by rfl) rfl ?_ ?_
 rotate_left
 ·go_simp
  rfl
 refine hK.out _ _ ⟨((cell_far (p := ⟨gb536, _, none⟩) NB535_536.out _).trans (((cell_far (p := ⟨gb536, _, none⟩) NB535_536.out _).trans (hHeld.1)))), ((cell_far (p := ⟨gb536, _, none⟩) NB535_536.out _).trans (((cell_far (p := ⟨gb536, _, none⟩) NB535_536.out _).trans (hHeld.2))))⟩ (fun hHeld => ?_)
 clear hK K
 refine done_ (done_of HT_.out (by kernel_rfl)) ?_
 try go_wp2
 refine rC gb536 75 #[.int .i64 t541, .int .i64 t543] (bU BK536) Tryz.underlying75 ?_
 exact ⟨rR, bZ HB⟩
end Go.Proofs.YtkdmplfldfagnaaGreatDoor.Pf
end
